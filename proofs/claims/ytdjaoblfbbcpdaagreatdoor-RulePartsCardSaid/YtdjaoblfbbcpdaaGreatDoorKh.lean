import Derived.Test.YtdjaoblfbbcpdaaGreatDoorKg
import Derived.Test.YtdjaoblfbbcpdaaGreatDoorProg
import Derived.Lib.Bytealg
set_option linter.unusedVariables false
set_option linter.unusedSimpArgs false
set_option linter.constructorNameAsVariable false
set_option linter.defProp false
namespace Go.TV
open Go.AI Go.PI
def le{W:Type}(a b:Option W):Prop:= ∀r,a=some r->b=some r
def fT{W:Type}{b:Option W}:le none b:=λr h=>by cases h
def AF{W:Type}{b:Option W}:le b b:=λr h=>h
def iJ{W:Type}{b:Bool}{A B A' B':Option W}(h1:le A A')(h2:le B B'):le (bS b A B) (bS b A' B'):=by cases b;exact h2;exact h1
def eN{W:Type}{b:Bool}{A B A' B':Option W}(h1:le A A')(h2:le B B'):le (bif b then A else B) (bif b then A' else B'):=by cases b;exact h2;exact h1
def iR{W:Type}{b:Bool}{A A':Option W}(h:le A A'):le (kV b A) (kV b A'):=by cases b;exact fT;exact h
def rJ{N W:Type}{a:Option N}{K K':N->Option W}(h: ∀x,le (K x) (K' x)):le (ob a K) (ob a K'):=by cases a;exact fT;exact h _
section
variable{U:hY}{W:Type}
def aLn{op:BinOp}{k:IntKind}{a b:Int}{K K':V U->Option W}(h: ∀x,le (K x) (K' x)):le (aEg U op k a b K) (aEg U op k a b K'):=by
 unfold aEg
 repeat' first|exact h _|exact fT|apply eN|apply iR|apply iJ|split
def aSg{op:BinOp}{k:IntKind}{a b:Int}{K K':V U->Option W}(h: ∀x,le (K x) (K' x)):le (a4s U op k a b K) (a4s U op k a b K'):=by
 unfold a4s
 repeat' first|exact h _|exact fT|apply eN|apply iR|apply iJ|split
def aJ3{op:BinOp}{a b:List UInt8}{K K':V U->Option W}(h: ∀x,le (K x) (K' x)):le (aBR U op a b K) (aBR U op a b K'):=by
 unfold aBR
 repeat' first|exact h _|exact fT|apply eN|apply iR|apply iJ|split
def aMP{op:BinOp}{t:Option Ty}{a b:SV U.D}{K K':V U->Option W}(h: ∀x,le (K x) (K' x)):le (aAQ U op t a b K) (aAQ U op t a b K'):=by
 unfold aAQ
 repeat' first|exact h _|exact fT|exact aLn h|exact aSg h|exact aJ3 h|apply eN|apply iR|apply iJ|split
def aRm{op:UnOp}{a:SV U.D}{K K':V U->Option W}(h: ∀x,le (K x) (K' x)):le (a2U U op a K) (a2U U op a K'):=by
 unfold a2U
 repeat' first|exact h _|exact h _ _|exact fT|exact AF|apply eN|apply iR|apply iJ|(apply rJ;intro x)|split
def aFt{sq:Bool}{s d:Option Ty}{a:SV U.D}{K K':V U->Option W}(h: ∀x,le (K x) (K' x)):le (GW U sq s d a K) (GW U sq s d a K'):=by
 unfold GW
 repeat' first|exact h _|exact h _ _|exact fT|exact AF|apply eN|apply iR|apply iJ|(apply rJ;intro x)|split
def aDq{w:Bool}{a b:X U}{K K':X U->Option W}(h: ∀x,le (K x) (K' x)):le (Gz U w a b K) (Gz U w a b K'):=by
 unfold Gz
 repeat' first|exact h _|exact h _ _|exact fT|exact AF|apply eN|apply iR|apply iJ|(apply rJ;intro x)|split
def aSb{S:TS U.D}{t:Option Ty}{x:SV U.D}{lo hi mx:Option Operand}{K K':X U->Option W}(h: ∀x,le (K x) (K' x)):le (a2Y U S t x lo hi mx K) (a2Y U S t x lo hi mx K'):=by
 unfold a2Y
 repeat' first|exact h _|exact h _ _|exact fT|exact AF|apply eN|apply iR|apply iJ|(apply rJ;intro x)|split
def aLc{t:Option Ty}{x:SV U.D}{K K':X U->Option W}(h: ∀x,le (K x) (K' x)):le (aAr U t x K) (aAr U t x K'):=by
 unfold aAr
 repeat' first|exact h _|exact h _ _|exact fT|exact AF|apply eN|apply iR|apply iJ|(apply rJ;intro x)|split
def aXr{mx:Bool}{a b:SV U.D}{K K':X U->Option W}(h: ∀x,le (K x) (K' x)):le (aXs U mx a b K) (aXs U mx a b K'):=by
 unfold aXs
 repeat' first|exact h _|exact h _ _|exact fT|exact AF|apply eN|apply iR|apply iJ|(apply rJ;intro x)|split
def aXT{T:TT}{take:Bool}{M:TM U.D}{t:TypeId}{a:SV U.D}{K K':X U->TM U.D->Option W}(h: ∀x M,le (K x M) (K' x M)):le (a27 U T take M t a K) (a27 U T take M t a K'):=by
 unfold a27
 repeat' first|exact h _|exact h _ _|exact fT|exact AF|apply eN|apply iR|apply iJ|(apply rJ;intro x)|split
def aR6{T:TT}{M:TM U.D}{t:TypeId}{a:SV U.D}{x:X U}{K K':TM U.D->Option W}(h: ∀M,le (K M) (K' M)):le (stT U T M t a x K) (stT U T M t a x K'):=by
 unfold stT
 repeat' first|exact h _|exact h _ _|exact fT|exact AF|apply eN|apply iR|apply iJ|(apply rJ;intro x)|split
def JK{M:TM U.D}{k:Nat}{c:BC U.D}{K K':TM U.D->Option W}(h: ∀M,le (K M) (K' M)):le (Gc U M k c K) (Gc U M k c K'):=by
 unfold Gc
 repeat' first|exact h _|exact h _ _|exact fT|exact AF|apply eN|apply iR|apply iJ|(apply rJ;intro x)|split
def a1G{T:TT}{M:TM U.D}{d:Option Tmp}{t:TypeId}{K K':X U->TM U.D->Option W}(h: ∀x M,le (K x M) (K' x M)):le (a3e U T M d t K) (a3e U T M d t K'):=by
 unfold a3e
 repeat' first|exact fT|(apply JK;intro M';exact h _ _)|apply eN|split
def a1m{T:TT}{M:TM U.D}{d:Option Tmp}{t:TypeId}{x:X U}{K K':X U->TM U.D->Option W}(h: ∀x M,le (K x M) (K' x M)):le (a3c U T M d t x K) (a3c U T M d t x K'):=by
 unfold a3c
 repeat' first|exact fT|(apply JK;intro M';exact h _ _)|apply eN|split
def aXq{T:TT}{M:TM U.D}{d:Option Tmp}{t:TypeId}{z:Bool}{e:TypeId->Option TypeId}{l c:SV U.D}{K K':X U->TM U.D->Option W}(h: ∀x M,le (K x M) (K' x M)):le (a26 U T M d t z e l c K) (a26 U T M d t z e l c K'):=by
 unfold a26
 repeat' first|exact h _ _|exact fT|(apply JK;intro M';exact h _ _)|apply eN|apply iR|split
def a1D{T:TT}{e:TypeId->Option TypeId}{ts:List TypeId}{s:X U}{x:SV U.D}{K K':X U->Option W}(h: ∀x,le (K x) (K' x)):le (a3d U T e ts s x K) (a3d U T e ts s x K'):=by
 unfold a3d
 repeat' first|exact h _|exact h _ _|exact fT|exact AF|apply eN|apply iR|apply iJ|(apply rJ;intro x)|split
def aMY{T:TT}{e:TypeId->Option TypeId}{ts:List TypeId}{t1 t2:TypeId}{s:X U}{zz n x:SV U.D}{K K':V U->V U->Option W}(h: ∀x y,le (K x y) (K' x y)):le (aAU U T e ts t1 t2 s zz n x K) (aAU U T e ts t1 t2 s zz n x K'):=by
 unfold aAU
 repeat' first|exact h _|exact h _ _|exact fT|exact AF|apply eN|apply iR|apply iJ|(apply rJ;intro x)|split
def aJ4{own:Bool}{l:List (V U)}{K K':X U->Option W}(h: ∀x,le (K x) (K' x)):le (ZM U own l K) (ZM U own l K'):=by
 unfold ZM
 repeat' first|exact h _|exact h _ _|exact fT|exact AF|apply eN|apply iR|apply iJ|(apply rJ;intro x)|split
def aLe{M:TM U.D}{t:Option Ty}{x:SV U.D}{K K':X U->Option W}(h: ∀x,le (K x) (K' x)):le (aAs U M t x K) (aAs U M t x K'):=by
 unfold aAs
 repeat' first|exact h _|exact fT|exact aLc h|apply eN|split
def aFP{K K':Nat->Option W}(h: ∀x,le (K x) (K' x)){m:Int}: ∀(f j:Nat),le (a1B K m j f) (a1B K' m j f)
 |0,j=>fT
 |f+1,j=>iJ (h j) (aFP h f (j+1))
def aXc{ts:List Ty}{a a':Option (List (V U))}{K K':DenL U.D ts->Option W}(ha:le a a')(h: ∀x,le (K x) (K' x)):le (fY ts a K) (fY ts a' K'):=by
 unfold fY;cases a with
 |none=>exact fT
 |some l=>
  rw[ha l rfl]
  dsimp only
  split
  .exact h _
  .exact fT
def a3j(c c':nF U.D):Prop:= ∀i d,le (c i d) (c' i d)
variable{TPr:TP U.D}{c c':nF U.D}
def aFC(hc:a3j c c'){take:Bool}{inst:Nat}{bk:List Nat}{S:TS U.D}{M:TM U.D}{f:SV U.D}{args:List Operand}{K K':X U->TS U.D->TM U.D->Option W}(h: ∀x S M,le (K x S M) (K' x S M)):
    le (G1 U TPr c take inst bk S M f args K) (G1 U TPr c' take inst bk S M f args K'):=by
 unfold G1
 repeat' first|exact fT|apply eN|(refine aXc (hc _ _) λr=>?_)|(refine aJ4 λx=>?_;exact h _ _ _)|split
def aDz(hc:a3j c c'){sq take:Bool}{inst:Nat}{bk:List Nat}{o:Oper}{S:TS U.D}{M:TM U.D}{K K':X U->TS U.D->TM U.D->Option W}(h: ∀x S M,le (K x S M) (K' x S M)):
    le (Cl U TPr c sq take inst bk o S M K) (Cl U TPr c' sq take inst bk o S M K'):=by
 unfold Cl
 repeat' first|exact h _ _ _|exact fT|exact aFC hc h|(apply aDq;intro r;exact h _ _ _)|(apply aMP;intro r;exact h _ _ _)|(apply aRm;intro r;exact h _ _ _)|(apply aFt;intro r;exact h _ _ _)|(apply aXT;intro r M';exact h _ _ _)|
  (apply aSb;intro r;exact h _ _ _)|(apply a1G;intro r M';exact h _ _ _)|(apply a1m;intro r M';exact h _ _ _)|(apply aXq;intro r M';exact h _ _ _)|(apply aR6;intro M';exact h _ _ _)|(apply aLe;intro r;exact h _ _ _)|(apply aXr;intro r;exact h _ _ _)|
  (apply a1D;intro r;exact h _ _ _)|(apply aFP;intro j)|apply eN|apply iR|(apply rJ;intro x)|split
def aEM{ops:Array Oper}{o:Oper}{S:TS U.D}{run skip run' ve:TS U.D->Option W}(h1: ∀S,le (run S) (run' S))(h2: ∀S,le (skip S) (ve S)):le (aZI U ops o S run skip) (aZI U ops o S run' ve):=by
 unfold aZI
 repeat' first|exact h1 _|exact h2 _|exact fT|apply iJ|apply eN|split
def XW{oA oI oS:Oper}{S:TS U.D}{K K':TS U.D->Option W}(h: ∀S,le (K S) (K' S)):le (SW U TPr oA oI oS S K) (SW U TPr oA oI oS S K'):=by
 unfold SW
 repeat' first|exact fT|apply eN|(apply aMY;intro v w;exact h _)|split
def aKj(hc:a3j c c'){ops:Array Oper}: ∀(sc:List TStep) (S:TS U.D) (M:TM U.D) {K K':TS U.D->TM U.D->Option W},(∀S M,le (K S M) (K' S M))->le (zI U TPr c ops sc S M K) (zI U TPr c' ops sc S M K'):=by
 intro sc;induction sc with
 |nil=>intro S M K K' h;exact h S M
 |cons s sc ih=>
  intro S M K K' h;cases s with
  |app a i s=>
   simp only[zI];split
   .exact XW λS'=>ih S' M h
   .exact fT
  |freeze t=>
   simp only[zI];split
   .exact ih _ _ h
   .exact fT
  |op i take inst bk=>
   simp only[zI];split
   .exact fT
   .exact aEM (λS=>aDz hc λx S' M'=>ih _ _ h) (λS=>ih _ _ h)
def aCe(hc:a3j c c'){ops:Array Oper}{ms:List Nat}: ∀(sc:List TStep) (pend:List NR) (S:TS U.D) (M:TM U.D) {K K':TS U.D->TM U.D->Option W},(∀S M,le (K S M) (K' S M))->le (mV U TPr c ops ms sc pend S M K) (mV U TPr c' ops ms sc pend S M K'):=by
 intro sc;induction sc with
 |nil=>intro pend S M K K' h;exact eN (h S M) fT
 |cons s sc ih=>
  intro pend S M K K' h;cases s with
  |app a i s=>
   simp only[mV];split
   .exact XW λS'=>eN (ih _ _ _ h) fT
   .exact fT
  |freeze t=>
   simp only[mV];split
   .exact ih _ _ _ h
   .exact fT
  |op i take inst bk=>
   simp only[mV];split
   .exact fT
   .refine aEM (λS=>aDz hc λx S' M'=>eN (eN (ih _ _ _ h) fT) ?_) (λS=>ih _ _ _ h)
    split
    .exact ih _ _ _ h
    .exact fT
def aBL{run run':TS U.D->TM U.D->TK U.D W->Option W}{K K':TK U.D W}(hr: ∀S M,le (run S M K) (run' S M K'))(h: ∀fl S M,le (K fl S M) (K' fl S M)): ∀fl S M,le (Du U run K fl S M) (Du U run' K' fl S M):=by
 intro fl S M;cases fl<;>first|exact hr S M|exact h _ S M
def aMN{id:Nat}{K K':TK U.D W}(h: ∀fl S M,le (K fl S M) (K' fl S M)): ∀fl S M,le (dK U id K fl S M) (dK U id K' fl S M):=by
 intro fl S M;cases fl<;>first|exact h _ S M|exact eN (h _ S M) (h _ S M)
def aXw{ct:Cut}{k k':List (V U)->Option W}{K K':TK U.D W}(hk: ∀d,le (k d) (k' d))(h: ∀fl S M,le (K fl S M) (K' fl S M)): ∀fl S M,le (iK U ct k K fl S M) (iK U ct k' K' fl S M):=by
 intro fl S M;cases fl<;>first
  |exact h _ S M
  |exact(show le (match Ge U ct S M with|some d=>k d|none=>none) (match Ge U ct S M with|some d=>k' d|none=>none) from by cases Ge U ct S M with|none=>exact fT|some d=>exact hk d)
def EJ{ct:Cut}{run run':TS U.D->TM U.D->Option W}(h: ∀S M,le (run S M) (run' S M))(d:List (V U)):le (oF U ct run d) (oF U ct run' d):=by
 unfold oF;split
 .exact h _ _
 .exact fT
def aDZ{ct:Cut}{b b':TS U.D->TM U.D->TK U.D W->Option W}(hb: ∀S M K K',(∀fl S M,le (K fl S M) (K' fl S M))->le (b S M K) (b' S M K')){K K':TK U.D W}(h: ∀fl S M,le (K fl S M) (K' fl S M)):
    ∀(n n':Nat),n<=n'->∀d,le (Cq U ct b K n d) (Cq U ct b' K' n' d):=by
 intro n;induction n with
 |zero=>intro n' _ d;exact fT
 |succ n ih=>
  intro n' hn d;obtain⟨n',rfl⟩: ∃m,n'=m+1:=⟨n'-1,by omega⟩
  exact EJ (λS M=>hb S M _ _ (aXw (λd=>ih n' (by omega) d) h)) d
def aE3(hc:a3j c c'){L L':Nat}(hL:L<=L'): ∀(code:TC) (S:TS U.D) (M:TM U.D) {K K':TK U.D W},(∀fl S M,le (K fl S M) (K' fl S M))->le (fK U TPr c L code S M K) (fK U TPr c' L' code S M K'):=by
 intro code;induction code with
 |skip=>intro S M K K' h;exact h _ S M
 |label _=>intro S M K K' h;exact h _ S M
 |region id ops draw ms sc=>
  intro S M K K' h;cases draw with
  |true=>exact aCe hc sc [] S _ λS' M'=>eN (h _ S' M') fT
  |false=>exact aKj hc sc S M λS' M'=>h _ S' M'
 |seq a b ff jp=>intro S M K K' h;exact ff S M (aBL (λS M=>jp S M h) h)
 |cond x a b ff jp=>
  intro S M K K' h;simp only[fK];split
  .exact iJ (ff S M h) (jp S M h)
  .exact fT
 |block id a ih=>intro S M K K' h;exact ih S M (aMN h)
 |loop ct a ih=>
  intro S M K K' h;simp only[fK];split
  .exact aDZ (λS M K K' h=>ih S M h) h L L' hL _
  .exact fT
 |exit id=>intro S M K K' h;exact h _ S M
 |ret=>intro S M K K' h;exact h _ S M
 |scope a ih=>intro S M K K' h;exact ih S M h
 |cut ct a ih=>
  intro S M K K' h;simp only[fK];split
  .exact EJ (λS M=>ih S M h) _
  .exact fT
 |ice t a ih=>
  intro S M K K' h;simp only[fK];split
  .exact ih _ _ h
  .exact fT
 |other _=>intro S M K K' h;exact fT
end
def aFy{U:hY}{TPr:TP U.D}{G:aM7}{L L':Nat}(hL:L<=L'): ∀(n n':Nat),n<=n'->a3j (vJ U TPr G L n) (vJ U TPr G L' n'):=by
 intro n;induction n with
 |zero=>intro n' _ i d;exact fT
 |succ n ih=>
  intro n' hn i d;obtain⟨n',rfl⟩: ∃m,n'=m+1:=⟨n'-1,by omega⟩
  simp only[vJ];split
  .refine eN ?_ fT;split
   .exact AF
   .exact EJ (λS M=>aE3 (ih n' (by omega)) hL _ S M λfl S M=>AF) d
  .exact fT
end Go.TV
namespace Go.TV
abbrev zS(n:Nat):Ty:= .sl (.rc n)
abbrev i6:Ty:= .int .i64
end Go.TV
namespace Go.TV
open Go.AI Go.PI
namespace G
structure Z where
 b:(List Int)
 pos:Int
structure Y where
 package:(List UInt8)
 name:(List UInt8)
inductive O where
 |mk (kind:Int) (num:(List UInt8)) (den:(List UInt8)) (sym:Y) (text:(List UInt8)) (pair:(List O))
def O.kind:O->Int|⟨x,_,_,_,_,_⟩=>x
def O.num:O->(List UInt8)|⟨_,x,_,_,_,_⟩=>x
def O.den:O->(List UInt8)|⟨_,_,x,_,_,_⟩=>x
def O.sym:O->Y|⟨_,_,_,x,_,_⟩=>x
def O.text:O->(List UInt8)|⟨_,_,_,_,x,_⟩=>x
def O.pair:O->(List O)|⟨_,_,_,_,_,x⟩=>x
inductive T where
 |mk (kind:Int) (name:Y) (value:O) (args:(List T))
def T.kind:T->Int|⟨x,_,_,_⟩=>x
def T.name:T->Y|⟨_,x,_,_⟩=>x
def T.value:T->O|⟨_,_,x,_⟩=>x
def T.args:T->(List T)|⟨_,_,_,x⟩=>x
structure Q where
 a0:Y
 a1:Y
structure U where
 name:Y
 cls:Int
 hyps:(List T)
 equiv:Y
 left:T
 right:T
 terms:(List T)
 tset:Int
 stops:(List Q)
 arg:Int
 inner:Y
structure I where
 var:Y
 term:T
structure F where
 name:Y
 params:(List Y)
 cls:Int
 guard:T
 body:T
 measure:T
structure A where
 name:(List UInt8)
 imports:(List Y)
structure M where
 name:Y
 params:(List Y)
 rest:Bool
 body:T
structure D where
 name:Y
 length:Int
 initial:O
structure B where
 name:Y
 fields:(List D)
structure C where
 tests:(List T)
 substs:(List (List I))
structure J where
 name:Y
 params:(List Y)
 body:T
structure N where
 rule:Int
 a:Int
 b:Int
 name:Y
 term:T
 measure:T
 clause:(List T)
 subst:(List I)
 lines:(List Int)
 cases:(List C)
 functional:(List J)
 weights:(List O)
inductive E where
 |mk (kind:Int) (name:Y) (package:A) (mac:M) (functions:(List F)) (formulas:(List T)) (logs:(List (List N))) (locl:(List E)) (stobj:B) (rules:(List U)) (enabled:(List Y)) (disabled:(List Y)) (text:(List UInt8)) (hash:Int)
def E.kind:E->Int|⟨x,_,_,_,_,_,_,_,_,_,_,_,_,_⟩=>x
def E.name:E->Y|⟨_,x,_,_,_,_,_,_,_,_,_,_,_,_⟩=>x
def E.package:E->A|⟨_,_,x,_,_,_,_,_,_,_,_,_,_,_⟩=>x
def E.mac:E->M|⟨_,_,_,x,_,_,_,_,_,_,_,_,_,_⟩=>x
def E.functions:E->(List F)|⟨_,_,_,_,x,_,_,_,_,_,_,_,_,_⟩=>x
def E.formulas:E->(List T)|⟨_,_,_,_,_,x,_,_,_,_,_,_,_,_⟩=>x
def E.logs:E->(List (List N))|⟨_,_,_,_,_,_,x,_,_,_,_,_,_,_⟩=>x
def E.locl:E->(List E)|⟨_,_,_,_,_,_,_,x,_,_,_,_,_,_⟩=>x
def E.stobj:E->B|⟨_,_,_,_,_,_,_,_,x,_,_,_,_,_⟩=>x
def E.rules:E->(List U)|⟨_,_,_,_,_,_,_,_,_,x,_,_,_,_⟩=>x
def E.enabled:E->(List Y)|⟨_,_,_,_,_,_,_,_,_,_,x,_,_,_⟩=>x
def E.disabled:E->(List Y)|⟨_,_,_,_,_,_,_,_,_,_,_,x,_,_⟩=>x
def E.text:E->(List UInt8)|⟨_,_,_,_,_,_,_,_,_,_,_,_,x,_⟩=>x
def E.hash:E->Int|⟨_,_,_,_,_,_,_,_,_,_,_,_,_,x⟩=>x
structure L where
 name:(List UInt8)
 formula:T
 cls:Int
structure S where
 var:Y
 value:O
structure W where
 w:(List E)
 left:Int
structure X where
 err:Int
 pos:Int
structure K where
 kind:Int
 pos:Int
 package:(List UInt8)
 text:(List UInt8)
 den:(List UInt8)
structure P where
 l:(List A)
 current:(List UInt8)
 t:(List K)
 pos:Int
structure V where
 w:(List E)
 extra:(List F)
 left:Int
structure R where
 name:(List UInt8)
 arity:Int
structure Integer where
 negative:Bool
 limbs:(List Int)
deriving instance DecidableEq for Y
deriving instance DecidableEq for Q
def eSource(x:Z):List PV:=[eB 1 (List.map (λn=>PV.v (.int .u8 n)) x.b)]++ [.v (.int .i64 x.pos)]
def aLh(l:List Z):List PV:=l.map λx=> .agg (eSource x)
def lSource_map(l:List Z):aLh l=l.map λx=> .agg (eSource x):=rfl
def eSymbol(x:Y):List PV:=[.str x.package]++ [.str x.name]
def sO(l:List Y):List PV:=l.map λx=> .agg (eSymbol x)
def lSymbol_map(l:List Y):sO l=l.map λx=> .agg (eSymbol x):=rfl
mutual
def eObject:O->List PV
 |⟨x0,x1,x2,x3,x4,x5⟩=>[.v (.int .i64 x0)]++ [.str x1]++ [.str x2]++eSymbol x3++ [.str x4]++ [eB 7 (wJ x5)]
def wJ:List O->List PV
 |[]=>[]
 |x::l=> .agg (eObject x)::wJ l
end
def lObject_map(l:List O):wJ l=l.map λx=> .agg (eObject x):=by
 induction l with
 |nil=>simp only[wJ,List.map_nil]
 |cons x l ih=>simp only[wJ,ih,aO]
mutual
def eTerm:T->List PV
 |⟨x0,x1,x2,x3⟩=>[.v (.int .i64 x0)]++eSymbol x1++eObject x2++ [eB 11 (yO x3)]
def yO:List T->List PV
 |[]=>[]
 |x::l=> .agg (eTerm x)::yO l
end
def lTerm_map(l:List T):yO l=l.map λx=> .agg (eTerm x):=by
 induction l with
 |nil=>simp only[yO,List.map_nil]
 |cons x l ih=>simp only[yO,ih,aO]
def ePairSymbol(x:Q):List PV:=eSymbol x.a0++eSymbol x.a1
def Cr(l:List Q):List PV:=l.map λx=> .agg (ePairSymbol x)
def lPairSymbol_map(l:List Q):Cr l=l.map λx=> .agg (ePairSymbol x):=rfl
def eRule(x:U):List PV:=eSymbol x.name++ [.v (.int .i64 x.cls)]++ [eB 11 (yO x.hyps)]++eSymbol x.equiv++eTerm x.left++eTerm x.right++ [eB 11 (yO x.terms)]++ [.v (.int .i64 x.tset)]++ [eB 4 (Cr x.stops)]++ [.v (.int .i64 x.arg)]++eSymbol x.inner
def aOH(l:List U):List PV:=l.map λx=> .agg (eRule x)
def lRule_map(l:List U):aOH l=l.map λx=> .agg (eRule x):=rfl
def eAssign(x:I):List PV:=eSymbol x.var++eTerm x.term
def JR(l:List I):List PV:=l.map λx=> .agg (eAssign x)
def lAssign_map(l:List I):JR l=l.map λx=> .agg (eAssign x):=rfl
def eFunction(x:F):List PV:=eSymbol x.name++ [eB 2 (sO x.params)]++ [.v (.int .i64 x.cls)]++eTerm x.guard++eTerm x.body++eTerm x.measure
def BJ(l:List F):List PV:=l.map λx=> .agg (eFunction x)
def lFunction_map(l:List F):BJ l=l.map λx=> .agg (eFunction x):=rfl
def ePackage(x:A):List PV:=[.str x.name]++ [eB 2 (sO x.imports)]
def PM(l:List A):List PV:=l.map λx=> .agg (ePackage x)
def lPackage_map(l:List A):PM l=l.map λx=> .agg (ePackage x):=rfl
def eMacro(x:M):List PV:=eSymbol x.name++ [eB 2 (sO x.params)]++ [.v (.bool x.rest)]++eTerm x.body
def aXX(l:List M):List PV:=l.map λx=> .agg (eMacro x)
def lMacro_map(l:List M):aXX l=l.map λx=> .agg (eMacro x):=rfl
def eField(x:D):List PV:=eSymbol x.name++ [.v (.int .i64 x.length)]++eObject x.initial
def aD6(l:List D):List PV:=l.map λx=> .agg (eField x)
def lField_map(l:List D):aD6 l=l.map λx=> .agg (eField x):=rfl
def eStobj(x:B):List PV:=eSymbol x.name++ [eB 10 (aD6 x.fields)]
def aXW(l:List B):List PV:=l.map λx=> .agg (eStobj x)
def lStobj_map(l:List B):aXW l=l.map λx=> .agg (eStobj x):=rfl
def eCase(x:C):List PV:=[eB 11 (yO x.tests)]++ [eB 1 (List.map (λl=>eB 13 (JR l)) x.substs)]
def aOJ(l:List C):List PV:=l.map λx=> .agg (eCase x)
def lCase_map(l:List C):aOJ l=l.map λx=> .agg (eCase x):=rfl
def eLambda(x:J):List PV:=eSymbol x.name++ [eB 2 (sO x.params)]++eTerm x.body
def Xq(l:List J):List PV:=l.map λx=> .agg (eLambda x)
def lLambda_map(l:List J):Xq l=l.map λx=> .agg (eLambda x):=rfl
def eLine(x:N):List PV:=[.v (.int .i64 x.rule)]++ [.v (.int .i64 x.a)]++ [.v (.int .i64 x.b)]++eSymbol x.name++eTerm x.term++eTerm x.measure++ [eB 11 (yO x.clause)]++ [eB 13 (JR x.subst)]++ [eB 1 (List.map (λn=>PV.v (.int .i64 n)) x.lines)]++ [eB 2 (aOJ x.cases)]++ [eB 14 (Xq x.functional)]++ [eB 7 (wJ x.weights)]
def aOI(l:List N):List PV:=l.map λx=> .agg (eLine x)
def lLine_map(l:List N):aOI l=l.map λx=> .agg (eLine x):=rfl
mutual
def eEntry:E->List PV
 |⟨x0,x1,x2,x3,x4,x5,x6,x7,x8,x9,x10,x11,x12,x13⟩=>[.v (.int .i64 x0)]++eSymbol x1++ePackage x2++eMacro x3++ [eB 37 (BJ x4)]++ [eB 11 (yO x5)]++ [eB 1 (List.map (λl=>eB 33 (aOI l)) x6)]++ [eB 32 (zR x7)]++eStobj x8++ [eB 34 (aOH x9)]++ [eB 2 (sO x10)]++ [eB 2 (sO x11)]++ [.str x12]++ [.v (.int .u64 x13)]
def zR:List E->List PV
 |[]=>[]
 |x::l=> .agg (eEntry x)::zR l
end
def lEntry_map(l:List E):zR l=l.map λx=> .agg (eEntry x):=by
 induction l with
 |nil=>simp only[zR,List.map_nil]
 |cons x l ih=>simp only[zR,ih,aO]
def eLemma(x:L):List PV:=[.str x.name]++eTerm x.formula++ [.v (.int .i64 x.cls)]
def aXY(l:List L):List PV:=l.map λx=> .agg (eLemma x)
def lLemma_map(l:List L):aXY l=l.map λx=> .agg (eLemma x):=rfl
def eBinding(x:S):List PV:=eSymbol x.var++eObject x.value
def aD7(l:List S):List PV:=l.map λx=> .agg (eBinding x)
def lBinding_map(l:List S):aD7 l=l.map λx=> .agg (eBinding x):=rfl
def eEvaluator(x:W):List PV:=[eB 32 (zR x.w)]++ [.v (.int .i64 x.left)]
def R7(l:List W):List PV:=l.map λx=> .agg (eEvaluator x)
def lEvaluator_map(l:List W):R7 l=l.map λx=> .agg (eEvaluator x):=rfl
def eSourceError(x:X):List PV:=[.v (.int .i64 x.err)]++ [.v (.int .i64 x.pos)]
def JQ(l:List X):List PV:=l.map λx=> .agg (eSourceError x)
def lSourceError_map(l:List X):JQ l=l.map λx=> .agg (eSourceError x):=rfl
def eToken(x:K):List PV:=[.v (.int .i64 x.kind)]++ [.v (.int .i64 x.pos)]++ [.str x.package]++ [.str x.text]++ [.str x.den]
def aD4(l:List K):List PV:=l.map λx=> .agg (eToken x)
def lToken_map(l:List K):aD4 l=l.map λx=> .agg (eToken x):=rfl
def eParser(x:P):List PV:=[eB 2 (PM x.l)]++ [.str x.current]++ [eB 5 (aD4 x.t)]++ [.v (.int .i64 x.pos)]
def aLi(l:List P):List PV:=l.map λx=> .agg (eParser x)
def lParser_map(l:List P):aLi l=l.map λx=> .agg (eParser x):=rfl
def eTranslator(x:V):List PV:=[eB 32 (zR x.w)]++ [eB 37 (BJ x.extra)]++ [.v (.int .i64 x.left)]
def PL(l:List V):List PV:=l.map λx=> .agg (eTranslator x)
def lTranslator_map(l:List V):PL l=l.map λx=> .agg (eTranslator x):=rfl
def eRow(x:R):List PV:=[.str x.name]++ [.v (.int .i64 x.arity)]
def bDP(l:List R):List PV:=l.map λx=> .agg (eRow x)
def lRow_map(l:List R):bDP l=l.map λx=> .agg (eRow x):=rfl
def eInteger(x:Integer):List PV:=[.v (.bool x.negative)]++ [eB 1 (List.map (λn=>PV.v (.int .u32 n)) x.limbs)]
def aD5(l:List Integer):List PV:=l.map λx=> .agg (eInteger x)
def lInteger_map(l:List Integer):aD5 l=l.map λx=> .agg (eInteger x):=rfl
end G
@[reducible] def D0:Nat->Type
 |0=>G.Z
 |1=>G.Y
 |2=>G.O
 |3=>G.T
 |4=>G.Q
 |5=>G.U
 |6=>G.I
 |7=>G.F
 |8=>G.A
 |9=>G.M
 |10=>G.D
 |11=>G.B
 |12=>G.C
 |13=>G.J
 |14=>G.N
 |15=>G.E
 |16=>G.L
 |17=>G.S
 |18=>G.W
 |19=>G.X
 |20=>G.K
 |21=>G.P
 |22=>G.V
 |23=>G.R
 |_+24=>G.Integer
def fs0:Nat->List Ty
 |0=>[(.sl (.int .u8)),i6]
 |1=>[.str,.str]
 |2=>[i6,.str,.str,.rc 1,.str,zS 2]
 |3=>[i6,.rc 1,.rc 2,zS 3]
 |4=>[.rc 1,.rc 1]
 |5=>[.rc 1,i6,zS 3,.rc 1,.rc 3,.rc 3,zS 3,i6,zS 4,i6,.rc 1]
 |6=>[.rc 1,.rc 3]
 |7=>[.rc 1,zS 1,i6,.rc 3,.rc 3,.rc 3]
 |8=>[.str,zS 1]
 |9=>[.rc 1,zS 1,.bool,.rc 3]
 |10=>[.rc 1,i6,.rc 2]
 |11=>[.rc 1,zS 10]
 |12=>[zS 3,.sl (zS 6)]
 |13=>[.rc 1,zS 1,.rc 3]
 |14=>[i6,i6,i6,.rc 1,.rc 3,.rc 3,zS 3,zS 6,.sl i6,zS 12,zS 13,zS 2]
 |15=>[i6,.rc 1,.rc 8,.rc 9,zS 7,zS 3,.sl (zS 14),zS 15,.rc 11,zS 5,zS 1,zS 1,.str,(.int .u64)]
 |16=>[.str,.rc 3,i6]
 |17=>[.rc 1,.rc 2]
 |18=>[zS 15,i6]
 |19=>[i6,i6]
 |20=>[i6,i6,.str,.str,.str]
 |21=>[zS 8,.str,zS 20,i6]
 |22=>[zS 15,zS 7,i6]
 |23=>[.str,i6]
 |_+24=>[.bool,(.sl (.int .u32))]
def nJ:(n:Nat)->D0 n->List (TV D0)
 |0,x=>[⟨(.sl (.int .u8)),G.Z.b x⟩,⟨i6,G.Z.pos x⟩]
 |1,x=>[⟨.str,G.Y.package x⟩,⟨.str,G.Y.name x⟩]
 |2,x=>[⟨i6,G.O.kind x⟩,⟨.str,G.O.num x⟩,⟨.str,G.O.den x⟩,⟨.rc 1,G.O.sym x⟩,⟨.str,G.O.text x⟩,⟨zS 2,G.O.pair x⟩]
 |3,x=>[⟨i6,G.T.kind x⟩,⟨.rc 1,G.T.name x⟩,⟨.rc 2,G.T.value x⟩,⟨zS 3,G.T.args x⟩]
 |4,x=>[⟨.rc 1,G.Q.a0 x⟩,⟨.rc 1,G.Q.a1 x⟩]
 |5,x=>[⟨.rc 1,G.U.name x⟩,⟨i6,G.U.cls x⟩,⟨zS 3,G.U.hyps x⟩,⟨.rc 1,G.U.equiv x⟩,⟨.rc 3,G.U.left x⟩,⟨.rc 3,G.U.right x⟩,⟨zS 3,G.U.terms x⟩,⟨i6,G.U.tset x⟩,⟨zS 4,G.U.stops x⟩,⟨i6,G.U.arg x⟩,⟨.rc 1,G.U.inner x⟩]
 |6,x=>[⟨.rc 1,G.I.var x⟩,⟨.rc 3,G.I.term x⟩]
 |7,x=>[⟨.rc 1,G.F.name x⟩,⟨zS 1,G.F.params x⟩,⟨i6,G.F.cls x⟩,⟨.rc 3,G.F.guard x⟩,⟨.rc 3,G.F.body x⟩,⟨.rc 3,G.F.measure x⟩]
 |8,x=>[⟨.str,G.A.name x⟩,⟨zS 1,G.A.imports x⟩]
 |9,x=>[⟨.rc 1,G.M.name x⟩,⟨zS 1,G.M.params x⟩,⟨.bool,G.M.rest x⟩,⟨.rc 3,G.M.body x⟩]
 |10,x=>[⟨.rc 1,G.D.name x⟩,⟨i6,G.D.length x⟩,⟨.rc 2,G.D.initial x⟩]
 |11,x=>[⟨.rc 1,G.B.name x⟩,⟨zS 10,G.B.fields x⟩]
 |12,x=>[⟨zS 3,G.C.tests x⟩,⟨.sl (zS 6),G.C.substs x⟩]
 |13,x=>[⟨.rc 1,G.J.name x⟩,⟨zS 1,G.J.params x⟩,⟨.rc 3,G.J.body x⟩]
 |14,x=>[⟨i6,G.N.rule x⟩,⟨i6,G.N.a x⟩,⟨i6,G.N.b x⟩,⟨.rc 1,G.N.name x⟩,⟨.rc 3,G.N.term x⟩,⟨.rc 3,G.N.measure x⟩,⟨zS 3,G.N.clause x⟩,⟨zS 6,G.N.subst x⟩,⟨.sl i6,G.N.lines x⟩,⟨zS 12,G.N.cases x⟩,⟨zS 13,G.N.functional x⟩,⟨zS 2,G.N.weights x⟩]
 |15,x=>[⟨i6,G.E.kind x⟩,⟨.rc 1,G.E.name x⟩,⟨.rc 8,G.E.package x⟩,⟨.rc 9,G.E.mac x⟩,⟨zS 7,G.E.functions x⟩,⟨zS 3,G.E.formulas x⟩,⟨.sl (zS 14),G.E.logs x⟩,⟨zS 15,G.E.locl x⟩,⟨.rc 11,G.E.stobj x⟩,⟨zS 5,G.E.rules x⟩,⟨zS 1,G.E.enabled x⟩,⟨zS 1,G.E.disabled x⟩,⟨.str,G.E.text x⟩,⟨(.int .u64),G.E.hash x⟩]
 |16,x=>[⟨.str,G.L.name x⟩,⟨.rc 3,G.L.formula x⟩,⟨i6,G.L.cls x⟩]
 |17,x=>[⟨.rc 1,G.S.var x⟩,⟨.rc 2,G.S.value x⟩]
 |18,x=>[⟨zS 15,G.W.w x⟩,⟨i6,G.W.left x⟩]
 |19,x=>[⟨i6,G.X.err x⟩,⟨i6,G.X.pos x⟩]
 |20,x=>[⟨i6,G.K.kind x⟩,⟨i6,G.K.pos x⟩,⟨.str,G.K.package x⟩,⟨.str,G.K.text x⟩,⟨.str,G.K.den x⟩]
 |21,x=>[⟨zS 8,G.P.l x⟩,⟨.str,G.P.current x⟩,⟨zS 20,G.P.t x⟩,⟨i6,G.P.pos x⟩]
 |22,x=>[⟨zS 15,G.V.w x⟩,⟨zS 7,G.V.extra x⟩,⟨i6,G.V.left x⟩]
 |23,x=>[⟨.str,G.R.name x⟩,⟨i6,G.R.arity x⟩]
 |_+24,x=>[⟨.bool,G.Integer.negative x⟩,⟨(.sl (.int .u32)),G.Integer.limbs x⟩]
def Cn:(n:Nat)->List (TV D0)->Option (D0 n)
 |0,l=>match fN (D:=D0) [(.sl (.int .u8)),i6] l with|some r=>some (⟨r.1,r.2.1⟩:G.Z)|none=>none
 |1,l=>match fN (D:=D0) [.str,.str] l with|some r=>some (⟨r.1,r.2.1⟩:G.Y)|none=>none
 |2,l=>match fN (D:=D0) [i6,.str,.str,.rc 1,.str,zS 2] l with|some r=>some (⟨r.1,r.2.1,r.2.2.1,r.2.2.2.1,r.2.2.2.2.1,r.2.2.2.2.2.1⟩:G.O)|none=>none
 |3,l=>match fN (D:=D0) [i6,.rc 1,.rc 2,zS 3] l with|some r=>some (⟨r.1,r.2.1,r.2.2.1,r.2.2.2.1⟩:G.T)|none=>none
 |4,l=>match fN (D:=D0) [.rc 1,.rc 1] l with|some r=>some (⟨r.1,r.2.1⟩:G.Q)|none=>none
 |5,l=>match fN (D:=D0) [.rc 1,i6,zS 3,.rc 1,.rc 3,.rc 3,zS 3,i6,zS 4,i6,.rc 1] l with|some r=>some (⟨r.1,r.2.1,r.2.2.1,r.2.2.2.1,r.2.2.2.2.1,r.2.2.2.2.2.1,r.2.2.2.2.2.2.1,r.2.2.2.2.2.2.2.1,r.2.2.2.2.2.2.2.2.1,r.2.2.2.2.2.2.2.2.2.1,r.2.2.2.2.2.2.2.2.2.2.1⟩:G.U)|none=>none
 |6,l=>match fN (D:=D0) [.rc 1,.rc 3] l with|some r=>some (⟨r.1,r.2.1⟩:G.I)|none=>none
 |7,l=>match fN (D:=D0) [.rc 1,zS 1,i6,.rc 3,.rc 3,.rc 3] l with|some r=>some (⟨r.1,r.2.1,r.2.2.1,r.2.2.2.1,r.2.2.2.2.1,r.2.2.2.2.2.1⟩:G.F)|none=>none
 |8,l=>match fN (D:=D0) [.str,zS 1] l with|some r=>some (⟨r.1,r.2.1⟩:G.A)|none=>none
 |9,l=>match fN (D:=D0) [.rc 1,zS 1,.bool,.rc 3] l with|some r=>some (⟨r.1,r.2.1,r.2.2.1,r.2.2.2.1⟩:G.M)|none=>none
 |10,l=>match fN (D:=D0) [.rc 1,i6,.rc 2] l with|some r=>some (⟨r.1,r.2.1,r.2.2.1⟩:G.D)|none=>none
 |11,l=>match fN (D:=D0) [.rc 1,zS 10] l with|some r=>some (⟨r.1,r.2.1⟩:G.B)|none=>none
 |12,l=>match fN (D:=D0) [zS 3,.sl (zS 6)] l with|some r=>some (⟨r.1,r.2.1⟩:G.C)|none=>none
 |13,l=>match fN (D:=D0) [.rc 1,zS 1,.rc 3] l with|some r=>some (⟨r.1,r.2.1,r.2.2.1⟩:G.J)|none=>none
 |14,l=>match fN (D:=D0) [i6,i6,i6,.rc 1,.rc 3,.rc 3,zS 3,zS 6,.sl i6,zS 12,zS 13,zS 2] l with|some r=>some (⟨r.1,r.2.1,r.2.2.1,r.2.2.2.1,r.2.2.2.2.1,r.2.2.2.2.2.1,r.2.2.2.2.2.2.1,r.2.2.2.2.2.2.2.1,r.2.2.2.2.2.2.2.2.1,r.2.2.2.2.2.2.2.2.2.1,r.2.2.2.2.2.2.2.2.2.2.1,r.2.2.2.2.2.2.2.2.2.2.2.1⟩:G.N)|none=>none
 |15,l=>match fN (D:=D0) [i6,.rc 1,.rc 8,.rc 9,zS 7,zS 3,.sl (zS 14),zS 15,.rc 11,zS 5,zS 1,zS 1,.str,(.int .u64)] l with|some r=>some (⟨r.1,r.2.1,r.2.2.1,r.2.2.2.1,r.2.2.2.2.1,r.2.2.2.2.2.1,r.2.2.2.2.2.2.1,r.2.2.2.2.2.2.2.1,r.2.2.2.2.2.2.2.2.1,r.2.2.2.2.2.2.2.2.2.1,r.2.2.2.2.2.2.2.2.2.2.1,r.2.2.2.2.2.2.2.2.2.2.2.1,r.2.2.2.2.2.2.2.2.2.2.2.2.1,r.2.2.2.2.2.2.2.2.2.2.2.2.2.1⟩:G.E)|none=>none
 |16,l=>match fN (D:=D0) [.str,.rc 3,i6] l with|some r=>some (⟨r.1,r.2.1,r.2.2.1⟩:G.L)|none=>none
 |17,l=>match fN (D:=D0) [.rc 1,.rc 2] l with|some r=>some (⟨r.1,r.2.1⟩:G.S)|none=>none
 |18,l=>match fN (D:=D0) [zS 15,i6] l with|some r=>some (⟨r.1,r.2.1⟩:G.W)|none=>none
 |19,l=>match fN (D:=D0) [i6,i6] l with|some r=>some (⟨r.1,r.2.1⟩:G.X)|none=>none
 |20,l=>match fN (D:=D0) [i6,i6,.str,.str,.str] l with|some r=>some (⟨r.1,r.2.1,r.2.2.1,r.2.2.2.1,r.2.2.2.2.1⟩:G.K)|none=>none
 |21,l=>match fN (D:=D0) [zS 8,.str,zS 20,i6] l with|some r=>some (⟨r.1,r.2.1,r.2.2.1,r.2.2.2.1⟩:G.P)|none=>none
 |22,l=>match fN (D:=D0) [zS 15,zS 7,i6] l with|some r=>some (⟨r.1,r.2.1,r.2.2.1⟩:G.V)|none=>none
 |23,l=>match fN (D:=D0) [.str,i6] l with|some r=>some (⟨r.1,r.2.1⟩:G.R)|none=>none
 |_+24,l=>match fN (D:=D0) [.bool,(.sl (.int .u32))] l with|some r=>some (⟨r.1,r.2.1⟩:G.Integer)|none=>none
def fW:(n:Nat)->D0 n->List PV
 |0,x=>G.eSource x
 |1,x=>G.eSymbol x
 |2,x=>G.eObject x
 |3,x=>G.eTerm x
 |4,x=>G.ePairSymbol x
 |5,x=>G.eRule x
 |6,x=>G.eAssign x
 |7,x=>G.eFunction x
 |8,x=>G.ePackage x
 |9,x=>G.eMacro x
 |10,x=>G.eField x
 |11,x=>G.eStobj x
 |12,x=>G.eCase x
 |13,x=>G.eLambda x
 |14,x=>G.eLine x
 |15,x=>G.eEntry x
 |16,x=>G.eLemma x
 |17,x=>G.eBinding x
 |18,x=>G.eEvaluator x
 |19,x=>G.eSourceError x
 |20,x=>G.eToken x
 |21,x=>G.eParser x
 |22,x=>G.eTranslator x
 |23,x=>G.eRow x
 |_+24,x=>G.eInteger x
def eq0:(n:Nat)->Option (D0 n->D0 n->Bool)
 |0=>none
 |1=>some λ(a b:G.Y)=>decide (a=b)
 |2=>none
 |3=>none
 |4=>some λ(a b:G.Q)=>decide (a=b)
 |5=>none
 |6=>none
 |7=>none
 |8=>none
 |9=>none
 |10=>none
 |11=>none
 |12=>none
 |13=>none
 |14=>none
 |15=>none
 |16=>none
 |17=>none
 |18=>none
 |19=>none
 |20=>none
 |21=>none
 |22=>none
 |23=>none
 |_+24=>none
def a3n:(n:Nat)->D0 n
 |0=>(⟨[],0⟩:G.Z)
 |1=>(⟨[],[]⟩:G.Y)
 |2=>(⟨0,[],[],⟨[],[]⟩,[],[]⟩:G.O)
 |3=>(⟨0,⟨[],[]⟩,⟨0,[],[],⟨[],[]⟩,[],[]⟩,[]⟩:G.T)
 |4=>(⟨⟨[],[]⟩,⟨[],[]⟩⟩:G.Q)
 |5=>(⟨⟨[],[]⟩,0,[],⟨[],[]⟩,⟨0,⟨[],[]⟩,⟨0,[],[],⟨[],[]⟩,[],[]⟩,[]⟩,⟨0,⟨[],[]⟩,⟨0,[],[],⟨[],[]⟩,[],[]⟩,[]⟩,[],0,[],0,⟨[],[]⟩⟩:G.U)
 |6=>(⟨⟨[],[]⟩,⟨0,⟨[],[]⟩,⟨0,[],[],⟨[],[]⟩,[],[]⟩,[]⟩⟩:G.I)
 |7=>(⟨⟨[],[]⟩,[],0,⟨0,⟨[],[]⟩,⟨0,[],[],⟨[],[]⟩,[],[]⟩,[]⟩,⟨0,⟨[],[]⟩,⟨0,[],[],⟨[],[]⟩,[],[]⟩,[]⟩,⟨0,⟨[],[]⟩,⟨0,[],[],⟨[],[]⟩,[],[]⟩,[]⟩⟩:G.F)
 |8=>(⟨[],[]⟩:G.A)
 |9=>(⟨⟨[],[]⟩,[],false,⟨0,⟨[],[]⟩,⟨0,[],[],⟨[],[]⟩,[],[]⟩,[]⟩⟩:G.M)
 |10=>(⟨⟨[],[]⟩,0,⟨0,[],[],⟨[],[]⟩,[],[]⟩⟩:G.D)
 |11=>(⟨⟨[],[]⟩,[]⟩:G.B)
 |12=>(⟨[],[]⟩:G.C)
 |13=>(⟨⟨[],[]⟩,[],⟨0,⟨[],[]⟩,⟨0,[],[],⟨[],[]⟩,[],[]⟩,[]⟩⟩:G.J)
 |14=>(⟨0,0,0,⟨[],[]⟩,⟨0,⟨[],[]⟩,⟨0,[],[],⟨[],[]⟩,[],[]⟩,[]⟩,⟨0,⟨[],[]⟩,⟨0,[],[],⟨[],[]⟩,[],[]⟩,[]⟩,[],[],[],[],[],[]⟩:G.N)
 |15=>(⟨0,⟨[],[]⟩,⟨[],[]⟩,⟨⟨[],[]⟩,[],false,⟨0,⟨[],[]⟩,⟨0,[],[],⟨[],[]⟩,[],[]⟩,[]⟩⟩,[],[],[],[],⟨⟨[],[]⟩,[]⟩,[],[],[],[],0⟩:G.E)
 |16=>(⟨[],⟨0,⟨[],[]⟩,⟨0,[],[],⟨[],[]⟩,[],[]⟩,[]⟩,0⟩:G.L)
 |17=>(⟨⟨[],[]⟩,⟨0,[],[],⟨[],[]⟩,[],[]⟩⟩:G.S)
 |18=>(⟨[],0⟩:G.W)
 |19=>(⟨0,0⟩:G.X)
 |20=>(⟨0,0,[],[],[]⟩:G.K)
 |21=>(⟨[],[],[],0⟩:G.P)
 |22=>(⟨[],[],0⟩:G.V)
 |23=>(⟨[],0⟩:G.R)
 |_+24=>(⟨false,[]⟩:G.Integer)
def nN:Nat->Nat
 |0=>2
 |1=>2
 |2=>7
 |3=>11
 |4=>4
 |5=>34
 |6=>13
 |7=>37
 |8=>2
 |9=>15
 |10=>10
 |11=>3
 |12=>2
 |13=>14
 |14=>33
 |15=>32
 |16=>13
 |17=>9
 |18=>2
 |19=>2
 |20=>5
 |21=>4
 |22=>3
 |23=>2
 |_+24=>2
def lt0:Nat->List Ty
 |0=>[(.sl (.int .u8)),i6]
 |1=>[.str,.str]
 |2=>[i6,.str,.str,.str,.str,.str,zS 2]
 |3=>[i6,.str,.str,i6,.str,.str,.str,.str,.str,zS 2,zS 3]
 |4=>[.str,.str,.str,.str]
 |5=>[.str,.str,i6,zS 3,.str,.str,i6,.str,.str,i6,.str,.str,.str,.str,.str,zS 2,zS 3,i6,.str,.str,i6,.str,.str,.str,.str,.str,zS 2,zS 3,zS 3,i6,zS 4,i6,.str,.str]
 |6=>[.str,.str,i6,.str,.str,i6,.str,.str,.str,.str,.str,zS 2,zS 3]
 |7=>[.str,.str,zS 1,i6,i6,.str,.str,i6,.str,.str,.str,.str,.str,zS 2,zS 3,i6,.str,.str,i6,.str,.str,.str,.str,.str,zS 2,zS 3,i6,.str,.str,i6,.str,.str,.str,.str,.str,zS 2,zS 3]
 |8=>[.str,zS 1]
 |9=>[.str,.str,zS 1,.bool,i6,.str,.str,i6,.str,.str,.str,.str,.str,zS 2,zS 3]
 |10=>[.str,.str,i6,i6,.str,.str,.str,.str,.str,zS 2]
 |11=>[.str,.str,zS 10]
 |12=>[zS 3,.sl (zS 6)]
 |13=>[.str,.str,zS 1,i6,.str,.str,i6,.str,.str,.str,.str,.str,zS 2,zS 3]
 |14=>[i6,i6,i6,.str,.str,i6,.str,.str,i6,.str,.str,.str,.str,.str,zS 2,zS 3,i6,.str,.str,i6,.str,.str,.str,.str,.str,zS 2,zS 3,zS 3,zS 6,.sl i6,zS 12,zS 13,zS 2]
 |15=>[i6,.str,.str,.str,zS 1,.str,.str,zS 1,.bool,i6,.str,.str,i6,.str,.str,.str,.str,.str,zS 2,zS 3,zS 7,zS 3,.sl (zS 14),zS 15,.str,.str,zS 10,zS 5,zS 1,zS 1,.str,(.int .u64)]
 |16=>[.str,i6,.str,.str,i6,.str,.str,.str,.str,.str,zS 2,zS 3,i6]
 |17=>[.str,.str,i6,.str,.str,.str,.str,.str,zS 2]
 |18=>[zS 15,i6]
 |19=>[i6,i6]
 |20=>[i6,i6,.str,.str,.str]
 |21=>[zS 8,.str,zS 20,i6]
 |22=>[zS 15,zS 7,i6]
 |23=>[.str,i6]
 |_+24=>[.bool,(.sl (.int .u32))]
def U0:hY:=⟨D0,fs0,nJ,Cn,fW,eq0,a3n,nN,lt0⟩
def bF7(x:Value):gd (.v x)=true:=rfl
def a8k(s:List UInt8):gd (.str s)=true:=rfl
def dU(z:Nat)(l:List PV):(eB z l).cells=[eB z l]:=oX (eR _ _)
def eK(x:Value):(PV.v x).cells=[.v x]:=rfl
def dR(x:List UInt8):(PV.str x).cells=[.str x]:=rfl
def dV(x:List PV):(PV.agg x).cells=x:=rfl
def a6O: ∀x:D0 0,(fW 0 x).length=nN 0:=λ(x:G.Z)=>by rfl
def aOG: ∀x:D0 1,(fW 1 x).length=nN 1:=λ(x:G.Y)=>by rfl
def fZ: ∀y:G.Y,(G.eSymbol y).length=2:=aOG
def aOF: ∀x:D0 2,(fW 2 x).length=nN 2:=λ(x:G.O)=>by
 cases x;show(G.eObject _).length=7;simp only[G.eObject,aZ,aM,aX,fZ]
def BI: ∀y:G.O,(G.eObject y).length=7:=aOF
def aOE: ∀x:D0 3,(fW 3 x).length=nN 3:=λ(x:G.T)=>by
 cases x;show(G.eTerm _).length=11;simp only[G.eTerm,aZ,aM,aX,fZ,BI]
def sN: ∀y:G.T,(G.eTerm y).length=11:=aOE
def a6N: ∀x:D0 4,(fW 4 x).length=nN 4:=λ(x:G.Q)=>by
 show(G.ePairSymbol _).length=4;simp only[G.ePairSymbol,aZ,aM,aX,fZ]
def a6M: ∀x:D0 5,(fW 5 x).length=nN 5:=λ(x:G.U)=>by
 show(G.eRule _).length=34;simp only[G.eRule,aZ,aM,aX,fZ,sN]
def a6L: ∀x:D0 6,(fW 6 x).length=nN 6:=λ(x:G.I)=>by
 show(G.eAssign _).length=13;simp only[G.eAssign,aZ,aM,aX,fZ,sN]
def a6K: ∀x:D0 7,(fW 7 x).length=nN 7:=λ(x:G.F)=>by
 show(G.eFunction _).length=37;simp only[G.eFunction,aZ,aM,aX,fZ,sN]
def aOD: ∀x:D0 8,(fW 8 x).length=nN 8:=λ(x:G.A)=>by rfl
def R5: ∀y:G.A,(G.ePackage y).length=2:=aOD
def aOC: ∀x:D0 9,(fW 9 x).length=nN 9:=λ(x:G.M)=>by
 show(G.eMacro _).length=15;simp only[G.eMacro,aZ,aM,aX,fZ,sN]
def aD2: ∀y:G.M,(G.eMacro y).length=15:=aOC
def aXR: ∀x:D0 10,(fW 10 x).length=nN 10:=λ(x:G.D)=>by
 show(G.eField _).length=10;simp only[G.eField,aZ,aM,aX,fZ,BI]
def aD0: ∀x:D0 11,(fW 11 x).length=nN 11:=λ(x:G.B)=>by
 show(G.eStobj _).length=3;simp only[G.eStobj,aZ,aM,aX,fZ]
def aD1: ∀y:G.B,(G.eStobj y).length=3:=aD0
def aXQ: ∀x:D0 12,(fW 12 x).length=nN 12:=λ(x:G.C)=>by rfl
def aXP: ∀x:D0 13,(fW 13 x).length=nN 13:=λ(x:G.J)=>by
 show(G.eLambda _).length=14;simp only[G.eLambda,aZ,aM,aX,fZ,sN]
def aXO: ∀x:D0 14,(fW 14 x).length=nN 14:=λ(x:G.N)=>by
 show(G.eLine _).length=33;simp only[G.eLine,aZ,aM,aX,fZ,sN]
def aXN: ∀x:D0 15,(fW 15 x).length=nN 15:=λ(x:G.E)=>by
 cases x;show(G.eEntry _).length=32;simp only[G.eEntry,aZ,aM,aX,fZ,R5,aD2,aD1]
def aXM: ∀x:D0 16,(fW 16 x).length=nN 16:=λ(x:G.L)=>by
 show(G.eLemma _).length=13;simp only[G.eLemma,aZ,aM,aX,sN]
def aXL: ∀x:D0 17,(fW 17 x).length=nN 17:=λ(x:G.S)=>by
 show(G.eBinding _).length=9;simp only[G.eBinding,aZ,aM,aX,fZ,BI]
def aXK: ∀x:D0 18,(fW 18 x).length=nN 18:=λ(x:G.W)=>by rfl
def aXJ: ∀x:D0 19,(fW 19 x).length=nN 19:=λ(x:G.X)=>by rfl
def aXI: ∀x:D0 20,(fW 20 x).length=nN 20:=λ(x:G.K)=>by rfl
def aXH: ∀x:D0 21,(fW 21 x).length=nN 21:=λ(x:G.P)=>by rfl
def aXG: ∀x:D0 22,(fW 22 x).length=nN 22:=λ(x:G.V)=>by rfl
def aXF: ∀x:D0 23,(fW 23 x).length=nN 23:=λ(x:G.R)=>by rfl
def aXE(k:Nat): ∀x:D0 (k+24),(fW (k+24) x).length=nN (k+24):=λ(x:G.Integer)=>by rfl
def CW:(∀(a b:List PV) (p:PV->Bool),(a++b).all p=(a.all p&&b.all p))/\(∀(a:PV) (l:List PV) (p:PV->Bool),(a::l).all p=(p a&&l.all p))/\(∀p:PV->Bool,([]:List PV).all p=true)/\(∀(z:Nat) (l:List PV),gd (eB z l)=true)/\(∀x:Value,gd (.v x)=true)/\(∀s:List UInt8,gd (.str s)=true)/\(∀b:Bool,(b&&b)=b)/\∀b:Bool,(b&&true)=b:=⟨λ_ _ _=>List.all_append,λ_ _ _=>aP,λ_=>List.all_nil,eR,bF7,a8k,Bool.and_self,bE⟩
def bGc: ∀x:D0 0,(fW 0 x).all gd=true:=λ(x:G.Z)=>by
 show(G.eSource _).all gd=true;simp only[G.eSource,CW]
def a8D: ∀x:D0 1,(fW 1 x).all gd=true:=λ(x:G.Y)=>by
 show(G.eSymbol _).all gd=true;simp only[G.eSymbol,CW]
def gY: ∀y:G.Y,(G.eSymbol y).all gd=true:=a8D
def a8t: ∀x:D0 2,(fW 2 x).all gd=true:=λ(x:G.O)=>by
 cases x;show(G.eObject _).all gd=true;simp only[G.eObject,CW,gY]
def EI: ∀y:G.O,(G.eObject y).all gd=true:=a8t
def a8n: ∀x:D0 3,(fW 3 x).all gd=true:=λ(x:G.T)=>by
 cases x;show(G.eTerm _).all gd=true;simp only[G.eTerm,CW,gY,EI]
def zU: ∀y:G.T,(G.eTerm y).all gd=true:=a8n
def bGb: ∀x:D0 4,(fW 4 x).all gd=true:=λ(x:G.Q)=>by
 show(G.ePairSymbol _).all gd=true;simp only[G.ePairSymbol,CW,gY]
def bGa: ∀x:D0 5,(fW 5 x).all gd=true:=λ(x:G.U)=>by
 show(G.eRule _).all gd=true;simp only[G.eRule,CW,gY,zU]
def bF9: ∀x:D0 6,(fW 6 x).all gd=true:=λ(x:G.I)=>by
 show(G.eAssign _).all gd=true;simp only[G.eAssign,CW,gY,zU]
def bF8: ∀x:D0 7,(fW 7 x).all gd=true:=λ(x:G.F)=>by
 show(G.eFunction _).all gd=true;simp only[G.eFunction,CW,gY,zU]
def a8m: ∀x:D0 8,(fW 8 x).all gd=true:=λ(x:G.A)=>by
 show(G.ePackage _).all gd=true;simp only[G.ePackage,CW]
def aAw: ∀y:G.A,(G.ePackage y).all gd=true:=a8m
def a8l: ∀x:D0 9,(fW 9 x).all gd=true:=λ(x:G.M)=>by
 show(G.eMacro _).all gd=true;simp only[G.eMacro,CW,gY,zU]
def aLu: ∀y:G.M,(G.eMacro y).all gd=true:=a8l
def a8C: ∀x:D0 10,(fW 10 x).all gd=true:=λ(x:G.D)=>by
 show(G.eField _).all gd=true;simp only[G.eField,CW,gY,EI]
def aOR: ∀x:D0 11,(fW 11 x).all gd=true:=λ(x:G.B)=>by
 show(G.eStobj _).all gd=true;simp only[G.eStobj,CW,gY]
def aLt: ∀y:G.B,(G.eStobj y).all gd=true:=aOR
def a8B: ∀x:D0 12,(fW 12 x).all gd=true:=λ(x:G.C)=>by
 show(G.eCase _).all gd=true;simp only[G.eCase,CW]
def a8A: ∀x:D0 13,(fW 13 x).all gd=true:=λ(x:G.J)=>by
 show(G.eLambda _).all gd=true;simp only[G.eLambda,CW,gY,zU]
def a8z: ∀x:D0 14,(fW 14 x).all gd=true:=λ(x:G.N)=>by
 show(G.eLine _).all gd=true;simp only[G.eLine,CW,gY,zU]
def a8y: ∀x:D0 15,(fW 15 x).all gd=true:=λ(x:G.E)=>by
 cases x;show(G.eEntry _).all gd=true;simp only[G.eEntry,CW,gY,aAw,aLu,aLt]
def a8x: ∀x:D0 16,(fW 16 x).all gd=true:=λ(x:G.L)=>by
 show(G.eLemma _).all gd=true;simp only[G.eLemma,CW,zU]
def a8w: ∀x:D0 17,(fW 17 x).all gd=true:=λ(x:G.S)=>by
 show(G.eBinding _).all gd=true;simp only[G.eBinding,CW,gY,EI]
def a8v: ∀x:D0 18,(fW 18 x).all gd=true:=λ(x:G.W)=>by
 show(G.eEvaluator _).all gd=true;simp only[G.eEvaluator,CW]
def a8u: ∀x:D0 19,(fW 19 x).all gd=true:=λ(x:G.X)=>by
 show(G.eSourceError _).all gd=true;simp only[G.eSourceError,CW]
def a8s: ∀x:D0 20,(fW 20 x).all gd=true:=λ(x:G.K)=>by
 show(G.eToken _).all gd=true;simp only[G.eToken,CW]
def a8r: ∀x:D0 21,(fW 21 x).all gd=true:=λ(x:G.P)=>by
 show(G.eParser _).all gd=true;simp only[G.eParser,CW]
def a8q: ∀x:D0 22,(fW 22 x).all gd=true:=λ(x:G.V)=>by
 show(G.eTranslator _).all gd=true;simp only[G.eTranslator,CW]
def a8p: ∀x:D0 23,(fW 23 x).all gd=true:=λ(x:G.R)=>by
 show(G.eRow _).all gd=true;simp only[G.eRow,CW]
def a8o(k:Nat): ∀x:D0 (k+24),(fW (k+24) x).all gd=true:=λ(x:G.Integer)=>by
 show(G.eInteger _).all gd=true;simp only[G.eInteger,CW]
def iL:=And.intro G.lSource_map (And.intro G.lSymbol_map (And.intro G.lObject_map (And.intro G.lTerm_map (And.intro G.lPairSymbol_map (And.intro G.lRule_map (And.intro G.lAssign_map (And.intro G.lFunction_map (And.intro G.lPackage_map (And.intro G.lMacro_map (And.intro G.lField_map (And.intro G.lStobj_map (And.intro G.lCase_map (And.intro G.lLambda_map (And.intro G.lLine_map (And.intro G.lEntry_map (And.intro G.lLemma_map (And.intro G.lBinding_map (And.intro G.lEvaluator_map (And.intro G.lSourceError_map (And.intro G.lToken_map (And.intro G.lParser_map (And.intro G.lTranslator_map (And.intro G.lRow_map G.lInteger_map)))))))))))))))))))))))
def a8U: ∀x:D0 0,fW 0 x=(nJ 0 x).flatMap λv=>(dD U0 v.t v.x).cells:=λ(x:G.Z)=>by
 show G.eSource _=_;simp only[G.eSource,nJ,aN,bB,dD,dU,eK,dR,dV,bA,aQ,aR,aY,aW,dC,U0,nN,fW,iL]
 try rfl
def a8T: ∀x:D0 1,fW 1 x=(nJ 1 x).flatMap λv=>(dD U0 v.t v.x).cells:=λ(x:G.Y)=>by
 show G.eSymbol _=_;simp only[G.eSymbol,nJ,aN,bB,dD,dU,eK,dR,dV,bA,aQ,aR,aY,aW,dC,U0,nN,fW,iL]
 try rfl
def a8S: ∀x:D0 2,fW 2 x=(nJ 2 x).flatMap λv=>(dD U0 v.t v.x).cells:=λ(x:G.O)=>by
 cases x;show G.eObject _=_;simp only[G.eObject,nJ,aN,bB,dD,dU,eK,dR,dV,bA,aQ,aR,aY,aW,dC,U0,nN,fW,iL,G.O.kind,G.O.num,G.O.den,G.O.sym,G.O.text,G.O.pair]
 try rfl
def a8R: ∀x:D0 3,fW 3 x=(nJ 3 x).flatMap λv=>(dD U0 v.t v.x).cells:=λ(x:G.T)=>by
 cases x;show G.eTerm _=_;simp only[G.eTerm,nJ,aN,bB,dD,dU,eK,dR,dV,bA,aQ,aR,aY,aW,dC,U0,nN,fW,iL,G.T.kind,G.T.name,G.T.value,G.T.args]
 try rfl
def a8Q: ∀x:D0 4,fW 4 x=(nJ 4 x).flatMap λv=>(dD U0 v.t v.x).cells:=λ(x:G.Q)=>by
 show G.ePairSymbol _=_;simp only[G.ePairSymbol,nJ,aN,bB,dD,dU,eK,dR,dV,bA,aQ,aR,aY,aW,dC,U0,nN,fW,iL]
 try rfl
def a8P: ∀x:D0 5,fW 5 x=(nJ 5 x).flatMap λv=>(dD U0 v.t v.x).cells:=λ(x:G.U)=>by
 show G.eRule _=_;simp only[G.eRule,nJ,aN,bB,dD,dU,eK,dR,dV,bA,aQ,aR,aY,aW,dC,U0,nN,fW,iL]
 try rfl
def a8O: ∀x:D0 6,fW 6 x=(nJ 6 x).flatMap λv=>(dD U0 v.t v.x).cells:=λ(x:G.I)=>by
 show G.eAssign _=_;simp only[G.eAssign,nJ,aN,bB,dD,dU,eK,dR,dV,bA,aQ,aR,aY,aW,dC,U0,nN,fW,iL]
 try rfl
def a8N: ∀x:D0 7,fW 7 x=(nJ 7 x).flatMap λv=>(dD U0 v.t v.x).cells:=λ(x:G.F)=>by
 show G.eFunction _=_;simp only[G.eFunction,nJ,aN,bB,dD,dU,eK,dR,dV,bA,aQ,aR,aY,aW,dC,U0,nN,fW,iL]
 try rfl
def a8M: ∀x:D0 8,fW 8 x=(nJ 8 x).flatMap λv=>(dD U0 v.t v.x).cells:=λ(x:G.A)=>by
 show G.ePackage _=_;simp only[G.ePackage,nJ,aN,bB,dD,dU,eK,dR,dV,bA,aQ,aR,aY,aW,dC,U0,nN,fW,iL]
 try rfl
def a8L: ∀x:D0 9,fW 9 x=(nJ 9 x).flatMap λv=>(dD U0 v.t v.x).cells:=λ(x:G.M)=>by
 show G.eMacro _=_;simp only[G.eMacro,nJ,aN,bB,dD,dU,eK,dR,dV,bA,aQ,aR,aY,aW,dC,U0,nN,fW,iL]
 try rfl
def a0d: ∀x:D0 10,fW 10 x=(nJ 10 x).flatMap λv=>(dD U0 v.t v.x).cells:=λ(x:G.D)=>by
 show G.eField _=_;simp only[G.eField,nJ,aN,bB,dD,dU,eK,dR,dV,bA,aQ,aR,aY,aW,dC,U0,nN,fW,iL]
 try rfl
def a0c: ∀x:D0 11,fW 11 x=(nJ 11 x).flatMap λv=>(dD U0 v.t v.x).cells:=λ(x:G.B)=>by
 show G.eStobj _=_;simp only[G.eStobj,nJ,aN,bB,dD,dU,eK,dR,dV,bA,aQ,aR,aY,aW,dC,U0,nN,fW,iL]
 try rfl
def a0b: ∀x:D0 12,fW 12 x=(nJ 12 x).flatMap λv=>(dD U0 v.t v.x).cells:=λ(x:G.C)=>by
 show G.eCase _=_;simp only[G.eCase,nJ,aN,bB,dD,dU,eK,dR,dV,bA,aQ,aR,aY,aW,dC,U0,nN,fW,iL]
 try rfl
def a0a: ∀x:D0 13,fW 13 x=(nJ 13 x).flatMap λv=>(dD U0 v.t v.x).cells:=λ(x:G.J)=>by
 show G.eLambda _=_;simp only[G.eLambda,nJ,aN,bB,dD,dU,eK,dR,dV,bA,aQ,aR,aY,aW,dC,U0,nN,fW,iL]
 try rfl
def aZ9: ∀x:D0 14,fW 14 x=(nJ 14 x).flatMap λv=>(dD U0 v.t v.x).cells:=λ(x:G.N)=>by
 show G.eLine _=_;simp only[G.eLine,nJ,aN,bB,dD,dU,eK,dR,dV,bA,aQ,aR,aY,aW,dC,U0,nN,fW,iL]
 try rfl
def aZ8: ∀x:D0 15,fW 15 x=(nJ 15 x).flatMap λv=>(dD U0 v.t v.x).cells:=λ(x:G.E)=>by
 cases x;show G.eEntry _=_;simp only[G.eEntry,nJ,aN,bB,dD,dU,eK,dR,dV,bA,aQ,aR,aY,aW,dC,U0,nN,fW,iL,G.E.kind,G.E.name,G.E.package,G.E.mac,G.E.functions,G.E.formulas,G.E.logs,G.E.locl,G.E.stobj,G.E.rules,G.E.enabled,G.E.disabled,G.E.text,G.E.hash]
 try rfl
def aZ7: ∀x:D0 16,fW 16 x=(nJ 16 x).flatMap λv=>(dD U0 v.t v.x).cells:=λ(x:G.L)=>by
 show G.eLemma _=_;simp only[G.eLemma,nJ,aN,bB,dD,dU,eK,dR,dV,bA,aQ,aR,aY,aW,dC,U0,nN,fW,iL]
 try rfl
def aZ6: ∀x:D0 17,fW 17 x=(nJ 17 x).flatMap λv=>(dD U0 v.t v.x).cells:=λ(x:G.S)=>by
 show G.eBinding _=_;simp only[G.eBinding,nJ,aN,bB,dD,dU,eK,dR,dV,bA,aQ,aR,aY,aW,dC,U0,nN,fW,iL]
 try rfl
def aZ5: ∀x:D0 18,fW 18 x=(nJ 18 x).flatMap λv=>(dD U0 v.t v.x).cells:=λ(x:G.W)=>by
 show G.eEvaluator _=_;simp only[G.eEvaluator,nJ,aN,bB,dD,dU,eK,dR,dV,bA,aQ,aR,aY,aW,dC,U0,nN,fW,iL]
 try rfl
def aZ4: ∀x:D0 19,fW 19 x=(nJ 19 x).flatMap λv=>(dD U0 v.t v.x).cells:=λ(x:G.X)=>by
 show G.eSourceError _=_;simp only[G.eSourceError,nJ,aN,bB,dD,dU,eK,dR,dV,bA,aQ,aR,aY,aW,dC,U0,nN,fW,iL]
 try rfl
def aZ3: ∀x:D0 20,fW 20 x=(nJ 20 x).flatMap λv=>(dD U0 v.t v.x).cells:=λ(x:G.K)=>by
 show G.eToken _=_;simp only[G.eToken,nJ,aN,bB,dD,dU,eK,dR,dV,bA,aQ,aR,aY,aW,dC,U0,nN,fW,iL]
 try rfl
def aZ2: ∀x:D0 21,fW 21 x=(nJ 21 x).flatMap λv=>(dD U0 v.t v.x).cells:=λ(x:G.P)=>by
 show G.eParser _=_;simp only[G.eParser,nJ,aN,bB,dD,dU,eK,dR,dV,bA,aQ,aR,aY,aW,dC,U0,nN,fW,iL]
 try rfl
def aZ1: ∀x:D0 22,fW 22 x=(nJ 22 x).flatMap λv=>(dD U0 v.t v.x).cells:=λ(x:G.V)=>by
 show G.eTranslator _=_;simp only[G.eTranslator,nJ,aN,bB,dD,dU,eK,dR,dV,bA,aQ,aR,aY,aW,dC,U0,nN,fW,iL]
 try rfl
def aZ0: ∀x:D0 23,fW 23 x=(nJ 23 x).flatMap λv=>(dD U0 v.t v.x).cells:=λ(x:G.R)=>by
 show G.eRow _=_;simp only[G.eRow,nJ,aN,bB,dD,dU,eK,dR,dV,bA,aQ,aR,aY,aW,dC,U0,nN,fW,iL]
 try rfl
def aZZ(k:Nat): ∀x:D0 (k+24),fW (k+24) x=(nJ (k+24) x).flatMap λv=>(dD U0 v.t v.x).cells:=λ(x:G.Integer)=>by
 show G.eInteger _=_;simp only[G.eInteger,nJ,aN,bB,dD,dU,eK,dR,dV,bA,aQ,aR,aY,aW,dC,U0,nN,fW,iL]
 try rfl
def aCp:iE U0 where
 eqc:=by
  intro n f x h
  match n,f,x,h with
  |0,f,x,h=>cases h
  |1,f,x,h=>cases h;rfl
  |2,f,x,h=>cases h
  |3,f,x,h=>cases h
  |4,f,x,h=>cases h;rfl
  |5,f,x,h=>cases h
  |6,f,x,h=>cases h
  |7,f,x,h=>cases h
  |8,f,x,h=>cases h
  |9,f,x,h=>cases h
  |10,f,x,h=>cases h
  |11,f,x,h=>cases h
  |12,f,x,h=>cases h
  |13,f,x,h=>cases h
  |14,f,x,h=>cases h
  |15,f,x,h=>cases h
  |16,f,x,h=>cases h
  |17,f,x,h=>cases h
  |18,f,x,h=>cases h
  |19,f,x,h=>cases h
  |20,f,x,h=>cases h
  |21,f,x,h=>cases h
  |22,f,x,h=>cases h
  |23,f,x,h=>cases h
  |k+24,f,x,h=>cases h
 ty:=λn=>match n with|0=>λ_=>rfl|1=>λ_=>rfl|2=>λ_=>rfl|3=>λ_=>rfl|4=>λ_=>rfl|5=>λ_=>rfl|6=>λ_=>rfl|7=>λ_=>rfl|8=>λ_=>rfl|9=>λ_=>rfl|10=>λ_=>rfl|11=>λ_=>rfl|12=>λ_=>rfl|13=>λ_=>rfl|14=>λ_=>rfl|15=>λ_=>rfl|16=>λ_=>rfl|17=>λ_=>rfl|18=>λ_=>rfl|19=>λ_=>rfl|20=>λ_=>rfl|21=>λ_=>rfl|22=>λ_=>rfl|23=>λ_=>rfl|k+24=>λ_=>rfl
 un_of:=by
  intro n l x h
  match n,x,h with
  |0,x,h=>
   simp only[U0,Cn]at h;split at h
   .rename_i r hr;cases h;exact dJ hr
   .cases h
  |1,x,h=>
   simp only[U0,Cn]at h;split at h
   .rename_i r hr;cases h;exact dJ hr
   .cases h
  |2,x,h=>
   simp only[U0,Cn]at h;split at h
   .rename_i r hr;cases h;exact dJ hr
   .cases h
  |3,x,h=>
   simp only[U0,Cn]at h;split at h
   .rename_i r hr;cases h;exact dJ hr
   .cases h
  |4,x,h=>
   simp only[U0,Cn]at h;split at h
   .rename_i r hr;cases h;exact dJ hr
   .cases h
  |5,x,h=>
   simp only[U0,Cn]at h;split at h
   .rename_i r hr;cases h;exact dJ hr
   .cases h
  |6,x,h=>
   simp only[U0,Cn]at h;split at h
   .rename_i r hr;cases h;exact dJ hr
   .cases h
  |7,x,h=>
   simp only[U0,Cn]at h;split at h
   .rename_i r hr;cases h;exact dJ hr
   .cases h
  |8,x,h=>
   simp only[U0,Cn]at h;split at h
   .rename_i r hr;cases h;exact dJ hr
   .cases h
  |9,x,h=>
   simp only[U0,Cn]at h;split at h
   .rename_i r hr;cases h;exact dJ hr
   .cases h
  |10,x,h=>
   simp only[U0,Cn]at h;split at h
   .rename_i r hr;cases h;exact dJ hr
   .cases h
  |11,x,h=>
   simp only[U0,Cn]at h;split at h
   .rename_i r hr;cases h;exact dJ hr
   .cases h
  |12,x,h=>
   simp only[U0,Cn]at h;split at h
   .rename_i r hr;cases h;exact dJ hr
   .cases h
  |13,x,h=>
   simp only[U0,Cn]at h;split at h
   .rename_i r hr;cases h;exact dJ hr
   .cases h
  |14,x,h=>
   simp only[U0,Cn]at h;split at h
   .rename_i r hr;cases h;exact dJ hr
   .cases h
  |15,x,h=>
   simp only[U0,Cn]at h;split at h
   .rename_i r hr;cases h;exact dJ hr
   .cases h
  |16,x,h=>
   simp only[U0,Cn]at h;split at h
   .rename_i r hr;cases h;exact dJ hr
   .cases h
  |17,x,h=>
   simp only[U0,Cn]at h;split at h
   .rename_i r hr;cases h;exact dJ hr
   .cases h
  |18,x,h=>
   simp only[U0,Cn]at h;split at h
   .rename_i r hr;cases h;exact dJ hr
   .cases h
  |19,x,h=>
   simp only[U0,Cn]at h;split at h
   .rename_i r hr;cases h;exact dJ hr
   .cases h
  |20,x,h=>
   simp only[U0,Cn]at h;split at h
   .rename_i r hr;cases h;exact dJ hr
   .cases h
  |21,x,h=>
   simp only[U0,Cn]at h;split at h
   .rename_i r hr;cases h;exact dJ hr
   .cases h
  |22,x,h=>
   simp only[U0,Cn]at h;split at h
   .rename_i r hr;cases h;exact dJ hr
   .cases h
  |23,x,h=>
   simp only[U0,Cn]at h;split at h
   .rename_i r hr;cases h;exact dJ hr
   .cases h
  |k+24,x,h=>
   simp only[U0,Cn]at h;split at h
   .rename_i r hr;cases h;exact dJ hr
   .cases h
 en:=λn=>match n with|0=>a8U|1=>a8T|2=>a8S|3=>a8R|4=>a8Q|5=>a8P|6=>a8O|7=>a8N|8=>a8M|9=>a8L|10=>a0d|11=>a0c|12=>a0b|13=>a0a|14=>aZ9|15=>aZ8|16=>aZ7|17=>aZ6|18=>aZ5|19=>aZ4|20=>aZ3|21=>aZ2|22=>aZ1|23=>aZ0|k+24=>aZZ k
 len:=λn=>match n with|0=>a6O|1=>aOG|2=>aOF|3=>aOE|4=>a6N|5=>a6M|6=>a6L|7=>a6K|8=>aOD|9=>aOC|10=>aXR|11=>aD0|12=>aXQ|13=>aXP|14=>aXO|15=>aXN|16=>aXM|17=>aXL|18=>aXK|19=>aXJ|20=>aXI|21=>aXH|22=>aXG|23=>aXF|k+24=>aXE k
 sz:=λn=>by
    iterate 24 (rcases n with _|n; · kernel_rfl)
    kernel_rfl
 zc:=λn=>by
    iterate 24 (rcases n with _|n; · kernel_rfl)
    kernel_rfl
 nz:=λn=>by
    iterate 24 (rcases n with _|n; · kernel_rfl)
    kernel_rfl
 zero:=λn=>by
    iterate 24 (rcases n with _|n; · kernel_rfl)
    kernel_rfl
 lt:=λn=>by
    iterate 24 (rcases n with _|n; · kernel_rfl)
    kernel_rfl
 ltl:=λn=>by
    iterate 24 (rcases n with _|n; · kernel_rfl)
    kernel_rfl
 gd:=λn=>match n with|0=>bGc|1=>a8D|2=>a8t|3=>a8n|4=>bGb|5=>bGa|6=>bF9|7=>bF8|8=>a8m|9=>a8l|10=>a8C|11=>aOR|12=>a8B|13=>a8A|14=>a8z|15=>a8y|16=>a8x|17=>a8w|18=>a8v|19=>a8u|20=>a8s|21=>a8r|22=>a8q|23=>a8p|k+24=>a8o k
 pos:=λn=>bK (by
    iterate 24 (rcases n with _|n; · kernel_rfl)
    kernel_rfl)
end Go.TV
namespace Go.AI
section
variable{P:Program}{H:St}
def Own(H:St)(id z:Nat)(s:Value)(n:Nat)(cs:List Value):Prop:=
 ∃k m,s= .slice (some ⟨id,0,none⟩) n k/\id<H.next/\H.row id=some (cs,m)/\cs.length=n*z/\m.wr=true/\m.z=z/\(k=n∨(m.tip=true/\m.grp.isSome=true))
def Own.mono{H':St}{id z:Nat}{s:Value}{n:Nat}{cs:List Value}(h:Own H id z s n cs)(hn:H.next<=H'.next)(e:H'.row id=H.row id):Own H' id z s n cs:=by
 obtain⟨k,m,h1,h3,h4,h5⟩:=h;exact⟨k,m,h1,by omega,e.trans h4,h5⟩
end
end Go.AI
namespace Go.AI
section
variable{P:Program}
def ZI{N:Type}{c:Prop}[Decidable c]{a b:Sem N}:cI P (if c then a else b)=if c then cI P a else cI P b:=by split<;>rfl
def CM{d:Nat}{t:TypeId}{fs:Array Field}{xs ys:Array Value}(ht:P.underlying t=some (.struct fs))(hp:P.stoodInHeld t=false):
    cI P (Op.equalIn (d+1) t (.agg xs) (.agg ys))=cI P (Op.eqFields d xs ys fs.toList):=by
 rw[Op.equalIn.eq_2,bL,bT,ht];simp only[aL];rw[bL];have:cI P program=some P:=rfl;rw[this];simp only[aL,hp,Bool.false_eq_true,if_false];rw[<-Array.forIn_toList];generalize fs.toList=l;clear ht;induction l with
 |nil=>simp[Op.eqFields,bL,bQ]
 |cons f l ih=>
  simp only[List.forIn_cons,Op.eqFields,bL,ZI];split
  .cases cI P (part f.type xs f.offset)with
   |none=>rfl
   |some a=>
    cases cI P (part f.type ys f.offset)with
    |none=>rfl
    |some b=>
     simp only[aL];cases cI P (Op.equalIn d f.type a b)with
     |none=>rfl
     |some r=>
      cases r with
      |false=>simp[bQ]
      |true=>
       simp only[aL,bD,Bool.false_eq_true,if_false,bQ];simpa only[bL]using ih
  .simp only[bQ,aL];simpa only[bL]using ih
def QE{t:TypeId}{x y:Operand}{xs ys:Array Value}{r:Bool}(h1:xs.toList.all bN=true)(h2:ys.toList.all bN=true)(hg:cI P (eqGuard .eql t x y (.agg xs) (.agg ys))=some ())(he:cI P (Op.equal t (.agg xs) (.agg ys))=some r):
    gV P .eql t x y (.agg xs) (.agg ys)=some (.bool r):=by
 simp only[gV,cK,h1,h2,Bool.and_self,aI,cQ,bL,hg,aL,binOp,he,bQ,bN]
def QD{t:TypeId}{x y:Operand}{xs ys:Array Value}{r:Bool}(h1:xs.toList.all bN=true)(h2:ys.toList.all bN=true)(hg:cI P (eqGuard .neq t x y (.agg xs) (.agg ys))=some ())(he:cI P (Op.equal t (.agg xs) (.agg ys))=some r):
    gV P .neq t x y (.agg xs) (.agg ys)=some (.bool (!r)):=by
 simp only[gV,cK,h1,h2,Bool.and_self,aI,cQ,bL,hg,aL,binOp,he,bQ,bN]
end
end Go.AI
namespace Go.TV
open Go.AI Go.PI
def P4:List (Nat×Ty)->Nat->Option Ty
 |[],_=>none
 |(k,t)::l,i=>bif Nat.beq k i then some t else P4 l i
def BP: ∀{l:List (Nat×Ty)} {i:Nat} {t:Ty},P4 l i=some t->(i,t)∈l
 |(k,t)::l,i,u,h=>by
  unfold P4 at h;cases hb:Nat.beq k i with
  |true=>rw[hb]at h;cases h;rw[aE hb];exact aH ..
  |false=>rw[hb]at h;exact aG _ (BP h)
def aEW:List (Nat×Nat)->Nat->Option Nat
 |[],_=>none
 |(k,t)::l,i=>bif Nat.beq k i then some t else aEW l i
def aLD:List (Nat×Nat)->List (Nat×Nat)->Bool
 |[],[]=>true
 |(a,b)::l,(c,d)::r=>Nat.beq a c&&Nat.beq b d&&aLD l r
 |_,_=>false
def XH: ∀{l r:List (Nat×Nat)},aLD l r=true->l=r
 |[],[],_=>rfl
 |(a,b)::l,(c,d)::r,h=>by
  simp only[aLD,aC,cR,aD]at h;rw[h.1.1,h.1.2,XH h.2]
 |[],_::_,h=>by cases h
 |_::_,[],h=>by cases h
section
variable(P:Program)(T:TP U0.D)
def aKQ:List Field->List Ty->Nat->Bool
 |[],[],_=>true
 |f::fs,t::ts,o=>(match T.T.ty f.type with|some u=>u.beq t|none=>false)&&Nat.beq f.offset o&&aKQ fs ts (o+dC U0 t)
 |_,_,_=>false
def aKM(id:Nat)(t:Ty):Bool:=
 match t,P.underlying id with
 | .int k,some (.int j)=>decide (k=j)
 | .bool,some .bool=>true
 | .str,some .string=>true
 | .sl e,some (.slice i)=>(match T.T.ty i with|some u=>u.beq e|none=>false)&&(match T.el id with|some j=>Nat.beq i j|none=>false)
 | .rc n,some (.struct fs)=>aKQ T fs.toList (U0.fs n) 0&&(match cI P (fs.mapM λf=>do pure (f.offset,<-Go.sizeOf f.type))with|some pl=>aLD pl.toList (aAf U0 (U0.fs n) 0)|none=>false)
 | .rc n,_=>T.T.arr id
 |_,_=>false
def Cm(x:Nat×Ty):Bool:=
 (match jS P x.1 with|some b=>(b==lU x.2)|none=>false)&&
 (match gU P x.1 with|some n=>Nat.beq n (dC U0 x.2)|none=>false)&&
 (match zeroCells P x.1 with|some z=>aBg z (NW U0 x.2)|none=>false)&&
 aKM P T x.1 x.2&&
 (match P.info? x.1 with
  |some i=>Nat.beq i.size (dC U0 x.2)&&Nat.beq i.bytes (T.T.by' x.1)&&Nat.ble 1 i.bytes&&(match i.zero with|some z=>Nat.beq z.cells.size i.size&&aBg (ofVs z.cells.toList) (NW U0 x.2)&&z.cells.toList.all bN|none=>false)
  |none=>false)
def aW0(id:Nat):Bool:=
 (match jS P id with|some b=> !b|none=>false)&&(match gU P id with|some n=>Nat.beq n 1|none=>false)&&(match zeroCells P id with|some z=>aBg z [.v .nilFunc]|none=>false)
variable{P T}
def Xe: ∀{fs:List Field} {ts:List Ty} {o:Nat},aKQ T fs ts o=true->fs.length=ts.length/\∀i f,fs[i]?=some f->T.T.ty f.type=ts[i]?/\f.offset=o+eP U0 (ts.take i)
 |[],[],o,_=>⟨rfl,λi f h=>by simp at h⟩
 |f::fs,t::ts,o,h=>by
  simp only[aKQ,aC,cR,aD]at h;obtain⟨⟨h1,h2⟩,h3⟩:=h;obtain⟨g1,g2⟩:=Xe h3;refine⟨by rw[aM,aM,g1],λi f' hf=>?_⟩
  cases i with
  |zero=>
   simp only[aU,aA]at hf;subst hf;refine⟨?_,by rw[h2];simp[eP]⟩
   cases hu:T.T.ty f.type with
   |none=>rw[hu]at h1;cases h1
   |some u=>rw[hu]at h1;rw[Ty.beq_eq h1];rfl
  |succ i=>
   rw[aT]at hf;obtain⟨k1,k2⟩:=g2 i f' hf;refine⟨by rw[k1,aT],by rw[k2,List.take_succ_cons,eP,Nat.add_assoc]⟩
 |[],_::_,_,h=>by cases h
 |_::_,[],_,h=>by cases h
def aKT(P:Program)(T:TP U0.D)(id:TypeId):Bool:=match T.T.ty id with
 |some (.rc n)=>(match P.underlying id with
  |some (.array len e)=>(match U0.fs n with
   |te::_=>(match gU P e with|some z=>Nat.beq z (dC U0 te)|none=>false)&&Nat.beq (U0.fs n).length len&&(U0.fs n).all λt=>t.beq te
   |[]=>false)
  |_=>false)
 |_=>true
def aCn{te:Ty}: ∀{l:List Ty},(l.all λt=>t.beq te)=true->l=List.replicate l.length te
 |[],_=>rfl
 |t::l,h=>by
  simp only[aP,aC]at h;rw[aM,List.replicate_succ,<-aCn h.2,Ty.beq_eq h.1]
def aKS{P:Program}{T:TP U0.D}{id:TypeId}{n:Nat}(h:aKT P T id=true)(ht:T.T.ty id=some (.rc n)): ∃len e te,P.underlying id=some (.array len e)/\gU P e=some (dC U0 te)/\U0.fs n=List.replicate len te:=by
 unfold aKT at h;rw[ht]at h;simp only at h;split at h
 .rename_i len e hu;split at h
  .rename_i te l hf;simp only[aC]at h;obtain⟨⟨h1,h2⟩,h3⟩:=h;refine⟨len,e,te,hu,?_,?_⟩
   .split at h1
    .rename_i z hz;rw[hz,aE h1]
    .cases h1
   .have:=aCn h3;rw[aE h2]at this;exact this
  .cases h
 .cases h
def a4d{l:List (Nat×Ty)}(hl:T.T.ty=P4 l)(h:l.all (Cm P T)=true)(fx: ∀id,T.T.fn id=true->aW0 P id=true)(xt: ∀id,T.T.arr id=true->∀fs,P.underlying id≠some (.struct fs))(lg: ∀id,T.T.arr id=true->aKT P T id=true)
    (heq: ∀id n f,T.T.ty id=some (.rc n)->U0.eq n=some f->∀(x y:U0.D n) (a b:Operand),
      lA P .eql id a b (.agg (U0.en n x)) (.agg (U0.en n y))=some (.v (.bool (f x y)))/\lA P .neq id a b (.agg (U0.en n x)) (.agg (U0.en n y))=some (.v (.bool (!f x y)))):rT P U0 T:=by
 have one: ∀id t,T.T.ty id=some t->Cm P T (id,t)=true:=λid t ht=>bJ.1 h _ (BP (by rw[<-hl];exact ht))
 have un: ∀id t,T.T.ty id=some t->aKM P T id t=true:=λid t ht=>by
  have:=one id t ht;simp only[Cm,aC]at this;exact this.1.2
 refine⟨λid t ht=>?_,λid t ht=>?_,λid t ht=>?_,λid t ht=>?_,λid hf=>?_,λid t ht=>?_,λid n ht ha=>?_,λid n ht ha=>?_,heq⟩
 .have:=one id t ht;simp only[Cm,aC]at this;have h1:=this.1.1.1.1;split at h1
  .rename_i b hb;rw[hb];rw[eq_of_beq h1]
  .cases h1
 .have:=one id t ht;simp only[Cm,aC]at this;have h1:=this.1.1.1.2;split at h1
  .rename_i b hb;rw[hb];rw[aE h1]
  .cases h1
 .have h1:=un id t ht;unfold aKM at h1;split at h1
  .rename_i k j hj;rw[of_decide_eq_true h1];exact hj
  .rename_i hj;exact hj
  .rename_i hj;exact hj
  .rename_i e i hj;simp only[aC]at h1;obtain⟨h2,h3⟩:=h1;refine⟨i,hj,?_,?_⟩
   .split at h2
    .rename_i u hu;rw[hu,Ty.beq_eq h2]
    .cases h2
   .split at h3
    .rename_i j hj2;rw[hj2,aE h3]
    .cases h3
  .rename_i n fs hj;simp only[aC]at h1;obtain⟨g1,g2⟩:=Xe h1.1;intro _;refine⟨fs,hj,by simpa using g1,λi f hf=>?_⟩
   obtain⟨k1,k2⟩:=g2 i f (by rw[Array.getElem?_toList];exact hf)
   exact⟨k1,by rw[k2,Nat.zero_add];rfl⟩
  .rename_i n _ _;intro ha;rw[h1]at ha;cases ha
  .cases h1
 .have:=one id t ht;simp only[Cm,aC]at this;have h1:=this.1.1.2;split at h1
  .rename_i b hb;rw[hb,Ks h1]
  .cases h1
 .have h1:=fx id hf;simp only[aW0,aC]at h1;obtain⟨⟨h1,h2⟩,h3⟩:=h1;refine⟨?_,?_,?_⟩
  .split at h1
   .rename_i b hb;rw[hb];simpa using h1
   .cases h1
  .split at h2
   .rename_i b hb;rw[hb,aE h2]
   .cases h2
  .split at h3
   .rename_i b hb;rw[hb,Ks h3]
   .cases h3
 .have:=one id t ht;simp only[Cm,aC]at this;have h1:=this.2;split at h1
  .rename_i i hi;simp only[aC]at h1;obtain⟨⟨⟨h1,h2⟩,h3⟩,h4⟩:=h1;split at h4
   .rename_i z hz;simp only[aC]at h4;exact⟨i,z,hi,aE h1,aE h2,by rwa [Nat.ble_eq]at h3,hz,aE h4.1.1,Ks h4.1.2,h4.2⟩
   .cases h4
  .cases h1
 .have h1:=un id _ ht;unfold aKM at h1;split at h1
  .rename_i e _;cases e
  .rename_i e _;cases e
  .rename_i e _;cases e
  .rename_i e _;cases e
  .rename_i n' fs e hj;cases e;simp only[aC]at h1;have h2:=h1.2;split at h2
   .rename_i pl dm;exact⟨fs,pl,hj,dm,XH h2⟩
   .cases h2
  .rename_i e _ _;rw[h1]at ha;cases ha
  .cases h1
 .exact aKS (lg id ha) ht
end
section
variable{P:Program}{t:TypeId}
def aZY(s u:List UInt8):((⟨s.toArray⟩:ByteArray)==⟨u.toArray⟩)=decide (s=u):=by
 show(s.toArray==u.toArray)=_;by_cases h:s=u
 .subst h;simp
 .simp[h]
def Ao{d:Nat}{t:TypeId}{s u:List UInt8}(h:P.underlying t=some .string):cI P (Op.equalIn (d+1) t (eG s) (eG u))=some (decide (s=u)):=by
 rw[Op.equalIn.eq_2,bL,bT,h,<-aZY];rfl
def V5{d:Nat}{ft:TypeId}{fs:Array Field}{f g:Field}(ht:P.underlying t=some (.struct fs))(hp:P.stoodInHeld t=false)(hs:P.underlying ft=some .string)(hz:jS P ft=some false)
    (hf : fs.toList = [f, g]) (h1 : f.name ≠ "_") (h2 : g.name ≠ "_") (e1 : f.type = ft) (e2 : g.type = ft) (o1 : f.offset = 0) (o2 : g.offset = 1) (s u : G.Y) :
    cI P (Op.equalIn (d+1+1) t (.agg #[eG s.package,eG s.name]) (.agg #[eG u.package,eG u.name]))=some (decide (s=u)):=by
 rw[CM ht hp,hf];have rg: ∀(a b:Value) (k:Nat) (v:Value), #[a,b][k]?=some v->cI P (part ft #[a,b] k)=some v:=by
  intro a b k v hk;unfold part;rw[bL];have hagg:cI P (Go.isAgg ft)=some false:=by
   simp only[Go.isAgg,bL,bT];unfold jS at hz;cases hu:P.underlying ft with
   |none=>rw[hu]at hz;cases hz
   |some d=>
    rw[hu]at hz;simp only[aK,aA]at hz;cases d<;>first|rfl|simp at hz
  rw[hagg];simp only[aL,Bool.false_eq_true,if_false,hk,bQ]
 have h0:=λ(x y:Value)=>rg x y 0 x (by simp)
 have h3:=λ(x y:Value)=>rg x y 1 y (by simp)
 simp only[Op.eqFields,h1,h2,e1,e2,o1,o2,ne_eq,not_false_eq_true,if_true,bL,h0,h3,aL];rw[Ao hs,aL];cases s with|mk sp sn=>
 cases u with|mk up un=>
 simp only[G.Y.mk.injEq]at*;by_cases c1:sp=up
 .simp only[c1,decide_true,bD,Bool.false_eq_true,if_false,bL,h3,aL];rw[Ao hs,aL];by_cases c2:sn=un<;>simp[c2,bQ]
 .simp[c1,bQ]
def aR2{ft:TypeId}{fs:Array Field}{f g:Field}(ht:P.underlying t=some (.struct fs))(hp:P.stoodInHeld t=false)(hs:P.underlying ft=some .string)(hz:jS P ft=some false)
    (hf : fs.toList = [f, g]) (h1 : f.name ≠ "_") (h2 : g.name ≠ "_") (e1 : f.type = ft) (e2 : g.type = ft) (o1 : f.offset = 0) (o2 : g.offset = 1) (s u : G.Y) :
    cI P (Op.equal t (.agg #[eG s.package,eG s.name]) (.agg #[eG u.package,eG u.name]))=some (decide (s=u)):=by
 unfold Op.equal;rw[show Op.maxDepth=9998+1+1 from rfl];exact V5 ht hp hs hz hf h1 h2 e1 e2 o1 o2 s u
def Pj{ft:TypeId}{fs:Array Field}{f g:Field}(ht:P.underlying t=some (.struct fs))(hp:P.stoodInHeld t=false)(hs:P.underlying ft=some .string)(hz:jS P ft=some false)(hg:P.eqGuardType P.depth t=false)
    (hf : fs.toList = [f, g]) (h1 : f.name ≠ "_") (h2 : g.name ≠ "_") (e1 : f.type = ft) (e2 : g.type = ft) (o1 : f.offset = 0) (o2 : g.offset = 1) (s u : G.Y) (a b : Operand) :
    lA P .eql t a b (.agg (G.eSymbol s)) (.agg (G.eSymbol u))=some (.v (.bool (decide (s=u))))/\lA P .neq t a b (.agg (G.eSymbol s)) (.agg (G.eSymbol u))=some (.v (.bool (!decide (s=u)))):=by
 have he:=aR2 ht hp hs hz hf h1 h2 e1 e2 o1 o2 s u;have jj: ∀op,lA P op t a b (.agg (G.eSymbol s)) (.agg (G.eSymbol u))=(gV P op t a b (.agg #[eG s.package,eG s.name]) (.agg #[eG u.package,eG u.name])).map Bo:=λop=>by
  simp only[lA,G.eSymbol,aR,aBc,Rc,pY,aK,gV,eG,cK,bN,aP,List.all_nil,Bool.and_self,aI]
 have hg1: ∀op,op=BinOp.eql∨op= .neq->cI P (eqGuard op t a b (.agg #[eG s.package,eG s.name]) (.agg #[eG u.package,eG u.name]))=some ():=by
  intro op mz;have pu:cI P program=some P:=rfl;rcases mz with rfl|rfl<;>simp only[eqGuard,bD,Bool.false_eq_true,if_false,bL,pu,aL,hg,Bool.not_false,if_true,bQ]
 constructor
 .rw[jj,QE (by simp[eG,bN]) (by simp[eG,bN]) (hg1 _ (.inl rfl)) he];rfl
 .rw[jj,QD (by simp[eG,bN]) (by simp[eG,bN]) (hg1 _ (.inr rfl)) he];rfl
end
end Go.TV
namespace Go.TV
open Go.AI Go.PI
section
variable{P:Program}{pt t ft:TypeId}{fs:Array Field}{f g:Field}
def aKG(hq:P.underlying pt=some (.array 2 t))(h2z:gU P t=some 2)(hta:jS P t=some true)(ht:P.underlying t=some (.struct fs))(hp:P.stoodInHeld t=false)(hs:P.underlying ft=some .string)(hz:jS P ft=some false)
    (hf : fs.toList = [f, g]) (h1 : f.name ≠ "_") (h2 : g.name ≠ "_") (e1 : f.type = ft) (e2 : g.type = ft) (o1 : f.offset = 0) (o2 : g.offset = 1) (s u : G.Q) :
    cI P (Op.equal pt (.agg #[eG s.a0.package,eG s.a0.name,eG s.a1.package,eG s.a1.name]) (.agg #[eG u.a0.package,eG u.a0.name,eG u.a1.package,eG u.a1.name]))=some (decide (s=u)):=by
 unfold Op.equal;rw[show Op.maxDepth=9997+1+1+1 from rfl,Op.equalIn.eq_2,bL,bT,hq]
 simp only[aL];rw[bL,cU,h2z];simp only[aL];have rg: ∀(a b c d:Value) (k:Nat),cI P (part t #[a,b,c,d] k)=some (.agg (#[a,b,c,d].extract k (k+2))):=λa b c d k=>by
  unfold part;rw[bL,pQ,hta];simp only[aL,if_true,bL,cU,h2z,bQ]
 have x0: ∀a b c d:Value,(#[a,b,c,d]:Array Value).extract (0*2) (0*2+2)= #[a,b]:=λa b c d=>rfl
 have x1: ∀a b c d:Value,(#[a,b,c,d]:Array Value).extract (1*2) (1*2+2)= #[c,d]:=λa b c d=>rfl
 have hd: ∀a b:G.Y,cI P (Op.equalIn (9997+1+1) t (.agg #[eG a.package,eG a.name]) (.agg #[eG b.package,eG b.name]))=some (decide (a=b)):=V5 ht hp hs hz hf h1 h2 e1 e2 o1 o2;have e3:decide (s=u)=(decide (s.a0=u.a0)&&decide (s.a1=u.a1)):=by
  cases s with|mk a b=>
  cases u with|mk a' b'=>
  simp only[G.Q.mk.injEq,Bool.decide_and]
 rw[e3];simp only[Std.Legacy.Range.forIn_eq_forIn_range',Std.Legacy.Range.size,Nat.sub_zero,Nat.add_one_sub_one,Nat.div_one,List.range',List.forIn_cons,List.forIn_nil,bL,rg,aL,x0,x1,hd,Nat.zero_add];by_cases c1:s.a0=u.a0<;>by_cases c2:s.a1=u.a1<;>simp[bQ,bL,rg,x1,hd,c1,c2]
def aAl(hq:P.underlying pt=some (.array 2 t))(h2z:gU P t=some 2)(hta:jS P t=some true)(ht:P.underlying t=some (.struct fs))(hp:P.stoodInHeld t=false)(hs:P.underlying ft=some .string)(hz:jS P ft=some false)(hg:P.eqGuardType P.depth pt=false)
    (hf : fs.toList = [f, g]) (h1 : f.name ≠ "_") (h2 : g.name ≠ "_") (e1 : f.type = ft) (e2 : g.type = ft) (o1 : f.offset = 0) (o2 : g.offset = 1) (s u : G.Q) (a b : Operand) :
    lA P .eql pt a b (.agg (G.ePairSymbol s)) (.agg (G.ePairSymbol u))=some (.v (.bool (decide (s=u))))/\lA P .neq pt a b (.agg (G.ePairSymbol s)) (.agg (G.ePairSymbol u))=some (.v (.bool (!decide (s=u)))):=by
 have he:=aKG hq h2z hta ht hp hs hz hf h1 h2 e1 e2 o1 o2 s u;have jj: ∀op,lA P op pt a b (.agg (G.ePairSymbol s)) (.agg (G.ePairSymbol u))=(gV P op pt a b (.agg #[eG s.a0.package,eG s.a0.name,eG s.a1.package,eG s.a1.name]) (.agg #[eG u.a0.package,eG u.a0.name,eG u.a1.package,eG u.a1.name])).map Bo:=λop=>by
  simp only[lA,G.ePairSymbol,G.eSymbol,aR,aY,aW,aBc,Rc,pY,aK,gV,eG,cK,bN,aP,List.all_nil,Bool.and_self,aI]
 have hg1: ∀op,op=BinOp.eql∨op= .neq->cI P (eqGuard op pt a b (.agg #[eG s.a0.package,eG s.a0.name,eG s.a1.package,eG s.a1.name]) (.agg #[eG u.a0.package,eG u.a0.name,eG u.a1.package,eG u.a1.name]))=some ():=by
  intro op mz;have pu:cI P program=some P:=rfl;rcases mz with rfl|rfl<;>simp only[eqGuard,bD,Bool.false_eq_true,if_false,bL,pu,aL,hg,Bool.not_false,if_true,bQ]
 constructor
 .rw[jj,QE (by simp[eG,bN]) (by simp[eG,bN]) (hg1 _ (.inl rfl)) he];rfl
 .rw[jj,QD (by simp[eG,bN]) (by simp[eG,bN]) (hg1 _ (.inr rfl)) he];rfl
end
end Go.TV
namespace Go.TV
open Go.AI Go.PI Go.Proofs
set_option maxRecDepth 20000
def tyL:List (Nat×Ty):=[(2,i6),(3,i6),(4,.bool),(5,(.int .u8)),(6,(.int .u8)),(9,.str),(10,.str),(11,.str),(12,(.int .u64)),(21,(.int .i32)),(22,(.sl (.int .u8))),(24,(zS 15)),(26,(.int .u32)),(28,(.rc 0)),(29,(.rc 0)),(30,(.rc 1)),(31,(.rc 1)),(32,(zS 2)),(33,(.rc 2)),(34,(.rc 2)),(35,(zS 3)),(36,(.rc 3)),(37,(.rc 3)),(44,(zS 17)),(52,i6),(53,(zS 4)),(54,(.rc 5)),(55,(.rc 5)),(56,i6),(60,(.rc 6)),(61,(.rc 6)),(62,(zS 6)),(65,(.sl (zS 7))),(67,(zS 1)),(68,(.rc 7)),(69,(.rc 7)),(70,(zS 7)),(71,(.rc 8)),(72,(.rc 8)),(73,(.rc 9)),(74,(.rc 9)),(75,(.sl (zS 14))),(76,(zS 10)),(77,(.rc 11)),(78,(.rc 11)),(79,(zS 5)),(80,(.int .u64)),(81,(.rc 15)),(82,(.rc 15)),(83,(zS 16)),(85,(.rc 16)),(86,(.rc 16)),(93,(.sl .str)),(95,(.rc 17)),(96,(.rc 17)),(105,(.rc 4)),(137,(.rc 18)),(138,(.rc 18)),(150,(.sl i6)),(151,(.rc 19)),(152,(.rc 19)),(155,(zS 8)),(183,(zS 20)),(187,(.rc 21)),(188,(.rc 21)),(189,(.rc 20)),(190,(.rc 20)),(195,(.rc 22)),(196,(.rc 22)),(198,(zS 23)),(200,(.rc 23)),(201,(.rc 23)),(261,(.sl (.int .u32))),(262,(.rc 24)),(263,(.rc 24)),(292,(.int .u64)),(298,i6),(319,(.int .u8)),(320,(.int .u8)),(322,(.int .i32)),(323,(.int .i32)),(326,(zS 14)),(327,(.rc 10)),(328,(.rc 10)),(329,(zS 3)),(330,(zS 12)),(331,(zS 13)),(332,(.rc 14)),(333,(.rc 14)),(334,(.sl (zS 6))),(335,(.rc 12)),(336,(.rc 12)),(337,(.rc 13)),(338,(.rc 13))]
def byL:List (Nat×Nat):=[(2,8),(3,8),(4,1),(5,1),(6,1),(9,16),(10,16),(11,16),(12,8),(21,4),(22,24),(24,24),(26,4),(28,32),(29,32),(30,32),(31,32),(32,24),(33,112),(34,112),(35,24),(36,176),(37,176),(44,24),(52,8),(53,24),(54,544),(55,544),(56,8),(60,208),(61,208),(62,24),(65,24),(67,24),(68,592),(69,592),(70,24),(71,40),(72,40),(73,240),(74,240),(75,24),(76,24),(77,56),(78,56),(79,24),(80,8),(81,568),(82,568),(83,24),(85,200),(86,200),(93,24),(95,144),(96,144),(105,64),(137,32),(138,32),(150,24),(151,16),(152,16),(155,24),(183,24),(187,72),(188,72),(189,64),(190,64),(195,56),(196,56),(198,24),(200,24),(201,24),(261,24),(262,32),(263,32),(292,8),(298,8),(319,1),(320,1),(322,4),(323,4),(326,24),(327,152),(328,152),(329,24),(330,24),(331,24),(332,552),(333,552),(334,24),(335,48),(336,48),(337,232),(338,232)]
def elL:List (Nat×Nat):=[(22,5),(24,82),(32,34),(35,37),(44,96),(53,105),(62,61),(65,70),(67,31),(70,69),(75,326),(76,328),(79,55),(83,86),(93,9),(150,3),(155,72),(183,190),(198,201),(261,26),(326,333),(329,37),(330,336),(331,338),(334,62)]
def fnL:List Nat:=[1,23,25,38,40,41,42,43,45,47,48,49,50,51,58,59,63,64,66,84,87,88,89,90,91,92,94,98,99,100,101,103,104,106,107,108,109,110,111,112,113,114,115,116,117,118,119,121,122,123,125,126,127,129,130,131,132,133,134,135,140,142,143,144,145,146,148,149,154,156,157,159,161,163,164,165,167,168,169,171,172,173,174,175,176,177,178,179,180,181,182,185,191,193,197,199,203,205,206,208,209,210,211,212,213,214,215,216,217,218,219,221,223,224,225,227,229,230,231,232,233,234,235,236,238,239,240,241,242,244,245,246,247,249,250,251,253,255,256,257,258,259,260,264,265,267,268,269,270,272,273,275,279,280,282,286,288,289,293,294,296,297,299,301,302,304,309,318,321]
def arL:List Nat:=[105]
def tt0:TT:=⟨P4 tyL,λi=>(aEW byL i).getD 0,λi=>dY i fnL,λi=>dY i arL⟩
def bAZ(o:Fs)(sig:Nat->Option QJ):TP U0.D:=⟨tt0,aEW elL,sig,o⟩
def aRV(o:Fs)(sig:Nat->Option QJ):tyL.all (Cm Tryz.prog (bAZ o sig))=true:=by kernel_rfl
def aZN:fnL.all (aW0 Tryz.prog)=true:=by kernel_rfl
def a7m(P:Program)(i:Nat):Bool:=match P.underlying i with|some (.struct _)=>true|_=>false
def a1A:arL.all (λi=> !a7m Tryz.prog i)=true:=by kernel_rfl
def aMW(o:Fs)(sig:Nat->Option QJ):arL.all (aKT Tryz.prog (bAZ o sig))=true:=by kernel_rfl
def aR3:(tyL.all λx=>match x.2 with| .rc n=>(match U0.eq n with|some _=>dY x.1 [30,31,105]|none=>true)|_=>true)=true:=by kernel_rfl
def aRX(o:Fs)(sig:Nat->Option QJ):rT Tryz.prog U0 (bAZ o sig):=by
 refine a4d (l:=tyL) rfl (aRV o sig) (λid h=>?_) (λid h fs e=>?_) (λid h=>bJ.1 (aMW o sig) _ (jG.1 h)) (λid n f h1 h2=>?_)
 .exact bJ.1 aZN _ (jG.1 h)
 .have:=bJ.1 a1A _ (jG.1 h);simp only[a7m,e]at this;cases this
 .have h3:=bJ.1 aR3 _ (BP h1);simp only[h2]at h3;have hn:n=1∨n=4:=by
   match n,f,h2 with
   |0,f,h2=>first|exact .inl rfl|exact .inr rfl|cases h2
   |1,f,h2=>first|exact .inl rfl|exact .inr rfl|cases h2
   |2,f,h2=>first|exact .inl rfl|exact .inr rfl|cases h2
   |3,f,h2=>first|exact .inl rfl|exact .inr rfl|cases h2
   |4,f,h2=>first|exact .inl rfl|exact .inr rfl|cases h2
   |5,f,h2=>first|exact .inl rfl|exact .inr rfl|cases h2
   |6,f,h2=>first|exact .inl rfl|exact .inr rfl|cases h2
   |7,f,h2=>first|exact .inl rfl|exact .inr rfl|cases h2
   |8,f,h2=>first|exact .inl rfl|exact .inr rfl|cases h2
   |9,f,h2=>first|exact .inl rfl|exact .inr rfl|cases h2
   |10,f,h2=>first|exact .inl rfl|exact .inr rfl|cases h2
   |11,f,h2=>first|exact .inl rfl|exact .inr rfl|cases h2
   |12,f,h2=>first|exact .inl rfl|exact .inr rfl|cases h2
   |13,f,h2=>first|exact .inl rfl|exact .inr rfl|cases h2
   |14,f,h2=>first|exact .inl rfl|exact .inr rfl|cases h2
   |15,f,h2=>first|exact .inl rfl|exact .inr rfl|cases h2
   |16,f,h2=>first|exact .inl rfl|exact .inr rfl|cases h2
   |17,f,h2=>first|exact .inl rfl|exact .inr rfl|cases h2
   |18,f,h2=>first|exact .inl rfl|exact .inr rfl|cases h2
   |19,f,h2=>first|exact .inl rfl|exact .inr rfl|cases h2
   |20,f,h2=>first|exact .inl rfl|exact .inr rfl|cases h2
   |21,f,h2=>first|exact .inl rfl|exact .inr rfl|cases h2
   |22,f,h2=>first|exact .inl rfl|exact .inr rfl|cases h2
   |23,f,h2=>first|exact .inl rfl|exact .inr rfl|cases h2
   |k+24,f,h2=>first|exact .inl rfl|exact .inr rfl|cases h2
  rcases hn with rfl|rfl
  .cases h2;intro x y a b;have hm:=jG.1 h3;simp only[List.mem_cons,List.not_mem_nil,or_false]at hm;rcases hm with rfl|rfl|rfl
   .exact Pj (ft:=9) Tryz.underlying30 (by kernel_rfl) (by kernel_rfl) (by kernel_rfl) (by kernel_rfl) rfl (by decide) (by decide) rfl rfl rfl rfl x y a b
   .exact Pj (ft:=9) Tryz.underlying31 (by kernel_rfl) (by kernel_rfl) (by kernel_rfl) (by kernel_rfl) rfl (by decide) (by decide) rfl rfl rfl rfl x y a b
   .cases h1
  .cases h2;intro x y a b;have hm:=jG.1 h3;simp only[List.mem_cons,List.not_mem_nil,or_false]at hm;rcases hm with rfl|rfl|rfl
   .cases h1
   .cases h1
   .exact aAl (ft:=9) Tryz.underlying105 (by kernel_rfl) (by kernel_rfl) Tryz.underlying31 (by kernel_rfl) (by kernel_rfl) (by kernel_rfl) (by kernel_rfl) rfl (by decide) (by decide) rfl rfl rfl rfl x y a b
end Go.TV
namespace Go.TV
open Go.AI Go.PI
def aJF:TC->List Nat->TC
 |c,[]=>c
 | .seq a _,0::l=>aJF a l
 | .seq _ b,_::l=>aJF b l
 | .cond _ a _,0::l=>aJF a l
 | .cond _ _ b,_::l=>aJF b l
 | .block _ c,_::l=>aJF c l
 | .loop _ c,_::l=>aJF c l
 | .scope c,_::l=>aJF c l
 | .cut _ c,_::l=>aJF c l
 | .ice _ c,_::l=>aJF c l
 |c,_=>c
abbrev kA:=List (TV U0.D)
abbrev Rt:=Option kA
abbrev bU:=nF U0.D
abbrev Kt:=TK U0.D kA
structure Cu where
 D:DT U0 kA
 E:DT U0 kA
def pW(ct:Cut){f g:TS U0.D->TM U0.D->Rt}(h: ∀S M,f S M=g S M)(d:kA):oF U0 ct f d=oF U0 ct g d:=by
 have:f=g:=by funext S M;exact h S M
 rw[this]
end Go.TV
namespace Go.TV
open Go.AI
def dg(l:List Int):Prop:= ∀x∈l,0<=x/\x<=9
def vl:List Int->Int
 |[]=>0
 |x::l=>x+10*vl l
def rE(l:List Int):Prop:=l=[]∨0<vl l/\∀l' x,l=l'++ [x]->x≠0
def sT:dg []:=λx h=>by cases h
def cZ{x:Int}{l:List Int}:dg (x::l)↔(0<=x/\x<=9)/\dg l:=by simp[dg]
def Sn{a b:List Int}:dg (a++b)↔dg a/\dg b:=by
 constructor
 .exact λh=>⟨λx hx=>h x (List.mem_append_left _ hx),λx hx=>h x (List.mem_append_right _ hx)⟩
 .rintro⟨h1,h2⟩ x hx;rcases List.mem_append.1 hx with hx|hx
  .exact h1 x hx
  .exact h2 x hx
def qS: ∀{l:List Int},dg l->0<=vl l
 |[],_=>Int.le_refl _
 |x::l,h=>by have h':=cZ.1 h;have:=qS h'.2;simp only[vl];omega
def FU:Nat->Int
 |0=>1
 |n+1=>10*FU n
def RM: ∀n,0<FU n
 |0=>by decide
 |n+1=>by have:=RM n;simp only[FU];omega
def VW: ∀{l:List Int},dg l->vl l<FU l.length
 |[],_=>by decide
 |x::l,h=>by have h':=cZ.1 h;have:=VW h'.2;simp only[vl,aM,FU];omega
def aBw: ∀(a b:List Int),vl (a++b)=vl a+FU a.length*vl b
 |[],b=>by simp[vl,FU]
 |x::a,b=>by simp only[aY,vl,aBw a b,aM,FU];rw[Int.mul_add,Int.mul_assoc];omega
def lT:List Int->List Int
 |[]=>[]
 |x::l=>match lT l with
  |[]=>if x=0 then []else [x]
  |y::t=>x::y::t
def Br: ∀l:List Int,vl (lT l)=vl l
 |[]=>rfl
 |x::l=>by
  have ih:=Br l;simp only[lT];cases h:lT l with
  |nil=>rw[h]at ih;simp only[vl]at ih;by_cases e:x=0<;>simp[e,vl,<-ih]
  |cons y t=>rw[h]at ih;simp only[vl]at ih⊢;omega
def uA: ∀{l:List Int},dg l->dg (lT l)
 |[],_=>sT
 |x::l,h=>by
  have h':=cZ.1 h;have ih:=uA h'.2;simp only[lT];cases e:lT l with
  |nil=>by_cases e:x=0<;>simp[e,dg];omega
  |cons y t=>rw[e]at ih;exact cZ.2 ⟨h'.1,ih⟩
def rY: ∀l:List Int,(lT l).length<=l.length
 |[]=>aS _
 |x::l=>by
  have ih:=rY l;simp only[lT];cases e:lT l with
  |nil=>by_cases e:x=0<;>simp[e]
  |cons y t=>rw[e]at ih;simp only[aM]at ih⊢;omega
def aDO{x y:Int}{l:List Int}(h:rE (y::l))(hx:0<=x):rE (x::y::l):=by
 rcases h with h|h
 .cases h
 refine .inr ⟨by have:=h.1;simp only[vl]at this⊢;omega,λl' z e=>?_⟩
 cases l' with
 |nil=>cases e
 |cons a l'=>simp only[aY,List.cons.injEq]at e;exact h.2 l' z e.2
def rX: ∀{l:List Int},dg l->rE (lT l)
 |[],_=> .inl rfl
 |x::l,h=>by
  have h':=cZ.1 h;have ih:=rX h'.2;simp only[lT];cases e:lT l with
  |nil=>
   by_cases e:x=0
   .simp[e,rE]
   .rw[bH e];refine .inr ⟨by simp only[vl];omega,λl' z e'=>?_⟩
    cases l' with
    |nil=>simp only[aW,List.cons.injEq,and_true]at e';omega
    |cons a l'=>simp at e'
  |cons y t=>rw[e]at ih;exact aDO ih h'.1.1
def aDM{x y:Int}{l:List Int}(h:rE (x::y::l))(hd:dg (y::l)):rE (y::l):=by
 rcases h with h|h
 .cases h
 have h2: ∀l' z,y::l=l'++ [z]->z≠0:=λl' z e=>h.2 (x::l') z (by rw[e];rfl)
 refine .inr ⟨?_,h2⟩;have n:=qS hd;by_cases e:vl (y::l)=0
 .exfalso;have: ∀(l:List Int),dg l->vl l=0->∀z∈l,z=0:=by
   intro l;induction l with
   |nil=>intro _ _ z hz;cases hz
   |cons a l ih=>
    intro hd e z hz;have lb:=cZ.1 hd;have:=qS lb.2;simp only[vl]at e;rcases List.mem_cons.1 hz with rfl|hz
    .omega
    .exact ih lb.2 (by omega) z hz
  have hl:(y::l)=(y::l).dropLast++ [(y::l).getLast (by simp)]:=(List.dropLast_concat_getLast _).symm
  exact h2 _ _ hl (this _ hd e _ (List.getLast_mem _))
 .omega
def aBG: ∀{l:List Int},dg l->rE l->lT l=l
 |[],_,_=>rfl
 |[x],hd,h=>by
  rcases h with h|h
  .cases h
  have:=h.2 [] x rfl;simp[lT,this]
 |x::y::l,hd,h=>by
  have lb:=cZ.1 hd;have ih:=aBG lb.2 (aDM h lb.2);rw[lT,ih]
def aDN: ∀{l:List Int},dg l->rE l->l≠ []->FU l.length<=10*vl l
 |[],_,_,h=>absurd rfl h
 |[x],hd,h,_=>by
  rcases h with h|h
  .cases h
  have:=h.1;simp only[vl,aM,aX,FU]at this⊢;omega
 |x::y::l,hd,h,_=>by
  have lb:=cZ.1 hd;have ih:=aDN lb.2 (aDM h lb.2) (by simp)
  have h3:FU (x::y::l).length=10*FU (y::l).length:=rfl;have h4:vl (x::y::l)=x+10*vl (y::l):=rfl;omega
def WN{a b:Nat}(h:a<=b):FU a<=FU b:=by
 induction b with
 |zero=>have:a=0:=(by omega);subst this;exact Int.le_refl _
 |succ b ih=>
  by_cases e:a=b+1
  .subst e;exact Int.le_refl _
  .have:=ih (by omega);have:=RM b;simp only[FU];omega
def R4{a b:List Int}(ha:dg a)(hb:dg b)(nb:rE b)(h:a.length<b.length):vl a<vl b:=by
 have h1:=VW ha;have h2:=aDN hb nb (λe=>by subst e;simp at h)
 have h3:FU (a.length+1)<=FU b.length:=WN h;simp only[FU]at h3;omega
def uQ:List Int->List Int->Int
 |x::a,y::b=>if uQ a b=0 then(if x<y then-1 else if y<x then 1 else 0)else uQ a b
 |_,_=>0
def qF(a b:List Int):Int:=if a.length=b.length then uQ a b else if a.length<b.length then-1 else 1
def WX: ∀{a b:List Int},dg a->dg b->a.length=b.length->(uQ a b= -1/\vl a<vl b)∨(uQ a b=0/\vl a=vl b)∨(uQ a b=1/\vl b<vl a)
 |[],[],_,_,_=> .inr (.inl ⟨rfl,rfl⟩)
 |[],_::_,_,_,h=>by simp at h
 |_::_,[],_,_,h=>by simp at h
 |x::a,y::b,ha,hb,h=>by
  have cx:=cZ.1 ha;have bu:=cZ.1 hb;have ih:=WX cx.2 bu.2 (by simpa using h)
  simp only[uQ,vl];rcases ih with⟨i1,i2⟩|⟨i1,i2⟩|⟨i1,i2⟩
  .rw[i1];left;refine⟨rfl,?_⟩;omega
  .rw[i1,bI rfl];by_cases e:x<y
   .rw[bI e];left;refine⟨rfl,?_⟩;omega
   .rw[bH e];by_cases e':y<x
    .rw[bI e'];right;right;refine⟨rfl,?_⟩;omega
    .rw[bH e'];right;left;refine⟨rfl,?_⟩;omega
  .rw[i1];right;right;refine⟨rfl,?_⟩;omega
def aKH{a b:List Int}(ha:dg a)(hb:dg b)(na:rE a)(nb:rE b):(qF a b= -1/\vl a<vl b)∨(qF a b=0/\vl a=vl b)∨(qF a b=1/\vl b<vl a):=by
 unfold qF;by_cases e:a.length=b.length
 .rw[bI e];exact WX ha hb e
 .rw[bH e];by_cases e':a.length<b.length
  .rw[bI e'];exact .inl ⟨rfl,R4 ha hb nb e'⟩
  .rw[bH e'];exact .inr (.inr ⟨rfl,R4 hb ha na (by omega)⟩)
def AA{a b:List Int}(ha:dg a)(hb:dg b)(na:rE a)(nb:rE b):0<=qF a b↔vl b<=vl a:=by
 rcases aKH ha hb na nb with⟨h1,h2⟩|⟨h1,h2⟩|⟨h1,h2⟩<;>omega
def D8{a b:List Int}(h:0<=qF a b):b.length<=a.length:=by
 unfold qF at h;by_cases e:a.length=b.length
 .omega
 .rw[bH e]at h;by_cases e':a.length<b.length
  .rw[bI e']at h;omega
  .omega
def hz:List Int->Int
 |[]=>0
 |x::_=>x
def a8e: ∀b:List Int,vl b=hz b+10*vl b.tail
 |[]=>rfl
 |x::b=>rfl
def a8f: ∀{b:List Int},dg b->(0<=hz b/\hz b<=9)/\dg b.tail
 |[],h=>⟨⟨Int.le_refl _,by decide⟩,h⟩
 |x::b,h=>cZ.1 h
def Xm:List Int->List Int->Int->List Int
 |[],_,_=>[]
 |x::a,b,c=>if x-c-hz b<0 then(x-c-hz b+10)::Xm a b.tail 1 else(x-c-hz b)::Xm a b.tail 0
def R0: ∀{a b:List Int} {c:Int},dg a->dg b->(c=0∨c=1)->b.length<=a.length->vl b+c<=vl a->vl (Xm a b c)=vl a-vl b-c/\dg (Xm a b c)
 |[],[],c,_,_,hc,_,h=>by simp only[Xm,vl]at h⊢;exact⟨by omega,sT⟩
 |[],_::_,c,_,_,_,h,_=>by simp at h
 |x::a,b,c,ha,hb,hc,hl,h=>by
  have cx:=cZ.1 ha;have bu:=a8f hb;have v:=a8e b;have fa:b.tail.length<=a.length:=by rw[List.length_tail];simp only[aM]at hl;omega
  simp only[Xm,vl]at h⊢;generalize hz b=y at bu v⊢;by_cases e:x-c-y<0
  .rw[bI e];have ih:=R0 (a:=a) (b:=b.tail) (c:=1) cx.2 bu.2 (.inr rfl) fa (by omega)
   simp only[vl];exact⟨by omega,cZ.2 ⟨by omega,ih.2⟩⟩
  .rw[bH e];have ih:=R0 (a:=a) (b:=b.tail) (c:=0) cx.2 bu.2 (.inl rfl) fa (by omega)
   simp only[vl];exact⟨by omega,cZ.2 ⟨by omega,ih.2⟩⟩
def Xl: ∀(a b:List Int) (c:Int),(Xm a b c).length=a.length
 |[],_,_=>rfl
 |x::a,b,c=>by simp only[Xm];split<;>simp[Xl a]
def CR(a b:List Int):List Int:=lT (Xm a b 0)
def Ei{a b:List Int}(ha:dg a)(hb:dg b)(hl:b.length<=a.length)(h:vl b<=vl a):vl (CR a b)=vl a-vl b/\dg (CR a b)/\rE (CR a b):=by
 have h1:=R0 (c:=0) ha hb (.inl rfl) hl (by omega)
 unfold CR;exact⟨by rw[Br];omega,uA h1.2,rX h1.2⟩
def wC:List Int->List Int->Int->List Int
 |[],[],c=>if 0<c then [c]else []
 |x::a,[],c=>((c+x)%10)::wC a [] ((c+x)/10)
 |[],y::b,c=>((c+y)%10)::wC [] b ((c+y)/10)
 |x::a,y::b,c=>((c+x+y)%10)::wC a b ((c+x+y)/10)
def D5: ∀{a b:List Int} {c:Int},dg a->dg b->0<=c->c<=1->vl (wC a b c)=vl a+vl b+c/\dg (wC a b c)
 |[],[],c,_,_,h0,h1=>by
  simp only[wC];by_cases e:0<c
  .rw[bI e];exact⟨by simp[vl],cZ.2 ⟨by omega,sT⟩⟩
  .rw[bH e];exact⟨by simp only[vl];omega,sT⟩
 |x::a,[],c,ha,hb,h0,h1=>by
  have cx:=cZ.1 ha;have ih:=D5 (a:=a) (b:=[]) (c:=(c+x)/10) cx.2 sT (by omega) (by omega)
  simp only[wC,vl]at ih⊢;exact⟨by omega,cZ.2 ⟨by omega,ih.2⟩⟩
 |[],y::b,c,ha,hb,h0,h1=>by
  have bu:=cZ.1 hb;have ih:=D5 (a:=[]) (b:=b) (c:=(c+y)/10) sT bu.2 (by omega) (by omega)
  simp only[wC,vl]at ih⊢;exact⟨by omega,cZ.2 ⟨by omega,ih.2⟩⟩
 |x::a,y::b,c,ha,hb,h0,h1=>by
  have cx:=cZ.1 ha;have bu:=cZ.1 hb;have ih:=D5 (a:=a) (b:=b) (c:=(c+x+y)/10) cx.2 bu.2 (by omega) (by omega)
  simp only[wC,vl]at ih⊢;exact⟨by omega,cZ.2 ⟨by omega,ih.2⟩⟩
def sE: ∀(a b:List Int) (c:Int),(wC a b c).length<=max a.length b.length+1
 |[],[],c=>by simp only[wC];split<;>simp
 |x::a,[],c=>by have:=sE a [] ((c+x)/10);simp only[wC,aM,aX]at this⊢;omega
 |[],y::b,c=>by have:=sE [] b ((c+y)/10);simp only[wC,aM,aX]at this⊢;omega
 |x::a,y::b,c=>by have:=sE a b ((c+x+y)/10);simp only[wC,aM]at this⊢;omega
end Go.TV
namespace Go.TV
open Go.AI
def GI(x:Int):List Int->List Int->Int->List Int
 |_,[],_=>[]
 |[],o::out,c=>if 0<c then((o+c)%10)::GI x [] out ((o+c)/10)else o::out
 |y::b,o::out,c=>((o+c+x*y)%10)::GI x b out ((o+c+x*y)/10)
def aDV(x:Int): ∀out:List Int,GI x [] out 0=out
 |[]=>rfl
 |o::out=>by simp[GI]
def AE(x:Int): ∀(b out:List Int) (c:Int),(GI x b out c).length=out.length
 |_,[],_=>by simp[GI]
 |[],o::out,c=>by simp only[GI];split<;>simp[AE x [] out]
 |y::b,o::out,c=>by simp only[GI,aM,AE x b out]
def aN5{x y:Int}(hx:0<=x/\x<=9)(hy:0<=y/\y<=9):0<=x*y/\x*y<=81:=by
 refine⟨Int.mul_nonneg hx.1 hy.1,?_⟩;have h1:x*y<=9*y:=Int.mul_le_mul_of_nonneg_right hx.2 hy.1;omega
def RY{x:Int}(hx:0<=x/\x<=9): ∀{b out:List Int} {c:Int},dg b->dg out->0<=c->c<=9->b.length<out.length->(∀o∈out.drop b.length,o=0)->
    vl (GI x b out c)=vl out+x*vl b+c/\dg (GI x b out c)/\∀o∈(GI x b out c).drop (b.length+1),o=0
 |_,[],c,_,_,_,_,h,_=>by simp at h
 |[],o::out,c,hb,ho,h0,h1,hl,hz=>by
  have gb:=cZ.1 ho;have o0:o=0:=hz o (by simp)
  subst o0;simp only[GI];by_cases e:0<c
  .rw[bI e,show(0+c)/10=0 by omega,aDV]
   refine⟨by simp only[vl,Int.mul_zero];omega,cZ.2 ⟨by omega,gb.2⟩,λz kg=>hz z ?_⟩
   simp only[aX,Nat.zero_add,List.drop_succ_cons,List.drop_zero]at kg⊢;exact aG _ kg
  .rw[bH e];refine⟨by simp only[vl,Int.mul_zero];omega,ho,λz kg=>hz z ?_⟩
   simp only[aX,Nat.zero_add,List.drop_succ_cons,List.drop_zero]at kg⊢;exact aG _ kg
 |y::b,o::out,c,hb,ho,h0,h1,hl,hz=>by
  have gb:=cZ.1 ho;have bu:=cZ.1 hb;have p:=aN5 hx bu.1;simp only[aM,Nat.add_lt_add_iff_right]at hl;have ih:=RY hx (b:=b) (out:=out) (c:=(o+c+x*y)/10) bu.2 gb.2 (by omega) (by omega) hl (λz h=>hz z (by simpa using h))
  simp only[GI,vl];refine⟨?_,cZ.2 ⟨by omega,ih.2.1⟩,λz h=>ih.2.2 z (by simpa using h)⟩
  rw[ih.1,Int.mul_add x y,show x*(10*vl b)=10*(x*vl b) by rw[Int.mul_left_comm]]
  generalize x*vl b=u;generalize x*y=v at p⊢;omega
def aBd:List Int->List Int->List Int->List Int
 |[],_,out=>out
 |x::a,b,out=>match GI x b out 0 with
  |[]=>[]
  |o::t=>o::aBd a b t
def aBI: ∀{a b out:List Int},dg a->dg b->dg out->a.length+b.length<out.length->(∀o∈out.drop b.length,o=0)->
    vl (aBd a b out)=vl out+vl a*vl b/\dg (aBd a b out)
 |[],b,out,_,_,ho,_,_=>by simp only[aBd,vl,Int.zero_mul,Int.add_zero];exact⟨trivial,ho⟩
 |x::a,b,out,ha,hb,ho,hl,hz=>by
  have cx:=cZ.1 ha;simp only[aM]at hl;have h1:=RY cx.1 (b:=b) (out:=out) (c:=0) hb ho (by omega) (by omega) (by omega) hz
  have h2:=AE x b out 0;simp only[aBd];cases e:GI x b out 0 with
  |nil=>rw[e]at h2;simp at h2;omega
  |cons o t=>
   rw[e]at h1 h2;simp only[aM]at h2;have h3:=cZ.1 h1.2.1;have ih:=aBI (a:=a) (b:=b) (out:=t) cx.2 hb h3.2 (by omega) (λz h=>h1.2.2 z (by simpa using h))
   refine⟨?_,cZ.2 ⟨h3.1,ih.2⟩⟩;have h4:=h1.1;simp only[vl]at h4⊢;rw[ih.1,Int.add_mul,show 10*vl a*vl b=10*(vl a*vl b) by rw[Int.mul_assoc]]
   generalize x*vl b=u at h4⊢;generalize vl a*vl b=v;omega
def V3: ∀(a b out:List Int),(aBd a b out).length<=out.length
 |[],b,out=>aS _
 |x::a,b,out=>by
  have h2:=AE x b out 0;simp only[aBd];cases e:GI x b out 0 with
  |nil=>simp
  |cons o t=>rw[e]at h2;have:=V3 a b t;simp only[aM]at h2⊢;omega
def aJy(a b:List Int):List Int:=lT (aBd a b (List.replicate (a.length+b.length+1) 0))
def a3Z: ∀n,vl (List.replicate n (0:Int))=0
 |0=>rfl
 |n+1=>by rw[List.replicate_succ,vl,a3Z n];rfl
def aBH{a b:List Int}(ha:dg a)(hb:dg b):vl (aJy a b)=vl a*vl b/\dg (aJy a b)/\rE (aJy a b)/\(aJy a b).length<=a.length+b.length+1:=by
 have hz:dg (List.replicate (a.length+b.length+1) (0:Int)):=λx hx=>by have:=List.eq_of_mem_replicate hx;omega
 have h:=aBI (out:=List.replicate (a.length+b.length+1) 0) ha hb hz (by simp) (λo ho=>List.eq_of_mem_replicate (List.mem_of_mem_drop ho))
 rw[a3Z,Int.zero_add]at h;unfold aJy;refine⟨by rw[Br,h.1],uA h.2,rX h.2,?_⟩
 have h1:=rY (aBd a b (List.replicate (a.length+b.length+1) 0));have h2:=V3 a b (List.replicate (a.length+b.length+1) 0);simp only[List.length_replicate]at h2;omega
def FZ(b:List Int):Nat->List Int->Int->List Int×Int
 |0,r,k=>(r,k)
 |m+1,r,k=>if 0<=qF r b then FZ b m (CR r b) (k+1)else(r,k)
def Xi{a b:List Int}(ha:dg a)(hb:dg b)(na:rE a)(h:vl a<=vl b):a.length<=b.length:=by
 by_cases e:b.length<a.length
 .have:=R4 hb ha na e;omega
 .omega
def aWW{b:List Int}(hb:dg b)(nb:rE b)(pb:0<vl b): ∀(m:Nat) (r:List Int) (k:Int),dg r->rE r->vl r<(m:Int)*vl b->
    vl r=((FZ b m r k).2-k)*vl b+vl (FZ b m r k).1/\vl (FZ b m r k).1<vl b/\dg (FZ b m r k).1/\rE (FZ b m r k).1/\k<=(FZ b m r k).2/\(FZ b m r k).2<k+m:=by
 intro m;induction m with
 |zero=>intro r k hr _ h;have:=qS hr;simp at h;omega
 |succ m ih=>
  intro r k hr nr h;have n:=qS hr;have hm:((m+1:Nat):Int)*vl b=(m:Int)*vl b+vl b:=by rw[Int.natCast_succ,Int.add_mul,Int.one_mul]
  rw[hm]at h;simp only[FZ];by_cases e:0<=qF r b
  .rw[bI e];have hl:=D8 e;have hge:=(AA hr hb nr nb).1 e;have h1:=Ei hr hb hl hge;have i:=ih (CR r b) (k+1) h1.2.1 h1.2.2 (by rw[h1.1];omega)
   refine⟨?_,i.2.1,i.2.2.1,i.2.2.2.1,by omega,by omega⟩
   have i1:=i.1;rw[h1.1]at i1;have:((FZ b m (CR r b) (k+1)).2-k)*vl b=((FZ b m (CR r b) (k+1)).2-(k+1))*vl b+vl b:=by
    rw[show(FZ b m (CR r b) (k+1)).2-k=((FZ b m (CR r b) (k+1)).2-(k+1))+1 by omega,Int.add_mul,Int.one_mul]
   omega
  .rw[bH e];have bi:vl r<vl b:=by
    by_cases e':vl b<=vl r
    .exact absurd ((AA hr hb nr nb).2 e') e
    .omega
   exact⟨by simp,bi,hr,nr,Int.le_refl _,by omega⟩
def oM(b:List Int):List Int->List Int×List Int
 |[]=>([],[])
 |x::a=>((FZ b 10 (lT (x::(oM b a).2)) 0).2::(oM b a).1,(FZ b 10 (lT (x::(oM b a).2)) 0).1)
def uO{b:List Int}(hb:dg b)(nb:rE b)(pb:0<vl b): ∀{a:List Int},dg a->
    vl a=vl (oM b a).1*vl b+vl (oM b a).2/\vl (oM b a).2<vl b/\dg (oM b a).2/\rE (oM b a).2/\dg (oM b a).1/\(oM b a).1.length=a.length
 |[],_=>⟨by simp[oM,vl],by simpa [oM,vl]using pb,sT,.inl rfl,sT,rfl⟩
 |x::a,h=>by
  have h':=cZ.1 h;have ih:=uO hb nb pb h'.2;have hx:dg (x::(oM b a).2):=cZ.2 ⟨h'.1,ih.2.2.1⟩;have hv:=Br (x::(oM b a).2);simp only[vl]at hv;have h1:=aWW hb nb pb 10 (lT (x::(oM b a).2)) 0 (uA hx) (rX hx) (by rw[hv];omega)
  simp only[oM,vl];refine⟨?_,h1.2.1,h1.2.2.1,h1.2.2.2.1,cZ.2 ⟨by omega,ih.2.2.2.2.1⟩,by simp[ih.2.2.2.2.2]⟩
  have e1:=h1.1;have e2:=ih.1;rw[hv,Int.sub_zero]at e1;rw[Int.add_mul,show 10*vl (oM b a).1*vl b=10*(vl (oM b a).1*vl b) by rw[Int.mul_assoc]]
  omega
def JE{a b:List Int}(hb:dg b)(nb:rE b)(pb:0<vl b)(ha:dg a):(oM b a).2.length<=b.length:=
 Xi (uO hb nb pb ha).2.2.1 hb (uO hb nb pb ha).2.2.2.1 (by have:=(uO hb nb pb ha).2.1;omega)
def pJ(a b:List Int):List Int×List Int:=(lT (oM b a).1,(oM b a).2)
def aJC:Nat->List Int->List Int->List Int
 |0,d,_=>d
 |m+1,d,e=>match e with
  |[]=>d
  |_::_=>aJC m e (pJ d e).2
def JJ{e:List Int}(ne:rE e)(h:e≠ []):0<vl e:=by
 rcases ne with ne|ne
 .exact absurd ne h
 .exact ne.1
def aZL: ∀(m:Nat) (d e:List Int),dg d->dg e->rE d->rE e->(vl e<(m:Int))->(d≠ []∨e≠ [])->
    dg (aJC m d e)/\rE (aJC m d e)/\aJC m d e≠ []/\(aJC m d e).length<=max d.length e.length:=by
 intro m;induction m with
 |zero=>intro d e hd he nd ne h _;have:=qS he;simp at h;omega
 |succ m ih=>
  intro d e hd he nd ne h hh;cases e with
  |nil=>exact⟨hd,nd,by simpa [aJC]using hh,by simp only[aJC];omega⟩
  |cons x e=>
   have pb:=JJ ne (by simp)
   have o:=uO he ne pb hd;have ol:=JE he ne pb hd;have i:=ih (x::e) (oM (x::e) d).2 he o.2.2.1 ne o.2.2.2.1 (by omega) (.inl (by simp))
   refine⟨i.1,i.2.1,i.2.2.1,?_⟩;have:=i.2.2.2;simp only[aJC,pJ];omega
end Go.TV
namespace Go.Rf
open Go.AI Go.Proofs
def NN (d : Option Nat) (op : Op) (t : TypeId) : Oper := { dst := d, op := op, type := t, pos := "", after := #[], guard := none }
def qJ(S:Slots)(k j:Nat)(v:Value):Slots.at (Tr.set S k v) j=if j=k then v else S.at j:=by
 unfold Slots.at;rw[Tr.get_set];split<;>rfl
def at_store(S:Slots)(k j:Nat)(v:Value):Slots.at (S.store (some k) v) j=if j=k then v else S.at j:=qJ S k j v
def aXt:Tryz.prog.toTables.follows .mixedOrders=true:=by kernel_rfl
end Go.Rf
namespace Go.AI
variable{P:Program}
def aPw(w0:W0)(P:Program)(f:FuncId)(fn:Func)(c:Code):Prop:=
 ∀(call:FuncId->Array Value->St->Option (Value×St)) (L:Nat) (args:Array Value) (H H':St) (r:Value),
  BY P f args.size=true->fL P fn (cJ P call L c (mB args.toList 0 .nil) H)=some (r,H')->
  args.toList.all bN=true/\(∃n,H.next<=n/\H'={H with next:=n})/\∃r',(∀Y,VR Y r r')/\
   ∀w,Kept w0.toWorld w->Calls P f args w λe w'=>e= .returned r'/\Kept w w'
def ZV {w0 : W0} {f : FuncId} {fn : Func} {c : Code} (h1 : ∃ fn c, P.funcs[f]? = some fn ∧ fn.body = some c ∧ (fn.name == "runtime.NumGoroutine") = false)
    (h2:aPw w0 P f fn c):YC w0 P f fn c:=by
 refine⟨h1,?_⟩;intro call L bj args args' H H' w Y r h ρ hargs lg;obtain⟨hp,⟨n,hn,rfl⟩,r',hr,hc⟩:=h2 call L args H H' r lg h;have e:args'.toList=args.toList:=hargs.eq0 hp;have e':args'=args:=by rw[<-Array.toArray_toList (xs:=args'),e]
 subst e';exact(hc w ρ.kept.toKept).mono λe w' ⟨h5,h6⟩=>⟨Y,r',h5,hr Y,(ρ.keep h6).next hn,.refl _ _,hn⟩
def Ci(C:Program)(f:FuncId)(fn:Func):Program:={C with funcs:=⟨C.funcs.toList.set f fn⟩}
def Gq{C:Program}{f g:FuncId}{fn qw:Func}(h:(Ci C f fn).funcs[g]?=some qw):(g=f/\qw=fn)∨C.funcs[g]?=some qw:=by
 have h1:(C.funcs.toList.set f fn)[g]?=some qw:=by simpa [Ci]using h
 by_cases e:g=f
 .subst e;left;rw[List.getElem?_set]at h1;simp only[if_true]at h1;split at h1
  .exact⟨rfl,(Option.some.inj h1).symm⟩
  .cases h1
 .right;rw[List.getElem?_set,bH (Ne.symm e)]at h1;simpa using h1
def aBN{w0:W0}{C:Program}{f:FuncId}{fn:Func}{c:Code}(hC:Ak w0 P C)(hb:fn.body=some c)(hr:YC w0 P f fn c):Ak w0 P (Ci C f fn):=by
 intro g qw c' h1 h2;rcases Gq h1 with⟨rfl,rfl⟩|h3
 .right;rw[hb]at h2;cases h2;exact hr
 .exact hC g qw c' h3 h2
end Go.AI
namespace Go.AI
variable{P:Program}
def a2W(P:Program):St:=⟨.nil,.nil,P.globals.size⟩
def aXo(P:Program):Mp:=λid=>if id<P.globals.size then some ⟨id,0,0,0⟩else none
def aDW{id:Nat}{p:Place}(h:aXo P id=some p):id<P.globals.size/\p.b=id:=by
 unfold aXo at h;split at h
 .cases h;exact⟨‹_›,rfl⟩
 .cases h
def CD(id:Nat):(a2W P).get id=none:=rfl
def a4q{w:World}(hg:P.globals.size<=w.heap.size):Sim (W0.of w) P (aXo P) (a2W P) w where
 kept:=KeptO.refl λid p h=>by obtain⟨h1,h2⟩:=aDW h;omega
 dom id h:=by
  unfold aXo;rw[bH (show¬id<P.globals.size from by have:P.globals.size<=id:=h;omega)]
 glob g h:=⟨⟨g,0,0,0⟩,by unfold aXo;rw[bI h],rfl,rfl⟩
 row id p cs m _ h:=by rw[CD]at h;cases h
 map id p es _ h:=by rw[CD]at h;cases h
 off i j p q cs ds m n _ _ _ h:=by rw[CD]at h;cases h
 tip i j p q cs ds m n _ _ _ h:=by rw[CD]at h;cases h
 maps i j p q es fs _ _ _ h:=by rw[CD]at h;cases h
 vers id cs m g v h:=by rw[CD]at h;cases h
 lim i j p q cs ds m n _ _ _ h:=by rw[CD]at h;cases h
end Go.AI
namespace Go.Rf
open Go.AI Go.Proofs
set_option maxRecDepth 100000
def aKc(d:Nat)(op:BinOp):Oper:=NN (some d) (.binOp op 9 (.tmp 0) (.tmp 1) 9) 4
def a3b(d k:Nat):Oper:=NN (some d) (.binOp .eql 9 (.tmp k) (.const (.string ⟨#[]⟩)) 9) 4
def a2Z(v:Int):Code:= .seq (.region 1 #[NN (some 4) (.assign (.const (.int .i64 v))) 3] false) .ret
def bA2:Code:= .seq (.region 0 #[a3b 6 0,a3b 7 1,aKc 8 .eql,aKc 9 .lss] false) (.cond (.tmp 8) (a2Z 0) (.cond (.tmp 9) (a2Z (-1)) (a2Z 1)))
noncomputable def a4v:Func:={Tryz.f183 with body:=some bA2,ntmps:=10}
def a8X(a b:ByteArray):cQ Tryz.prog (do eqGuard .eql 9 (.tmp 0) (.tmp 1) (.string a) (.string b);binOp .eql 9 (.string a) (.string b))=some (.bool (a.toList==b.toList)):=by kernel_rfl
def a8W(a b:ByteArray):cQ Tryz.prog (do eqGuard .lss 9 (.tmp 0) (.tmp 1) (.string a) (.string b);binOp .lss 9 (.string a) (.string b))=some (.bool (Op.bytesLess a.toList b.toList)):=by kernel_rfl
def GX: ∀a b:List UInt8,Lib.compareBytes a b=if a==b then 0 else if Op.bytesLess a b then-1 else 1
 |[],[]=>rfl
 |[],_::_=>by simp[Lib.compareBytes,Op.bytesLess]
 |_::_,[]=>by simp[Lib.compareBytes,Op.bytesLess]
 |a::x,b::y=>by
  have ih:=GX x y;by_cases h1:a<b
  .have bm: ¬a=b:=λe=>by subst e;exact absurd h1 (UInt8.lt_irrefl _)
   simp[Lib.compareBytes,Op.bytesLess,h1,bm]
  .by_cases h2:b<a
   .have bm: ¬a=b:=λe=>by subst e;exact absurd h2 (UInt8.lt_irrefl _)
    simp[Lib.compareBytes,Op.bytesLess,h1,h2,bm]
   .have he:a=b:=UInt8.le_antisymm (UInt8.not_lt.1 h2) (UInt8.not_lt.1 h1);subst he;simp[Lib.compareBytes,Op.bytesLess,ih]
end Go.Rf
namespace Go.Rf
open Go.AI Go.Proofs
noncomputable def cdM:Program:=Ci Tryz.prog 183 a4v
end Go.Rf
namespace Go.Rf
open Go.AI Go.Proofs
def clO1:Array Oper:= #[NN (some 3) (.call {callee:= .builtin .len,args:= #[.tmp 0],argTypes:= #[62]}) 3,
 NN (some 4) (.binOp .eql 3 (.tmp 3) (.const (.int .i64 0)) 3) 4]
def clO2:Array Oper:= #[NN (some 5) (.buildSlice 62 0 #[]) 62,NN (some 2) (.slice 62 (.tmp 0) (some (.const (.int .i64 0))) (some (.const (.int .i64 0))) (some (.const (.int .i64 0)))) 62,
 NN (some 6) (.move (.tmp 0)) 62,NN (some 6) (.move (.tmp 0)) 62]
def Dz:Code->Code
 | .seq a (.seq (.seq _ (.cond c _ s)) r)=> .seq a (.seq (.seq (.region 1 clO1 false) (.cond c (.seq (.region 2 clO2 false) .ret) s)) r)
 |c=>c
noncomputable def Qg:Code:=Tryz.f174.body.getD .skip
noncomputable def aO0:Func:={Tryz.f174 with body:=some (Dz Qg)}
def SJ:Tryz.prog.funcs[174]?=some Tryz.f174:=by kernel_rfl
def XP:Tryz.f174.body=some Qg:=rfl
def aOZ:kE Tryz.prog Tryz.f174=true:=by kernel_rfl
section
variable(call:FuncId->Array Value->St->Option (Value×St))(L:Nat)(H:St)
def XQ:St:=({H with next:=H.next+7}:St).put (H.next+3) (.cells [] (eE 13))
noncomputable def aME:Code:=match Qg with| .seq _ (.seq _ r)=>r|_=> .skip
noncomputable def clO3:Array Oper:=match aME with| .seq (.region _ o _) _=>o|_=> #[]
noncomputable def CX(k:Nat):Oper:=clO3.toList.getD k (NN none (.move (.tmp 0)) 0)
def a1e:aME= .seq (.region 3 clO3 false) .ret:=by kernel_rfl
def aMF:clO3.toList=[CX 0,CX 1,CX 2,CX 3]:=by kernel_rfl
def aAH:clO3.size=4:=by kernel_rfl
def dW{P:Program}{ops:Array Oper}{base i:Nat}{o:Oper}{rest:List Oper}{S:Slots}{H H1:St}{v:Value}(hg:o.guard=none)(h:mP P call base i o S H=some (v,H1)):
    fR P call ops base (o::rest) i S H=fR P call ops base rest (i+1) (S.store o.dst v) H1:=by
 rw[fR,wanted,hg];simp only[aI,h]
def As{P:Program}{ops:Array Oper}{base i:Nat}{o:Oper}{rest:List Oper}{S:Slots}{H:St}(hg:o.guard=none)(h:mP P call base i o S H=none):
    fR P call ops base (o::rest) i S H=none:=by
 rw[fR,wanted,hg];simp only[aI,h]
end
end Go.Rf
namespace Go.Rf
open Go.AI Go.Proofs
noncomputable def cdX:Program:=Ci cdM 174 aO0
end Go.Rf
namespace Go.TV
open Go.AI Go.PI Go.Proofs
set_option maxRecDepth 20000
def nT:List Ty:=[i6,.bool,(.rc 3),(.rc 2),.str,(.rc 1),(.sl i6),(zS 3),(zS 2),(zS 15),(zS 1),(.rc 5),(zS 6),(.rc 19),(.rc 0),(.rc 20),(zS 17),(.sl (.int .u8)),(.rc 7),(.rc 22),(.rc 21),(.rc 15),(.int .u8),(zS 7),(.sl .str),(.rc 9),(zS 8),(.rc 8),(.int .u32),(zS 16),(.rc 18),(zS 23),(.int .u64),(.sl (zS 7)),(.rc 6),(zS 5),(zS 20)]
def nz:Nat->Nat->List Nat
 |0,_=>[]
 |f+1,n=>bif Nat.blt (n%16) 14 then(n%16)::nz f (n/16)else bif Nat.beq (n%16) 14 then(n/16%256+14)::nz f (n/4096)else(n/16%4096+270)::nz f (n/65536)
def nA{N:Type}(d:N):List N->Nat->N
 |[],_=>d
 |x::_,0=>x
 |_::l,k+1=>nA d l k
abbrev nP(N:Type):=List Nat->N×List Nat
def nK:nP Nat
 |[]=>(0,[])
 |x::l=>(x,l)
def nB:nP Bool:=λl=>match nK l with|(k,l)=>(Nat.beq k 1,l)
def nR{N:Type}(p:nP N):Nat->nP (List N)
 |0,l=>([],l)
 |k+1,l=>match p l with|(x,l)=>match nR p k l with|(r,l)=>(x::r,l)
def nL{N:Type}(p:nP N):nP (List N):=λl=>match nK l with|(k,l)=>nR p k l
def nM{N W:Type}(f:N->W)(p:nP N):nP W:=λl=>match p l with|(x,l)=>(f x,l)
def nQ{N W:Type}(p:nP N)(q:nP W):nP (N×W):=λl=>match p l with|(x,l)=>match q l with|(y,l)=>((x,y),l)
def nY:nP Ty:=nM (nA .bool nT) nK
def nS:nP Sh:=λl=>match l with
 |0::l=>nM (λx=> .lc x.1 x.2.1 x.2.2) (nQ nK (nQ nK (nL nK))) l
 |1::l=>nM (λk=> .lc k 0 []) nK l
 |2::l=>nM (λx=> .cl x.1 x.2) (nQ nK (nL nK)) l
 |3::l=>nM .rw nK l
 |4::l=>nM .row nY l
 |5::l=>(.nl,l)
 |6::l=>(.nf,l)
 |7::l=>nM .ep nY l
 |8::l=>nM .tup (nL nY) l
 |9::l=>(.no,l)
 |k::l=>(.val (nA .bool nT (k-10)),l)
 |[]=>(.no,[])
def nW:nP jD:=λl=>match l with
 |0::l=>([],l)
 |1::l=>([(0,true)],l)
 |_::l=>nL (nQ nK nB) l
 |[]=>([],[])
def nV:nP Cut:=nM (λx=>⟨x.1,x.2⟩) (nQ (nL (nQ nK (nQ nS nW))) (nL (nQ nK (nQ nS nW))))
def nC(f n:Nat):Cut:=(nV (nz f n)).1
def nG(cs:List Cut):Nat->nP aHq
 |0,l=>(.n,l)
 |f+1,l=>match l with
  |0::l=>(.n,l)
  |1::l=>nM (λx=> .r x.1 x.2.1 x.2.2) (nQ (nL nK) (nQ (nL (nQ nK nK)) (nL (nQ nK (nQ nK (nL nK)))))) l
  |2::l=>nM (λx=> .s x.1 x.2) (nQ (nG cs f) (nG cs f)) l
  |3::l=>nM (λx=> .c x.1 x.2) (nQ (nG cs f) (nG cs f)) l
  |4::l=>nM .b (nG cs f) l
  |5::l=>nM (λx=> .l (nA ⟨[],[]⟩ cs x.1) x.2) (nQ nK (nG cs f)) l
  |6::l=>nM .o (nG cs f) l
  |7::l=>nM (λx=> .d (nA ⟨[],[]⟩ cs x.1) x.2) (nQ nK (nG cs f)) l
  |8::l=>nM (λx=> .i x.1 x.2) (nQ (nL nK) (nG cs f)) l
  |9::l=>nM (.s .n) (nG cs f) l
  |10::l=>nM (.r [] []) (nL (nQ nK (nQ nK (nL nK)))) l
  |12::l=>nM (λx=> .l x.1 x.2) (nQ nV (nG cs f)) l
  |13::l=>nM (λx=> .d x.1 x.2) (nQ nV (nG cs f)) l
  |_::l=>nM (λx=> .r x.1 [] x.2) (nQ (nL nK) (nL (nQ nK (nQ nK (nL nK))))) l
  |[]=>(.n,[])
def nI(cs:List Cut)(f n:Nat):cH:=match nQ (nQ nK (nQ (nL (nQ nS nB)) (nQ (nL (nQ nS nW)) (nQ (nL nW) (nQ (nL nY) nB))))) (nG cs 300) (nz f n)with|(x,_)=>⟨⟨x.1.1,x.1.2.1,x.1.2.2.1,x.1.2.2.2.1,x.1.2.2.2.2.1,x.1.2.2.2.2.2⟩,x.2⟩
def aFq:Cut:=nC 11 0xde100de00b0ee3
def aFp:Cut:=nC 28 0xc5de0c5fe205de17105e505fe19003e800de10b31e6
def aFo:Cut:=nC 5 0xb41
def ii0:cH:=⟨⟨3,[(.val (.sl (.int .u8)),false),(.val (.sl (.int .u8)),false)],[],[],[.bool],false⟩,(.s .n (.s (.s (.r [] [] [(0,(1,[]))]) .n) (.s (.s .n (.d aFq .n)) (.s (.r [1] [] [(0,(2,[]))]) (.s .n (.s (.r [2] [] [(2,(3,[132]))]) (.s (.r [2,3,6] [] [(1,(4,[]))]) (.s (.r [2,3,6] [] [(1,(5,[]))]) (.s (.s (.r [1,2,15] [] [(15,(6,[])),(14,(9,[])),(12,(8,[])),(7,(7,[])),(2,(6,[]))]) (.d aFp .n)) (.s (.r [4] [] [(3,(10,[166]))]) (.s (.r [1,3] [] [(3,(11,[]))]) (.s (.r [3] [] [(3,(12,[]))]) (.s (.r [0,2,3] [] [(3,(12,[]))]) (.s .n (.d aFo .n)))))))))))))))⟩
def aFn:Cut:=nC 5 0xb01
def aZE:cH:=nI [aFn] 76 0x70ba2b2001e0001e3271b20d00d12a2020001e1002e3331b2000e3000e7000e939733b20d00d12a290110004
def Qf:Cut:=nC 14 0x105e3018e00a511de44
def GU:Cut:=nC 14 0x105e30a7119e6018e04
def aFm:Cut:=nC 14 0x105e3119e6018e00a74
def ii2:cH:=⟨⟨5,[(.val (.int .u32),false)],[],[],[zS 15],true⟩,(.s (.r [0] [] []) (.s (.r [1] [] [(0,(17,[]))]) (.s (.r [1] [] [(0,(18,[]))]) (.s (.s .n (.b (.l Qf (.s .n (.s (.b (.r [0,15] [] [])) .n))))) (.s (.r [1] [] [(0,(19,[]))]) (.s (.s .n (.b (.l GU (.s .n (.s (.b (.s .n (.s (.r [] [] [(5,(15,[]))]) (.s (.s (.r [13] [] []) .n) (.d ⟨[],[]⟩ (.r [0,4] [] [])))))) (.d aFm .n)))))) (.s (.r [0,1] [] []) .n)))))))⟩
def aFl:Cut:=nC 27 0x1a1922c5ae0c5de00ae0305ae1405de170b15e3
def aFk:Cut:=nC 31 0x1a1922c5ae0c5ee00ae0305ae1405ee18005e100104
def aFj:Cut:=nC 24 0x1a1922c5ae0c5de00ae0305ae1405de172
def GS:Cut:=nC 37 0x1a1922c5ae0c5ee00ae0305ae1405ee180aa005e100100a96
def aFi:Cut:=nC 44 0x1a1922c5ae0c5ee0c61e00ae0405ae1405ee18005e100100a90aa061e1b7
def GK:cH:=nI [aFl,aFj,aFk,GS,aFi] 214 0xe3131b4700107e300ae4000e63632b30106e11a220107e2121b2429354920106e11a22700108e20108e5000e70109e9000eb5b7524b390108e20108e5000e7000e9497524b390108e2000e42422b390108e20108e5000e737523b3940106e11a220107e2121b200170070106e11a2293920106e41a2005e0111b290210100ae1005e00126
def Qe:Cut:=nC 24 0x1a1922c59e0c57e2059e13057e11103e43
def aLq:cH:=nI [Qe] 50 0x202b200851702b24000be11a220542001b2011b20272000c17
def Qd:Cut:=nC 24 0x1a1922c59e0c57e2059e13057e11103e43
def aLp:cH:=nI [Qd] 50 0x202b200951702b24000ce11a220542001b2011b20272000c18
def Qc:Cut:=nC 11 0xa5003e1003e03
def aLo:cH:=nI [Qc] 30 0x781a2429054929901100003e003e29
def aFh:Cut:=nC 5 0xb41
def aZj:cH:=nI [aFh] 26 0x700de03e00ee0ae20ae1b29011000c0c2a
def aFg:Cut:=nC 12 0xc57e1057e110bb2
def aON:cH:=nI [aFg] 46 0x21b2000840892b1b230700be100fe72a22011b2171000c1b
def aFf:Cut:=nC 12 0xc57e1057e110bb2
def aOM:cH:=nI [aFf] 46 0x21b2000940992b1b230700ce1010e72a22011b2171000c1c
def EZ:Cut:=nC 21 0xae0110ce30a80010114e60a75
def Kb:cH:=nI [EZ] 53 0x102b20001e20111e42802b9429905492001b2001b2102e10100ae10011d
def BR:Cut:=nC 17 0xb80a900ce2003e1005e05
def SF:Cut:=nC 17 0xb800ce2003e1005e00a95
def EA:cH:=nI [BR,SF] 37 0x1700c6161b2429054929901120000ce003e005e300e
def aZD:cH:=nI [] 35 0x13e100de22a2012e313203b2901120000ce0c005e301e
def bE2:cH:=nI [] 20 0x1e1014e22a2902100000e102e
def bE1:cH:=nI [] 22 0x15e21212b2902100103e000e203e
def aZC:cH:=nI [] 10 0x5100000e105e
def a1d:Cut:=nC 47 0x110e10ee10de10ce102e101e137207e5ee0c5ce001e5be305ee1805ce16105e00a305be150b05e6
def a1c:Cut:=nC 39 0x110e10ee10de10ce102e101e137207e5ee110e10ee2207e60e205ee18060e1a0ad3
def bE0:cH:=nI [a1d,a1c] 139 0x1760e11de31312b60e11ce21202b3960e11be21202b3960e11ae11a001b23960e119e11a001b23960e118e11a001b23960e117e11a001b23960e116e21202b001b239492904116323b2900792900b2000a0c001e105e404e
def EY:Cut:=nC 11 0x105e10a3004e23
def Ka:cH:=nI [EY] 57 0x20e1021e22702b2001fe6196104b4290549201ee0111b2001b2001b219100007e
def bEZ:cH:=nI [] 302 0xe5023e6000ec000e01e000e03e023e04e000e0ae000e0ee000e10e000e14e024e16e000e18e00ae19e000e1be023e1ce000e22e024e25e024e28e000e2ae00ae2be000e2de023e2ee000e34e024e37e024e3ae000e3ce025e3de000e3fe023e40e000e46e024e4ae000e4ce00ae4de000e4fe023e50e000e55e024e58e00ae59e000e5be023e5ce023e61e000e67e000e6be024e6ee024e70e000e74e000e78e026e79e000e7ce000e7fe027e81e000e83e024e85e000e87e00ae89e000e8be000e8de023e8ee00ae94e024e96e00ae99e024e9be000e9de023e9ee32ea1e9ee9de9be96e8ee8de8be87e85e83e7fe7ce78e74e70e6ee6be67e61e5ce5be58e55e50e4fe4ce4ae46e40e3fe3ce3ae37e34e2ee2de2ae28e25e22e1ce1be18e16e14e10e0ee0ae04e03e01ec6529eb2022e21a2000e2121b2000e2000e52522b20d00d10d23a2001b2113e100008e
def aZB:cH:=nI [] 340 0xe3000e5000e8000ed000e01e000e04e000e08e00ae0ae000e0ce000e0fe000e11e000e16e000e1be000e1de000e1fe000e24e000e28e000e2ae000e30e000e32e000e37e000e39e000e3be000e3fe000e42e000e45e000e47e000e49e000e4de000e4fe000e53e025e54e000e56e000e58e000e5ce000e5fe000e61e000e65e000e68e000e6ae000e6ee000e71e000e74e000e76e000e79e000e7be000e7fe000e81e029e84e02ae8ae000e8de000e90e000e92e000e94e000e99e02ae9ce000ea0e000ea3e000ea6e000ea8e000eace000eaee000eb1e000eb3e000eb6e000eb8e000ebae000ebfe000ec3e027ec4e000ec8e000ecae025ecce024ecfe000ed1e3ded4ed1ecfecaec8ec3ebfebaeb8eb6eb3eb1eaeeacea8ea6ea3ea0e9ce99e94e92e90e8de8ae81e7fe7be79e76e74e71e6ee6ae68e65e61e5fe5ce58e56e53e4fe4de49e47e45e42e3fe3be39e37e32e30e2ae28e24e1fe1de1be16e11e0fe0ce08e04e01ed85339eb2001e01a2028e21a20d00d10d20d34a2001b210fe100009e
def SE:Cut:=nC 15 0xae010a100100b04e3
def PP:cH:=nI [SE] 22 0x79290010100ae10a00120be
def SD:Cut:=nC 40 0x1a1922c5ce0c5de00ae0305ce1605de170a2005e100100ad0b00e7
def PO:cH:=nI [SD] 133 0x109e10108e6000e8000ea4a8634b23900108e5000e727523b23900109e1000e3000e53532b23900108e5000e7000e9397524b2390000e2121b2307940106e11a220108e3131b290210100ae10a005e00130ce
def SC:Cut:=nC 33 0x1a1922c5ce00ae0205ce160a2005e100100a70b08e6
def SB:Cut:=nC 30 0x1a1922c5ce00ae0205ce160a2005e100100a75
def SA:Cut:=nC 34 0x1a1922c5ce001e5ee00ae0305ce1605ee180a2005e100105
def EW:Cut:=nC 43 0x1a1922c5ce001e5ee00ae0305ce16103ed05ee180a00e0a2005e100100ab8
def yC:cH:=nI [SC,SB,SA,EW] 142 0x2ae21212b200108e518503b42935492001b202fe2121b2270106e4001e72a0106e402ee72a30106e11a202ce002de12322b229000111e102be22a23900109e11a2394217007920106e11a290210100ae10a005e00130de
def aZA:cH:=nI [] 25 0x106e10d42a290210100ae100110ee
def bEY:cH:=nI [] 18 0x13e002be12a290210000fe
def Sz:Cut:=nC 5 0xb61
def Sd:cH:=nI [Sz] 23 0x7030e71a29011000a000e0c310e
def Sy:Cut:=nC 5 0xb61
def Sc:cH:=nI [Sy] 23 0x7020e71a29011000a000e0c311e
def Sx:Cut:=nC 19 0xd59e0d58e2059e13058e120b21e3
def EV:Cut:=nC 19 0xd59e0d58e20a5059e13058e123
def CV:cH:=nI [Sx,EV] 34 0xdea1a242915492007929011000d0d212e
def EU:Cut:=nC 11 0xa5003e1003e03
def JZ:cH:=nI [EU] 30 0x781a2429054929901100003e003e213e
def Sw:Cut:=nC 5 0xb21
def Sb:cH:=nI [Sw] 19 0x7031e61a29011000c114e
def aZz:cH:=nI [] 20 0x32e10722a29011000c115e
def Sv:Cut:=nC 28 0x1612d5ae00ae0205ae140a100100a50b03e5
def Su:Cut:=nC 25 0x1612d5ae00ae0205ae140a100100a54
def Ss:Cut:=nC 28 0x1612d5ae00ae0205ae140a100100a06e0b0de5
def Sr:Cut:=nC 25 0x1612d5ae00ae0205ae140a100100b2ee4
def ET:Cut:=nC 31 0x1612d5ae00ae0205ae14104e60a80a100100a76
def sP:cH:=nI [Sv,Su,Ss,Sr,ET] 194 0x111e4038e52a20111e31a200039e11102b200111e41702b429454920106e11a2001b233790034e01a2390034e01a23900106e1037e32a23900106e1001e4036e53a2390035e01a2390035e01a23900106e1034e32a232790033e01a2390013e01a23949217007920106e11a290310100ae10a001216e
def aZy:cH:=nI [] 31 0x69e13ae31322b299900033000a00ce0c005e417e
def aZx:cH:=nI [] 18 0x20e0036e12a2903100018e
def bEX:cH:=nI [] 10 0x2100001e119e
def bEW:cH:=nI [] 25 0x20e102ae32322b2902100103e000e21ae
def a1b:Cut:=nC 32 0xc5be110e10ee10de10ce102e101e6207e02001105be150b0fe3
def a1a:Cut:=nC 14 0x110e10ee2207e0100111
def a09:Cut:=nC 17 0x110e10ee2207e0100110b53e2
def a08:Cut:=nC 29 0x110e10ee2207e010011108e70a80e106e9008e7ee0a7fe6
def a07:Cut:=nC 39 0x1ee61e110e10ee2207e020011108e7008e7ee0a7fe0a80e061e1b106e90b8ee8
def a06:Cut:=nC 26 0x110e10ee2207e010a9de0011108e7106e9be0a9ce5
def a05:Cut:=nC 42 0x1e63e110e10ee2207e020011108e7106e9be0a9ce0a9de0aa3e063e1d008ea1e0aa2e9
def a04:Cut:=nC 52 0x1e63e01ee65e110e10ee2207e030011108e7106e9be0a9ce0a9de063e1d008ea1e0aa2e0aa3e065e101e0bb1eb
def a03:Cut:=nC 42 0x1e63e10ee110e2207e020011108e7106e9be0a9ce0a9de063e1d008ea1e0aa2e0aa3e9
def bEV:cH:=nI [a1b,a1a,a09,a08,a07,a06,a05,a04,a03] 202 0x870041b37799429965499429955403fe5151b2200602b047043e9191b229429935492001b29042e81ca93b20041e81a22003fe503fe02e040e03e303e02e53b22027030ec1a2217030e303ee503de63a030e303ce803de93a300be11a2030703bed1da2b2429001110e10ee221110e10ee10de10ce102e101e6207e10c001105e31be
def a02:Cut:=nC 28 0xc59e110e10ee102e101e4207e0200100b5059e133
def a01:Cut:=nC 31 0xc59e110e10ee102e101e4207e0200100b5059e130b14e4
def a0Z:Cut:=nC 34 0xc5ee110e10ee102e101e4207e0205ee1800100a60b50b2be5
def a0Y:Cut:=nC 28 0xc5ee110e10ee102e101e4207e0205ee1800100a63
def bEU:cH:=nI [a02,a01,a0Z,a0Y] 94 0x3fe403fe7040e838743b229379027045ea1a229044e21a2017030ec1a2207900be11a299001110e10ee221110e10ee10de10ce102e101e6207e10c00121ce
def a0X:Cut:=nC 36 0xc59e0c5be110e10ee10de10ce102e101e6207e030010059e1305be153
def bET:cH:=nI [a0X] 71 0x3fe203fe7040e838723b229907000be11a22999001110e10ee102e101e421110e10ee10de10ce102e101e6207e10c00121de
def a0W:Cut:=nC 36 0xc5be0c59e110e10ee10de10ce102e101e6207e03001005be15059e133
def a0V:Cut:=nC 30 0x110e10ee102e101e4207e0100100a16e106e6003e14e0a15e5
def a0U:Cut:=nC 39 0x110e10ee102e101e4207e010010106e6003e14e0a15e0a16e0a1de103e1be0a1ce8
def a0T:Cut:=nC 49 0xc60e110e10ee102e101e4207e020010106e6003e14e0a15e0a16e103e1be0a1ce0a1de060e1a0b39ea
def a0S:Cut:=nC 39 0x110e102e101e10ee4207e010010106e6003e14e0a15e0a16e103e1be0a1ce0a1de8
def bES:cH:=nI [a0W,a0V,a0U,a0T,a0S] 123 0x470031b337047e603fed040e00e048e08e408e00ed3b294299254046e11a29429915492903fe71872b2000be11a2207000be11a2299001110e10ee102e101e421110e10ee10de10ce102e101e6207e10c00121ee
def a0R:Cut:=nC 32 0xc59e110e10ee10de10ce102e101e6207e020010059e130b17e3
def a0Q:Cut:=nC 45 0xc5ce0c5be110e10ee10de10ce102e101e6207e0305ce16001005be150a23e003e21e0a22e6
def a0P:Cut:=nC 48 0xc5ce0c5be110e10ee10de10ce102e101e6207e0305ce16001005be15003e21e0a22e0a23e0b42e7
def bER:cH:=nI [a0R,a0Q,a0P] 92 0x3fe4040e82842b2290027048e08e108e1b203fe21322b29429915492900700be11a229001110e10ee221110e10ee10de10ce102e101e6207e10c00121fe
def a0O:Cut:=nC 37 0xc5be110e10ee10de10ce102e101e137207e02001105be15105e00b11e4
def a0N:Cut:=nC 34 0x1e5de110e10ee10de10ce102e101e137207e0205de1700110b28e3
def bEQ:cH:=nI [a0O,a0N] 85 0x1704ae5041e62a2049e21202b22900700be100be82a229001110e10ee10de10ce102e101e13721110e10ee10de10ce102e101e137207e10c001105e320e
def a0M:Cut:=nC 41 0xc5ee0c5de110e10ee10de10ce102e101e137207e0305ee1805de1700110b2ee4
def a0L:Cut:=nC 69 0xc5ee0c5de0c61e0c60e0c5fe0c62e110e10ee10de10ce102e101e137207e0705ee1805de17061e1b0011060e1a05fe19062e1c0b58e8
def a0K:Cut:=nC 78 0xc5ee0c5de0c61e0c60e0c5fe0c62e110e10ee10de10ce102e101e137207e0705ee1805de170ad061e1b0011060e1a05fe19062e1c0a5ce003e5ae0a5beb
def a0J:Cut:=nC 91 0xc5ee0c5de0c61e0c60e0c5fe0c62e0c65e110e10ee10de10ce102e101e137207e0805ee1805de170ad061e1b0011060e1a05fe19062e1c003e5ae0a5be0a5ce0a00e065e101e0b72e00e
def a0I:Cut:=nC 51 0xc5ee0c5de0c61e110e10ee10de10ce102e101e137207e0405ee1805de170ad061e1b00110b84e6
def a0H:Cut:=nC 78 0xc5ee0c5de0c61e0c60e0c5fe0c62e110e10ee10de10ce102e101e137207e0705ee1805de170ad061e1b0011060e1a05fe19062e1c003e5ae0a5be0a5ceb
def bEP:cH:=nI [a0M,a0L,a0K,a0J,a0H,a0I] 122 0x5704be7041e82a220470037048e02e102e1b2294299254929017030e09e1a22900703be0ae03be11e211e0ee0ae3b229000be11a229001110e10ee10de10ce13521110e10ee10de10ce102e101e137207e10c001105e321e
def a0G:Cut:=nC 50 0xc5be0c5de110e10ee10de10ce102e101e137207e030a06e05be150010106e905de17103e04e0a05e7
def a0F:Cut:=nC 60 0xc5be0c5de0c61e110e10ee10de10ce102e101e137207e0405be150010106e905de17103e04e0a05e0a06e061e1b0b23e9
def bEO:cH:=nI [a0G,a0F] 93 0x17045ea041e01e03fe08e040e09e409e08e2b294299054046e11a2203fe41542b29001110e10ee102e101e13521110e10ee10de10ce102e101e137207e10c003e0c001422e
def aZw:cH:=nI [] 36 0x102b204ce004de104ee2374324b2001b208100026e
def a0E:Cut:=nC 64 0x10fe10ee10de10ce109e108e107e106e105e104e1714c211e5ae116e115e10be10ae12520ee5de205ae1405de17005e0004e50aa004e86
def a0D:Cut:=nC 57 0x10fe10ee10de10ce109e108e107e106e105e104e1714c211e5ae116e115e12320ee5de205ae1405de17113eb005e0004e55
def a0C:Cut:=nC 44 0x10fe10ee10de10ce109e108e107e106e105e104e1714c211e5ae12120ee5de205ae1405de172
def bEN:cH:=nI [a0E,a0D,a0C] 113 0x270050e313103b39051e11102b22170050e3131b39051e1111b22050e8181b2021b20011b4290549204fe317543b2033e402be52a204fe115323b29007e1000d005e227e
def aZv:cH:=nI [] 10 0x5100000e128e
def a0B:Cut:=nC 11 0x106e10a3004e23
def a0A:Cut:=nC 11 0x106e10a7114e63
def bEM:cH:=nI [a0B,a0A] 81 0x102b20020e51802b42915492011b200702b04fe418653b24290549201ee0111b2052e0111b2001b21a100029e
def bEL:cH:=nI [] 41 0xae2026e3000e5026e700ae8000ea000ec7ca53b29021000c0c22ae
def a0z:Cut:=nC 40 0x116e115e10be10ae100e1d12720ee5ee12120ee5fe205ee1805fe190aa114e14
def bEK:cH:=nI [a0z] 42 0x1e6111b42905492001e1026e22a29004e1000c0c114e000e42be
def bEJ:cH:=nI [] 25 0x1e102ae32322b2902100103e000e22ce
def bEI:cH:=nI [] 20 0x34e102be22a29021000a12de
def bEH:cH:=nI [] 18 0x33e002be12a290210002ee
def bEG:cH:=nI [] 24 0xae2000e4241b29021000c0c22fe
def bEF:cH:=nI [] 21 0xe3131b29021000c0c230e
def bEE:cH:=nI [] 92 0x15e202ae7053ea053eb053ec5722b2053e202ae7015e93972b202ae5015e72752b202ae402ae92942b2020e0014e1020e2014e3020e4014e56a2902100001e131e
def bED:cH:=nI [] 12 0x2100103e001e232e
def aZu:cH:=nI [] 10 0x21000d136e
def aZt:cH:=nI [] 18 0x11b2001b210ae100040e
def aZs:cH:=nI [] 18 0x11b2001b210ae100041e
def bEC:cH:=nI [] 10 0x5100000e142e
def aZr:cH:=nI [] 30 0x55e21202b29054e11a29010200001e005e243e
def aZq:cH:=nI [] 10 0x5100000e144e
def Sq:Cut:=nC 5 0xb21
def R9:cH:=nI [Sq] 14 0x799011000d145e
def aZp:cH:=nI [] 18 0x13e002be12a2902100035e
def aZo:cH:=nI [] 18 0x20e0036e12a2903100037e
def aZn:cH:=nI [] 20 0x56e1035e22a29031000a146e
def aZm:cH:=nI [] 19 0x57e21a2903100000e000e247e
def aZl:cH:=nI [] 10 0x3100001e148e
def aZk:cH:=nI [] 10 0x3100000e149e
def aZi:cH:=nI [] 12 0x31000d0d24be
def a0y:Cut:=nC 25 0x1612d58e0d59e2058e12059e130a4004e04
def bEB:cH:=nI [a0y] 31 0x38e51a42905492013e01a2903100004e14ae
def Sp:Cut:=nC 42 0x1612d5ce00ee64e0c5ae01ae0405ce16064e100e001005ae140bd00ce20b51e7
def ER:Cut:=nC 45 0x1612d5ce00ee64e0c5ae01ae0405ce16104e04e064e100e001005ae140bd0a05e00ce28
def CU:cH:=nI [Sp,ER] 174 0x5be6013ae727653b20005ae31322b239200402b9013ae7171b242915492001b200013ae61652b200013ae61652b23059e11a229013ae6161b2300ce11a2200792055e6161b2054e21a29902fe6161b29900058e31302b239492900320101ae100ce0c00134ce
def a0x:Cut:=nC 15 0x1e59e1059e13005e00b02e3
def a0w:Cut:=nC 18 0x1e59e10a05e059e13005e03e0a04e4
def a0v:Cut:=nC 18 0x1e59e1059e13005e03e0a04e0a05e4
def a0u:Cut:=nC 27 0x1e59e1059e13005e03e0a04e0a05e0a0fe01fe0de0a0ee7
def a0t:Cut:=nC 30 0x1e59e1059e13005e03e0a04e0a05e01fe0de0a0ee0a0fe0b1be8
def bEA:cH:=nI [a0x,a0w,a0u,a0t,a0v] 54 0x470037994299254999429915492007030e1030e52a22901100001e005e24de
def bEz:cH:=nI [] 15 0x5ce11a290310004fe
def bEy:cH:=nI [] 17 0x5de11a29021000d14ee
def bEx:cH:=nI [] 15 0x5ce11a2903100050e
def bEw:cH:=nI [] 25 0x5ee112103b2001b21a100003e152e
def a0s:Cut:=nC 14 0xa9106e1006e70a84
def bEv:cH:=nI [a0s] 33 0x43e2121b29429905492901100106e006e251e
def a0r:Cut:=nC 5 0xb41
def bEu:cH:=nI [a0r] 26 0x705fe03e060e0ae20ae1b29011000c0c224e
def bEt:cH:=nI [] 31 0x61e5186544b2021b211c200008e0c0c353e
def a0q:Cut:=nC 18 0x1e59e10a9059e13006e70a84
def bEs:cH:=nI [a0q] 19 0x5492901100001e006e254e
def bEr:cH:=nI [] 11 0x10200001e155e
def a0p:Cut:=nC 5 0xb21
def bEq:cH:=nI [a0p] 22 0x7047e1030e52a2901100001e156e
def a0o:Cut:=nC 14 0x103e30a00e003ec0ad4
def a0n:Cut:=nC 5 0x103e31
def bEp:cH:=nI [a0o,a0n] 50 0x102b21700046e21402b942990549392021b2011b2171000c157e
def bEo:cH:=nI [] 17 0x62e11a2901100001e158e
def a0m:Cut:=nC 18 0xc59e10a9059e13003e70a84
def bEn:cH:=nI [a0m] 31 0x41e21a294299054929011000c003e259e
def bEm:cH:=nI [] 29 0x64e41a29063e2121b290104e200001e105e25ae
def bEl:cH:=nI [] 114 0x57e166e3067e5067e93952b257e166e3067e8067eb3b82b257e166e357e166e7067ea57e166e00e067e02e502ea2b257e166e357e166e7067e9391b203ce003de12a29030e0065e1030e2065e3030e4065e56a2902100001e15be
def bEk:cH:=nI [] 31 0x5be5ae268e21a20041e21a229021000c0c0c35ce
def aZh:cH:=nI [] 18 0x21b2001b210ce100064e
def aZg:cH:=nI [] 8 0x4100065e
def BQ:Cut:=nC 19 0x9e5de010e73e205de17104eb073e1a3
def So:Cut:=nC 25 0x9e5de010e73e205de17073e1a104eb0ac0b3ce5
def CT:cH:=nI [BQ,So] 115 0x202b20402b0006ae1121b2306ce11a2200011b239273e16be11a20006ae1121b23179929490542001b2900011b2392069e116323b2001b20d8200000e000e116e363e
def a0l:Cut:=nC 12 0xd57e1104e4057e112
def bEj:cH:=nI [a0l] 62 0x102b200001b2306ee11a2200702b24006de11a220542001b2011b21182000d166e
def bEi:cH:=nI [] 33 0x70e11a22964e16fe21a2990022000d013e005e367e
def a0k:Cut:=nC 21 0x1612d5ae105ae140a6000e1004e04
def a0j:Cut:=nC 27 0x1612d5ae105ae14000e1004e00a6004e70b18e6
def bEh:cH:=nI [a0k,a0j] 42 0x17020ec1a204fe418653b2429054929013200000e004e268e
def a0i:Cut:=nC 11 0x106e20a311be13
def bEg:cH:=nI [a0i] 49 0x102b20020e61902b42905492001b2071e0111b2001b21a100069e
def bEf:cH:=nI [] 24 0x32e2015e4241b29021000c0c26ae
def EQ:Cut:=nC 15 0x1e57e10a511be4057e113
def JY:cH:=nI [EQ] 27 0x5492071e0111b299010200001e16fe
def aZf:cH:=nI [] 29 0x73e41a29072e2121b290104e200001e005e23ee
def aEE:cH:=nI [] 17 0x74e11a29041000a174e
def aED:cH:=nI [] 81 0x78e4078e6265434b2077e216432106b2077e21643205b2076e2075e3281b2075e1161b29075e1161b29044200000e000e275e
def Bf:Cut:=nC 25 0x1612d5ae001e59e205ae140a600ce0059e134
def AN:cH:=nI [Bf] 20 0x54929013200001e00ce276e
def LF:Cut:=nC 5 0xb21
def EC:cH:=nI [LF] 14 0x799011000d177e
def LD:Cut:=nC 19 0x1612d5ae0d5ee205ae1405ee182
def EB:cH:=nI [LD] 58 0x7be11a2207006ee31a2907ae81a39079e51a39492999054e11a29003200104e001e278e
def xQ:Cut:=nC 14 0x10ce50a6004e1006e04
def LC:Cut:=nC 17 0x10ce5004e1006e00a60b02e5
def tP:cH:=nI [xQ,LC] 46 0x102b200c02b420179205492001b2001b2102e100004e006e279e
def a8d:cH:=nI [] 10 0x3100001e17be
def a8c:cH:=nI [] 10 0x21000d17ae
def aMC:Cut:=nC 25 0x106e5be0a59e205be150aa059e13003e80a95
def a8b:cH:=nI [aMC] 42 0x102b205be59e27ce21a94299054929011b21a1000a003e27ce
def aMB:Cut:=nC 16 0xd59e0d58e2059e13058e122
def aMA:Cut:=nC 19 0xd59e0d58e2059e13058e120b22e3
def aMz:Cut:=nC 25 0xd59e0d58e2059e13058e120a50a2ae0a29e5
def a8a:cH:=nI [aMB,aMA,aMz] 42 0x5fea1a29429925492990179240549011000d0d25ee
def aMy:Cut:=nC 19 0xa03e0024e22003e1003e01e0a02e5
def a79:cH:=nI [aMy] 37 0x41e31a29942990549299011000024e2003e003e35fe
def aMx:Cut:=nC 17 0x108e80a08e103e1003e06e0a07e5
def a78:cH:=nI [aMx] 84 0x102b200102b00001b239207ee61a87655b2942990549207de112103b200001b2392001b211c200008e103e103e37de
def aMw:Cut:=nC 8 0xe80bb2
def aMv:Cut:=nC 5 0xb06e1
def a77:cH:=nI [aMw,aMv] 28 0x1790307903949299010200001e17ee
def aMu:Cut:=nC 18 0x1e59e10ad059e13005eb0ac4
def a76:cH:=nI [aMu] 39 0x64e159e17fe3231b2942990549290100300001e005e27fe
def aMt:Cut:=nC 12 0x11e57e1057e110b52
def a75:cH:=nI [aMt] 35 0x1b2000212b23079492011b2009e100011e180e
def a74:cH:=nI [] 10 0x2100001e15de
def a73:cH:=nI [] 27 0x80e4141b2902101001e10010c0c381e
def a72:cH:=nI [] 22 0x80e31322b2902100103e000e283e
def aMs:Cut:=nC 51 0x1a1922c5ae0c58e02465e0c10c0505ae14058e12065e350a05e010285e21003e03e0a04e7
def a71:cH:=nI [aMs] 55 0x11e210112010281e41a9429905492041b2990210020c0c2010285e20c284e
def Be:Cut:=nC 18 0x9e59e1120e4059e13000e00a54
def CC:cH:=nI [Be] 91 0x402b200011b2392083e21a2000702b23920006ae2131b2392082e21a240549001b20006ae0111b2392001b20d16e200000e18ae
def a70:cH:=nI [] 12 0xd1000a0a28be
def LB:Cut:=nC 52 0x9e5be1612d5ae1612d5de00be5ce010e0505be1505ae140a1001005de1705ce160a0ae0b11e8
def LA:Cut:=nC 46 0x9e5be1612d5ae00be5ce1612d5de010e0505be1505ae1405ce1605de17000e800106
def yU:cH:=nI [LB,LA] 136 0x184e31a200020e0036e1039e4341b29016be31a239290006ae31a239200036e11a20006ae41a2392085e7171b217999390037e21a2939039006ae31a23079006ae31a2394929990d3201010e10a00128ce
def aEC:cH:=nI [] 17 0x86e11a29001000d18de
def Lz:Cut:=nC 5 0xb21
def Ez:cH:=nI [Lz] 14 0x799011000d18ee
def aEB:cH:=nI [] 20 0x13e100de22a29011000d18fe
def aMr:Cut:=nC 37 0x1a1922c5ce0d5ae00fe0305ce160010008e205ae140a0fe0b10e6
def aMq:Cut:=nC 37 0x1a1922c5ce0d5ae00fe0305ce160010008e205ae14004ea0b3be6
def aMp:Cut:=nC 34 0x1a1922c5ce0d64e00fe0305ce16008e2064e100e00100b71e5
def aMo:Cut:=nC 44 0x1a1922c5ce001e62e0d5ae00fe0405ce16062e1c0010008e2004ed05ae140b86e7
def aMn:Cut:=nC 40 0x1a1922c5ce001e62e00fe0305ce16103e09e062e1c00100a0ae008e2004ed7
def a7Z:cH:=nI [aMr,aMq,aMp,aMo,aMn] 272 0x2ae21212b299018fe21a200402b9016fe6161b242945492001b200016fe31322b2908ee5151b20018be11a2233708de31a208ce5151b2200016fe31322b2027018be51a2204fe317543b2908ae1111b23020e01a200189e313213b23020e01a2002be31a293020e01a2492081b20179204fe115323b200014e21a20088e31302b220002be11a23087e21a2239002be11a23079492900220100fe1008e0d001390e
def Ly:Cut:=nC 5 0xb21
def Ey:cH:=nI [Ly] 25 0x7090e1091e5092ea3a29011000c191e
def aEA:cH:=nI [] 18 0xce1b2001b2111e100092e
def xP:Cut:=nC 15 0x1e59e10a7059e13005e03
def Bd:Cut:=nC 21 0x1e59e1059e13005e00a70a9013e85
def rL:cH:=nI [xP,Bd] 37 0x1549073e4151b24290549290100300001e005e271e
def Lx:Cut:=nC 12 0x11e57e1057e110b52
def CB:cH:=nI [Lx] 35 0x1b2000212b23079492011b2009e100011e172e
def a7Y:cH:=nI [] 17 0x93e11a29041000a195e
def Lw:Cut:=nC 8 0xe00b00e2
def Lv:Cut:=nC 11 0xb4000e00a53
def Bc:Cut:=nC 17 0x102e60b40a7000e00a55
def pV:cH:=nI [Lw,Lv,Bc] 63 0x312b200802b42925492001b21799900011b2307094e11a22011b2061200000e196e
def Bb:Cut:=nC 8 0x2e6002e82
def AM:cH:=nI [Bb] 64 0x78e11102b2032104b077e217643206b2490542075e1161b2075e1161b2904100000e000e297e
def xO:Cut:=nC 22 0x461e1002e7061e360a8002e1002e05
def Ba:Cut:=nC 22 0x461e1002e7061e36002e1002e00a85
def rK:cH:=nI [xO,Ba] 87 0x95e111ae114321051200097e213203b240096e2121b22154095e71872b242905492001b2031b20102b2066200002e002e298e
def Lu:Cut:=nC 8 0x10de5002e12
def A9:Cut:=nC 11 0x10de50a6002e13
def vE:cH:=nI [Lu,A9] 54 0x902b429154920700302b392001b29095e112103b2904100002e0b299e
def Lt:Cut:=nC 35 0x1612d5ae0d59e0d5be305ae14059e13000ec05be15000e00bd6
def CA:cH:=nI [Lt] 199 0x37e31a200037e01a239209fe11a239009ee1034e32a2390037e31a2390037e31a2390035e11a209de41a2390035e21a2390035e21a239009ce11a239009be11a239009ae1099e22a2390099e31a2390099e31a2390099e31a2390099e31a239000013e01a2306de11a223079492098e11a29031000d000e29ae
def Ls:Cut:=nC 22 0x1612d5ce001e5de205ce1605de170b2be3
def AL:cH:=nI [Ls] 147 0x34e51a200013e01a23920a4e21a239009ee109ee3037e53a2390036e11a200013e01a23070a3ea1a2209ee109ee32a23900a2e2099e32a23900a1e21a23900a0e21a2390038e21a239000de2099e32a2394929031000d0d000e39be
def Lr:Cut:=nC 5 0xb21
def Ew:cH:=nI [Lr] 22 0x706ce10a5e52a29011000d19ce
def aMm:Cut:=nC 24 0x106e10a020a03e01029ee21003e01e0a02e4
def aMl:Cut:=nC 8 0x106e10a020
def a7X:cH:=nI [aMm,aMl] 58 0x170001027ce21a29429905493920102a6e21a229011102106e0a201029ee20c29de
def a7W:cH:=nI [] 21 0x31b29001b21c100008e1a0e
def aMk:Cut:=nC 22 0xc5ae0c59e2108e205ae14059e130b1ee4
def aMj:Cut:=nC 22 0xc5ae0c59e2108e205ae14059e130b30e4
def aMi:Cut:=nC 21 0xc5ae1108e20a35e05ae14003e33e0a34e5
def a7V:cH:=nI [aMk,aMj,aMi] 127 0x102b200102b000102b239207ee71b98765b29429925492000102b23179200041e31402b23079200041e31402b2000702b23920a7e3131b2392021b211c200108e0c0c3a1e
def aMh:Cut:=nC 20 0x1e010aa001a3e21013e80a94
def a7U:cH:=nI [aMh] 39 0x1a8e21a294299054929010201001e1001a3e2013e2a2e
def a7T:cH:=nI [] 12 0x2100103e001e282e
def a7S:cH:=nI [] 29 0x4be31a290210020c0c20110010c385e
def xN:Cut:=nC 8 0xa1000e02
def xM:Cut:=nC 8 0xa1000e02
def A8:Cut:=nC 11 0xa1000e00a63
def Lq:Cut:=nC 11 0xa1000e00b13e3
def mA:cH:=nI [xN,xM,Lq,A8] 74 0xaae21a2030aae21a20394493549930aae21a200279215439030a9e31a2449054290102000a000e2aae
def Lo:Cut:=nC 36 0x9e5ce00be5ae009e5ee00be5de405ce1605ae1405ee180a105de170b33e6
def Ln:Cut:=nC 33 0x9e5ce00be5ae009e5ee00be5de405ce1605ae1405ee180a105de175
def Lm:Cut:=nC 33 0x9e5ce00be5ae009e5ee00be5de405ce1605ae1405ee180aa05de175
def Ll:Cut:=nC 39 0x9e5ce00be5ae009e5ee00be5de405ce1605ae1405ee180aa05de170a10b95e7
def Lk:Cut:=nC 33 0x9e5ce00be5ae009e5ee00be5de405ce1605ae1405ee180a105de175
def lZ:cH:=nI [Lo,Lk,Ln,Ll,Lm] 182 0x470ace11a990006ae31a23370b2e20b2e72a20b1e10b1e3057e43a290006ae31a230b1e11a2239039420b0e11a2000afe41a230aae21a2290aee21a20006ae31a230ade11a202700ace11a3920abe31a2939017006ae21a307920abe31a29390390390394929990d001e3000a000e2abe
def xJ:Cut:=nC 39 0x9e5be1612d5ae0d5de010e0405be1505ae1405de17104e600100a16
def Lj:Cut:=nC 42 0x9e5be1612d5ae0d5de010e0405be1505ae1405de1700100a1104e60b1de7
def Li:Cut:=nC 36 0x9e5be1612d5ae0d5de010e0405be1505ae1405de17104e600105
def A7:Cut:=nC 35 0x9e5be1612d5ae0d5de010e0405be1505ae1405de170ad104e65
def lY:cH:=nI [xJ,Lj,Li,A7] 105 0x38e51a429354929270402b9016be21a200006ae31a2006ae31a239039499299016be21a2931792490542013e01a2001b290d3201010e10a0012ade
def Lh:Cut:=nC 25 0x1e5ce017e5ee205ce16000e2000e105ee180b0de5
def A6:Cut:=nC 25 0x1e5ce017e5ee205ce16000e2000e10aa05ee185
def tN:cH:=nI [Lh,A6] 37 0x154920079290b3e21202b29005200000e000e016e3ace
def Lg:Cut:=nC 15 0xd58e10a1058e120bd3
def Cz:cH:=nI [Lg] 31 0x86e81a29086e61a2007929001000a0d2aee
def Lf:Cut:=nC 5 0xb21
def Ev:cH:=nI [Lf] 25 0x70a3e1020e4020e93a2901100001e1afe
def aMg:Cut:=nC 27 0x1a1922c5ae001e59e205ae140a6008e0059e134
def a7R:cH:=nI [aMg] 20 0x54929012200001e008e293e
def aMf:Cut:=nC 39 0x1a1922c5ce00fe0205ce16008e2108eb004e100100ac006e8004e98
def a7Q:cH:=nI [aMf] 72 0x16fe71742b200902b9016fe6161b242905492001b290b4e3198544b29900220100fe1008e004e0013b0e
def aMe:Cut:=nC 21 0x1612d58e1058e12004e0104e40a64
def aMd:Cut:=nC 24 0x1612d58e1058e12004e0104e40a60b1de5
def a7P:cH:=nI [aMe,aMd] 68 0x39e4039e70b5ec0b5e00e400ec744b290017904fe418653b242905492904fe317543b299013200004e1b1e
def a7O:cH:=nI [] 14 0x110100fe10011b2e
def xI:Cut:=nC 29 0x100e1d123215e5ae001e59e205ae140a6005e0059e134
def Le:Cut:=nC 32 0x100e1d123215e5ae001e59e205ae14005e0059e130a60b0ee5
def tM:cH:=nI [xI,Le] 27 0x179429054929010be200001e005e2b3e
def aMc:Cut:=nC 5 0xb81
def a7N:cH:=nI [aMc] 19 0x794929901100001e1b4e
def aMb:Cut:=nC 28 0x1612d5ae0d59e205ae14005e0059e13004e70b17e5
def aMa:Cut:=nC 28 0x1612d5ae015e63e205ae14063e1d005e00a00e004ea5
def aL9:Cut:=nC 31 0x1612d5ae015e63e205ae14063e1d005e00a00e004ea0b4ae6
def aL8:Cut:=nC 28 0x1612d5ae015e63e205ae14001204e01e063e1d005e04
def a7M:cH:=nI [aMb,aMa,aL9,aL8] 106 0x5be6012e7276504b2370039e417403b392071b2027921799908ce2121b2000b6e31322b2308de11a22081b20079204fe115323b2900133000d005e2b5e
def aL7:Cut:=nC 19 0x1e59e00fe02059e1300100a63
def a7L:cH:=nI [aL7] 32 0x2fe5151b2005492901020100fe1001e0012b6e
def aEz:cH:=nI [] 17 0xb7e11a29001000c1b7e
def aEy:cH:=nI [] 17 0xb8e11a29001000c1b8e
def Ld:Cut:=nC 5 0xb21
def Lc:Cut:=nC 5 0xb21
def Lb:Cut:=nC 12 0xc57e1057e110b2be2
def A5:Cut:=nC 12 0xc57e10a4057e112
def mZ:cH:=nI [Ld,Lc,Lb,A5] 72 0x92e51a2429354920270a3e51a223901707be71a239007087e41a23949200de31a29011000c1b9e
def a7K:cH:=nI [] 17 0xb9e11a29041000a1bae
def La:Cut:=nC 11 0xe00a30b00e3
def K9:Cut:=nC 8 0xe00a32
def K8:Cut:=nC 11 0xe00a30b0ae3
def xH:Cut:=nC 8 0xa4000e02
def K7:Cut:=nC 11 0xe00a40b1be3
def kP:cH:=nI [La,K9,K8,xH,K7] 38 0x4794293549202792170079299901100000e1bbe
def xG:Cut:=nC 8 0xa3002e02
def K6:Cut:=nC 11 0xa3002e00b01e3
def tL:cH:=nI [xG,K6] 31 0x31b200179205429001b206100002e1bce
def A4:Cut:=nC 11 0xa5002e1002e03
def AK:cH:=nI [A4] 20 0x54929900100002e002e2bde
def xB:Cut:=nC 17 0x102e50a7002e10a6002e05
def K5:Cut:=nC 17 0x2e1002e00a70a8102e55
def K4:Cut:=nC 20 0x2e10a6002e00a70a8102e56
def pU:cH:=nI [xB,K5,K4] 55 0x95e112103b200402b27991799429054929001b2001b206100002e002e2bee
def aEx:cH:=nI [] 18 0x34e01a299031000d1bfe
def aEw:cH:=nI [] 28 0x13e01a200033e01a23929031000b1c0e
def K3:Cut:=nC 5 0xb21
def Eu:cH:=nI [K3] 14 0x799011000d1c1e
def aEv:cH:=nI [] 26 0xbae2035e52a2098e11a29031000d1c2e
def aEu:cH:=nI [] 23 0x35e41a2098e11a29031000d1c3e
def K2:Cut:=nC 20 0x2eb0b8002ea0b6002e90b1be6
def K1:Cut:=nC 14 0x2eb0b8002ea0b64
def yQ:cH:=nI [K2,K1] 99 0x78e4078e7276434b2170097e2132104b0bbe213203b230792077e217643206b200078e21212b2392075e1161b2075e1161b29044200000e000e2c4e
def aEt:cH:=nI [] 10 0x41000d1c5e
def K0:Cut:=nC 8 0xa40b0ae2
def Cy:cH:=nI [K0] 31 0x7920bce21a2009ae11a2290108e2000d1c6e
def aEs:cH:=nI [] 40 0xbde40bde90beea0bde01e035e02e5a2098e1098e32a29031000d0d2c7e
def aEr:cH:=nI [] 34 0xbde40bde9035ea3a2098e1098e32a29031000d0d2c8e
def aEq:cH:=nI [] 25 0x98e1098e30bfe43a29011000d0d2c9e
def aEp:cH:=nI [] 17 0xc0e11a2901100001e1cae
def KZ:Cut:=nC 19 0xd58e0d59e2058e12059e130b01e3
def KY:Cut:=nC 8 0xa60b14e2
def vD:cH:=nI [KZ,KY] 35 0x17920bce21a200709ae51a2290102000d0d2cbe
def KX:Cut:=nC 5 0xb21
def KW:Cut:=nC 5 0xb21
def KV:Cut:=nC 5 0xb21
def KU:Cut:=nC 5 0xb21
def pT:cH:=nI [KX,KW,KV,KU] 67 0x370a5e0de0a5e14e2a2390279390170c0e21a2390070b2e0ce0b2e11e2a2057e41a23949299011000d1cce
def aL6:Cut:=nC 22 0xc59e106e10a030112059e130b01e3
def aL5:Cut:=nC 8 0x106e10a020
def a7J:cH:=nI [aL6,aL5] 42 0x170001b3070c1e8181b229011102106e0a20110010c39ee
def aL4:Cut:=nC 30 0x1a1922c5ae001e59e205ae140aa059e13008e80a95
def a7I:cH:=nI [aL4] 20 0x54929012200001e008e2cee
def a7H:cH:=nI [] 16 0x1101001e100100ee2a3e
def KT:Cut:=nC 5 0xb21
def Et:cH:=nI [KT] 14 0x79901100012e1d2e
def KS:Cut:=nC 5 0xb81
def Er:cH:=nI [KS] 20 0x79901100012e012e0a000e4d3e
def aL3:Cut:=nC 21 0x9e5ee10a1000e010de905ee18012e25
def aL2:Cut:=nC 24 0x9e5ee1000e005ee18012e20a110de90b30e6
def a7G:cH:=nI [aL3,aL2] 74 0x702b2006ae21a23179006ae31a23900602b239039006ae31a23944054001b290d04300012e0a000e3d4e
def KR:Cut:=nC 19 0x9e5ae00be58e205ae14058e120bd3
def Cw:cH:=nI [KR] 41 0x6ae21a23070c2ed1a2006ae21a2394290d1000b00be2d5e
def KQ:Cut:=nC 5 0xb21
def Eo:cH:=nI [KQ] 14 0x79901100012e1d6e
def wZ:Cut:=nC 8 0xa1000e02
def KP:Cut:=nC 11 0xa1000e00b00e3
def tK:cH:=nI [wZ,KP] 28 0x170ade81a2205429001000a000e2d7e
def aL1:Cut:=nC 33 0x9e60e00be5ee009e64e00be5be4060e1a05ee18064e100e0ad05be155
def a7F:cH:=nI [aL1] 82 0xace31a290aee21a20006ae31a230ade31a200700ace11a39290abe31a239006ae41a2394299990d001e3000a000e00be000e4d8e
def KO:Cut:=nC 11 0xe00a50b01e3
def KN:Cut:=nC 8 0xe00a52
def wY:Cut:=nC 11 0xa6000e00a53
def KM:Cut:=nC 14 0xa6000e00a50b12e4
def KL:Cut:=nC 11 0xa6000e00b27e3
def wX:Cut:=nC 11 0xa6000e00a73
def KK:Cut:=nC 14 0xa6000e00a70b39e4
def gX:cH:=nI [KO,KN,wY,KM,KL,wX,KK] 52 0x679429554920479299003792254291700792990144300000e1d9e
def aL0:Cut:=nC 8 0xe00b32
def aLZ:Cut:=nC 11 0xa4000e00b33
def aLY:Cut:=nC 11 0xa4000e00b33
def aLX:Cut:=nC 14 0xa4000e00b30b09e4
def a7E:cH:=nI [aL0,aLZ,aLY,aLX] 28 0x379225421799079904100000e1dae
def aEo:cH:=nI [] 19 0x75e1161b2900100000e1dbe
def A3:Cut:=nC 21 0x111217e5ae105ae140a6016e0000e14
def AJ:cH:=nI [A3] 20 0x54929010de200000e016e2dce
def aLW:Cut:=nC 14 0x104e8106e70a9104e54
def aLV:Cut:=nC 20 0x104e50a9004ea104e8106e70b22e6
def aLU:Cut:=nC 11 0x104e8106e70ac3
def aLT:Cut:=nC 11 0x104e8106e70ad3
def a7D:cH:=nI [aLW,aLV,aLU,aLT] 150 0x32104b20000102b230c3e7171b2429354920000102b23087e41a24292549200602b0702b2000102b23179204fe418653b242905492001b2001b2000102b239204fe115323b20212b2008a3000d1dde
def a7C:cH:=nI [] 28 0xc4e1039e3038e43322b2903100004e000e2dee
def aLS:Cut:=nC 27 0x1612d5ae105ae14004e1000e00a6000eb0b0ce6
def aLR:Cut:=nC 27 0x1612d5ae105ae14004e1000e00a6000eb0b2de6
def aLQ:Cut:=nC 24 0x1612d5ae105ae14004e1000e0004e70b64e5
def aLP:Cut:=nC 12 0x1612d5ae105ae141
def aLO:Cut:=nC 24 0x1612d5ae105ae14004e1000e00a60ba6e5
def a7B:cH:=nI [aLS,aLR,aLQ,aLO,aLP] 317 0x47000b5e70b5e92972b2000b5e7171b2392000b5e70b5e92972b239293379000b5e70b5e92972b239000b5e4141b239239000b5e70b5e92972b239000b5e4141b23923900c6e21212b23900c6e21212b23900c5e90b5eb2b92b20279204fe317543b200013e01a23923900c5e90b5eb2b92b2000c5e6013e70b5e93962b2392900099e21a2392317900c5e60b5e82862b2000c5e60b5e82862b2392900013e01a2392307900c5e60b5e82862b200013e01a23923949299013200004e000e2dfe
def wW:Cut:=nC 14 0xa50a70a1003e64
def KJ:Cut:=nC 17 0xa50a1003e60a70b0ce5
def tJ:cH:=nI [wW,KJ] 51 0xb7e81a4201792054920c7e1121b290006ce31a23929001000a0c2e0e
def wV:Cut:=nC 14 0xa50a70a1003e64
def KI:Cut:=nC 17 0xa50a1003e60a70b03e5
def tI:cH:=nI [wV,KI] 40 0xb8e71a4201792054920c7e1121b299001000a0c2e1e
def aLN:Cut:=nC 8 0xa00b03e2
def ii199:cH:=⟨⟨240,[(.val i6,false),(.val i6,false)],[],[],[.str],false⟩,(.s .n (.s (.s .n (.c (.s (.s .n (.d aLN (.c (.s (.r [] [] [(1,(215,[]))]) .n) .n))) (.s .n (.s .n (.s .n (.d ⟨[],[]⟩ (.s .n (.s (.r [4] [] []) .n))))))) .n)) (.s (.r [6,7,9] [] [(5,(214,[]))]) .n)))⟩
def aEn:cH:=nI [] 28 0x78e31322b2075e1161b2904100000e1e3e
def wU:Cut:=nC 17 0x102e50a7002e1002e00a65
def KH:Cut:=nC 20 0x102e5002e1002e00a70a60b08e6
def KG:Cut:=nC 17 0x2e1002e00a70a8102e55
def KF:Cut:=nC 17 0x2e1002e00a70a8102e55
def mY:cH:=nI [wU,KH,KG,KF] 56 0x102b2000502b237927994201792054929001b2001b216100002e002e2e4e
def AZ:Cut:=nC 14 0xa60b40a7002e54
def KE:Cut:=nC 5 0xa61
def vC:cH:=nI [AZ,KE] 31 0x17900549299075e1161b29010200000e1e5e
def aEm:cH:=nI [] 43 0xcae5078e6265434b2075e1161b2075e1161b2904100000e000e2e7e
def aEl:cH:=nI [] 88 0x97e3078e4243214b200097e3078e4243214b23096e2121b22000bbe3078e4243214b2392075e1161b2075e1161b2904100000e000e2e6e
def KD:Cut:=nC 19 0xd59e0d58e2059e13058e120b26e3
def Cv:cH:=nI [KD] 105 0xbfe81a290bfe81a200706de106de52a22000cee41a23900cde41a23900bde40bde90ccea3a23940cbe11a220000cbe10cbe32a2230cbe10cbe32a229001000d0d2e8e
def KC:Cut:=nC 5 0xb21
def En:cH:=nI [KC] 19 0x70cfe21a2901100001e1e9e
def a7A:cH:=nI [] 22 0xd0e21202b2901100001e006e29fe
def a7z:cH:=nI [] 17 0xcfe11a2901100000e1f1e
def AY:Cut:=nC 15 0x1e59e10a5059e13006e03
def AH:cH:=nI [AY] 19 0x5492901100001e006e26ce
def a7y:cH:=nI [] 20 0x20e1036e22a2903100000e1f2e
def a7x:cH:=nI [] 22 0xb5e21212b2903100004e000e2f3e
def a7w:cH:=nI [] 67 0xc5e70b5e92972b2000b5e8181b2390034e20b5e7271b2390034e11a239492903100004e0a000e000e4f4e
def aEk:cH:=nI [] 31 0x212b200001b2392011b2071000c16be
def aLM:Cut:=nC 26 0x10dea000eb00de00b40b301ce10a20b0ee8
def aLL:Cut:=nC 23 0x10dea000eb00de00b40b301ce10a27
def a7v:cH:=nI [aLM,aLL] 76 0x402b239200d900d0000c4290000c4299939200d9991700792001b20403e2000b0b0a01ce00de5f8e
def a7u:cH:=nI [] 10 0x41000a1f5e
def wT:Cut:=nC 19 0x466e1066e350a6002e1002e04
def wR:Cut:=nC 25 0x466e1066e35002e1002e00a60a80a76
def KB:Cut:=nC 28 0x466e1066e35002e1002e00a60a80a70b10e7
def KA:Cut:=nC 25 0x466e1066e35002e1002e00a60a80a96
def lE:cH:=nI [wT,wR,KB,KA] 62 0x95e1133e11210312000379942027921549942905492071b2001b206100002e002e2f9e
def aEj:cH:=nI [] 10 0x1000d1fae
def Kz:Cut:=nC 17 0x2e8002e60b50b70b05e5
def Ky:Cut:=nC 14 0x2e8002e60b50b0be4
def yP:cH:=nI [Kz,Ky] 65 0x96e212103b200096e212103b239031790307942075e1161b2075e1161b2900100000e000e2fbe
def a7t:cH:=nI [] 12 0x100000e000e2fce
def a7s:cH:=nI [] 30 0xcde41a2000cde41a2392900100001e001e2fde
def Kx:Cut:=nC 8 0xe00b08e2
def wQ:Cut:=nC 8 0xa3000e02
def Kw:Cut:=nC 11 0xe00a30b23e3
def oW:cH:=nI [Kx,wQ,Kw] 30 0x27994291549200792901100000e1fee
def aLK:Cut:=nC 18 0x1e59e10a8006e0059e130a74
def a7r:cH:=nI [aLK] 19 0x5492900100001e006e2cde
def insL:List (Nat×cH):=[(0,ii0),(1,aZE),(2,ii2),(3,GK),(4,aLq),(5,aLp),(6,aLo),(7,aZj),(8,aON),(9,aOM),(10,Kb),(11,EA),(12,aZD),(13,bE2),(14,bE1),(15,aZC),(16,bE0),(17,Ka),(18,bEZ),(19,aZB),(20,PP),(21,PO),(22,yC),(23,aZA),(24,bEY),(25,Sd),(26,Sc),(27,CV),(28,JZ),(29,Sb),(30,aZz),(31,sP),(32,aZy),(33,aZx),(34,bEX),(35,bEW),(36,bEV),(37,bEU),(38,bET),(39,bES),(40,bER),(41,bEQ),(42,bEP),(43,bEO),(44,aZw),(45,bEN),(46,aZv),(47,bEM),(48,bEL),(49,bEK),(50,bEJ),(51,bEI),(52,bEH),(53,bEG),(54,bEF),(55,bEE),(56,bED),(57,aZu),(58,aZt),(59,aZs),(60,bEC),(61,aZr),(62,aZq),(63,R9),(64,aZp),(65,aZo),(66,aZn),(67,aZm),(68,aZl),(69,aZk),(70,aZi),(71,bEB),(72,CU),(73,bEA),(74,bEz),(75,bEy),(76,bEx),(77,bEw),(78,bEv),(79,bEu),(80,bEt),(81,bEs),(82,bEr),(83,bEq),(84,bEp),(85,bEo),(86,bEn),(87,bEm),(88,bEl),(89,bEk),(90,aZh),(91,aZg),(92,CT),(93,bEj),(94,bEi),(95,bEh),(96,bEg),(97,bEf),(98,JY),(99,aZf),(100,aEE),(101,aED),(102,AN),(103,EC),(104,EB),(105,tP),(106,a8d),(107,a8c),(108,a8b),(109,a8a),(110,a79),(111,a78),(112,a77),(113,a76),(114,a75),(115,a74),(116,a73),(117,a72),(118,a71),(119,CC),(120,a70),(121,yU),(122,aEC),(123,Ez),(124,aEB),(125,a7Z),(126,Ey),(127,aEA),(128,rL),(129,CB),(130,a7Y),(131,pV),(132,AM),(133,rK),(134,vE),(135,CA),(136,AL),(137,Ew),(138,a7X),(139,a7W),(140,a7V),(141,a7U),(142,a7T),(143,a7S),(144,mA),(145,lZ),(146,lY),(147,tN),(148,Cz),(149,Ev),(150,a7R),(151,a7Q),(152,a7P),(153,a7O),(154,tM),(155,a7N),(156,a7M),(157,a7L),(158,aEz),(159,aEy),(160,mZ),(161,a7K),(162,kP),(163,tL),(164,AK),(165,pU),(166,aEx),(167,aEw),(168,Eu),(169,aEv),(170,aEu),(171,yQ),(172,aEt),(173,Cy),(174,aEs),(175,aEr),(176,aEq),(177,aEp),(178,vD),(179,pT),(180,a7J),(181,a7I),(182,a7H),(183,Et),(184,Er),(185,a7G),(186,Cw),(187,Eo),(188,tK),(189,a7F),(190,gX),(191,a7E),(192,aEo),(193,AJ),(194,a7D),(195,a7C),(196,a7B),(197,tJ),(198,tI),(199,ii199),(200,aEn),(201,mY),(202,vC),(203,aEm),(204,aEl),(205,Cv),(206,En),(207,a7A),(208,a7z),(209,AH),(210,a7y),(211,a7x),(212,a7w),(213,aEk),(214,a7v),(215,a7u),(216,lE),(217,aEj),(218,yP),(219,a7t),(220,a7s),(221,oW),(222,a7r)]
def bEa(a:Int):Option (List UInt8):=bif decide (a= -1)then some [45,49]else bif decide (a= -2)then some [45,50]else bif decide (a= -3)then some [45,51]else bif decide (100<=a)&&decide (a<1000)then some [UInt8.ofNat (48+a.toNat/100),UInt8.ofNat (48+a.toNat/10%10),UInt8.ofNat (48+a.toNat%10)]else none
def orcI:Fs:=⟨240,λa b=>bif decide (b=10)then bEa a else none,240,none⟩
def tpI:TP U0.D:=bAZ orcI (zF insL)
noncomputable def bR(L n:Nat):bU:=vJ U0 tpI (Dy Go.Rf.cdX insL) L n
end Go.TV
namespace Go.TV
open Go.AI Go.PI Go.Proofs
abbrev Ch:G.Y:=⟨[],[]⟩
abbrev rU:G.O:=⟨0,[],[],Ch,[],[]⟩
abbrev FJ:G.T:=⟨0,Ch,rU,[]⟩
abbrev zqF:G.F:=⟨Ch,[],0,FJ,FJ,FJ⟩
def bY:Nat->Nat->List UInt8
 |0,_=>[]
 |f+1,n=>UInt8.ofNat (n%128)::bY f (n/128)
def dT{a b:Nat}(h:a<b):decide ((a:Int)<(b:Int))=true:=bF (by omega)
def dF{a b:Nat}(h: ¬a<b):decide ((a:Int)<(b:Int))=false:=bG (by omega)
def pw:Nat->Nat->List Nat
 |0,_=>[]
 |f+1,n=>(n%2)::pw f (n/2)
def sK(m k:Nat)(h:k<=m): ∃q,m=q+k:=⟨m-k,by omega⟩
abbrev Nt:=kA->Rt
abbrev yR(n:Nat)(x:Den U0.D (.rc n)):TV U0.D:=⟨.rc n,x⟩
abbrev yS(n:Nat)(x:Den U0.D (.sl (.rc n))):TV U0.D:=⟨.sl (.rc n),x⟩
abbrev yI(x:Int):TV U0.D:=⟨.int .i64,x⟩
abbrev yB(x:Bool):TV U0.D:=⟨.bool,x⟩
abbrev yT(x:List UInt8):TV U0.D:=⟨.str,x⟩
section
variable(x:cH)(c:bU)(e:Cu)(L:Nat)(π:List Nat)(ct:Cut)
def cu:Cu:=⟨Dx U0 tpI c L,Ex U0 tpI c L⟩
noncomputable def xW:TC:=gL x.sk (lI Go.Rf.cdX x.sig.f)
noncomputable def xC:TC:=aJF (xW x) π
noncomputable def xK:Kt:=aEX U0 tpI x.sig (Au Go.Rf.cdX x.sig.f)
noncomputable def xT(K:Kt):Kt:=Du U0 (oG U0 tpI c e.D e.E (xC x π)) K
noncomputable def xF(d:kA):Rt:=oF U0 (cutOf x.sig) (λS M=>oG U0 tpI c e.D e.E (xW x) S M (xK x)) d
noncomputable def xA(K:Kt)(d:kA):Rt:=oF U0 ct (λS M=>oG U0 tpI c e.D e.E (xC x π) S M K) d
noncomputable def xL(K:Kt)(n:Nat)(d:kA):Rt:=Cq U0 ct (λS M K=>fK U0 tpI c L (xC x π) S M K) K n d
noncomputable def xD(K:Kt)(d:kA):Rt:=e.D ct (xC x π) d K
noncomputable def xE(K:Kt)(d:kA):Rt:=e.E ct (xC x π) d K
def bX(K:Kt):xD x (cu c L) π ct K=xA x c (cu c L) π ct K:=funext λd=>pW ct (λS M=>(bBd (T:=tpI) (c:=c) (L:=L) (xC x π) S M K).symm) d
def fV(K:Kt)(n:Nat):xL x c L π ct K (n+1)=xA x c (cu c L) π ct (iK U0 ct (xL x c L π ct K n) K):=funext λd=>pW ct (λS M=>(bBd (T:=tpI) (c:=c) (L:=L) (xC x π) S M _).symm) d
end
def rO: ∀{l:List (Nat×cH)} {i:Nat} {x:cH},rP l i=some x->(i,x)∈l
 |a::l,i,x,h=>by
  simp only[rP]at h;cases hb:Nat.beq a.1 i with
  |true=>
   rw[hb]at h;simp only[aI,aA]at h;have:=aE hb;subst this;subst h;exact aH ..
  |false=>rw[hb]at h;exact aG _ (rO h)
def aZF:(insL.all λx=>aKP orcI x.2.sig&&Nat.ble x.2.sig.bx.length 100&&Ef x.2.sig.bx.length x.2.sig.bx)=true:=by kernel_rfl
def cg{i:Nat}{x:cH}(hx:rP insL i=some x)(hf:(Nat.beq x.sig.f orcI.n||Nat.beq x.sig.f orcI.m)=false)(L n:Nat)(d:kA):bR L (n+1) i d=xF x (bR L n) (cu (bR L n) L) d:=by
 have hs:tpI.sig i=some x.sig:=by show zF insL i=_;unfold zF;rw[hx];rfl
 have hg:Dy Go.Rf.cdX insL i=some (gL x.sk (lI Go.Rf.cdX x.sig.f),Au Go.Rf.cdX x.sig.f):=by simp only[Dy,hx]
 have hb:(aKP tpI.orc x.sig&&Nat.ble x.sig.bx.length 100&&Ef x.sig.bx.length x.sig.bx)=true:=bJ.1 aZF _ (rO hx);have ho:aKI U0 tpI.orc x.sig d=none:=by
  rw[Bool.or_eq_false_iff]at hf;show aKI U0 orcI x.sig d=none;unfold aKI;rw[hf.1,hf.2];rfl
 show vJ U0 tpI (Dy Go.Rf.cdX insL) L (n+1) i d=_;simp only[vJ,hs,hg,hb,aI,ho];exact(pW _ (λS M=>bBd _ _ _ _) d).symm
def iW(n:Nt):List UInt8->Rt:=λx0=>n [yT x0]
def qO(n:Nt):Bool->Int->List UInt8->Rt:=λx0 x1 x2=>n [yB x0,yI x1,yT x2]
def Mh(n:Nt):Int->List UInt8->Rt:=λx0 x1=>n [yI x0,yT x1]
def dZ(n:Nt):List UInt8->Int->Rt:=λx0 x1=>n [yT x0,yI x1]
def lN(n:Nt):List Int->List Int->Rt:=λx0 x1=>n [⟨.sl i6,x0⟩,⟨.sl i6,x1⟩]
def B6(n:Nt):List Int->Int->Int->List Int->List Int->Rt:=λx0 x1 x2 x3 x4=>n [⟨.sl i6,x0⟩,yI x1,yI x2,⟨.sl i6,x3⟩,⟨.sl i6,x4⟩]
def gK(n:Nt):G.O->Rt:=λx0=>n [yR 2 x0]
def cS(n:Nt):Bool->Rt:=λx0=>n [yB x0]
def qN(n:Nt):List UInt8->List UInt8->Rt:=λx0 x1=>n [yT x0,yT x1]
def Mf(n:Nt):Bool->Int->Rt:=λx0 x1=>n [yB x0,yI x1]
def oE(n:Nt):G.O->G.O->Rt:=λx0 x1=>n [yR 2 x0,yR 2 x1]
def vZ(n:Nt):G.Y->Rt:=λx0=>n [yR 1 x0]
def B5(n:Nt):Bool->G.O->G.O->Rt:=λx0 x1 x2=>n [yB x0,yR 2 x1,yR 2 x2]
def Me(n:Nt):Int->Rt:=λx0=>n [⟨(.int .u8),x0⟩]
def B4(n:Nt):Bool->List UInt8->Int->Rt:=λx0 x1 x2=>n [yB x0,yT x1,yI x2]
def lM(n:Nt):Int->List UInt8->Int->Rt:=λx0 x1 x2=>n [yI x0,yT x1,yI x2]
def Md(n:Nt):Bool->Int->List UInt8->Int->Rt:=λx0 x1 x2 x3=>n [yB x0,yI x1,yT x2,yI x3]
def L9(n:Nt):G.T->Int->Rt:=λx0 x1=>n [yR 3 x0,yI x1]
def qM(n:Nt):List G.T->Int->Int->Int->Rt:=λx0 x1 x2 x3=>n [yS 3 x0,yI x1,yI x2,yI x3]
def L8(n:Nt):Bool->Int->List G.T->Int->Int->Rt:=λx0 x1 x2 x3 x4=>n [yB x0,yI x1,yS 3 x2,yI x3,yI x4]
def L6(n:Nt):Int->Rt:=λx0=>n [yI x0]
def iV(n:Nt):G.T->Rt:=λx0=>n [yR 3 x0]
def vX(n:Nt):Int->Int->Int->List Int->List Int->List Int->Rt:=λx0 x1 x2 x3 x4 x5=>n [yI x0,yI x1,yI x2,⟨.sl i6,x3⟩,⟨.sl i6,x4⟩,⟨.sl i6,x5⟩]
def L4(n:Nt):Bool->List UInt8->Rt:=λx0 x1=>n [yB x0,yT x1]
def lO(n:Nt):Rt:=n []
def Cc(n:Nt):List G.E->G.Y->Rt:=λx0 x1=>n [yS 15 x0,yR 1 x1]
def XY(n:Nt):List G.A->List UInt8->List UInt8->Rt:=λx0 x1 x2=>n [yS 8 x0,yT x1,yT x2]
def Mr(n:Nt):Int->G.P->Rt:=λx0 x1=>n [yI x0,yR 21 x1]
def X9(n:Nt):Int->G.Z->Rt:=λx0 x1=>n [yI x0,yR 0 x1]
def X8(n:Nt):List G.E->Int->G.Z->Rt:=λx0 x1 x2=>n [yS 15 x0,yI x1,yR 0 x2]
def aGM(n:Nt):G.Z->Rt:=λx0=>n [yR 0 x0]
def X6(n:Nt):G.T->List UInt8->Int->Rt:=λx0 x1 x2=>n [yR 3 x0,yT x1,yI x2]
def X4(n:Nt):List G.T->List G.T->Rt:=λx0 x1=>n [yS 3 x0,yS 3 x1]
def CF(n:Nt):List G.T->List G.T->Int->Rt:=λx0 x1 x2=>n [yS 3 x0,yS 3 x1,yI x2]
def X3(n:Nt):Bool->Int->Int->G.Z->G.O->Rt:=λx0 x1 x2 x3 x4=>n [yB x0,yI x1,yI x2,yR 0 x3,yR 2 x4]
def B9(n:Nt):Int->G.K->G.X->G.K->G.X->Rt:=λx0 x1 x2 x3 x4=>n [yI x0,yR 20 x1,yR 19 x2,yR 20 x3,yR 19 x4]
def B8(n:Nt):Bool->G.T->Rt:=λx0 x1=>n [yB x0,yR 3 x1]
def QH(n:Nt):List G.T->G.T->G.T->Rt:=λx0 x1 x2=>n [yS 3 x0,yR 3 x1,yR 3 x2]
def fC(i:Nat):Option cH:=match rP insL i with
  |some x=>bif Nat.beq x.sig.f orcI.n||Nat.beq x.sig.f orcI.m then none else some x
  |none=>none
def cz{i:Nat}{x:cH}(h:fC i=some x)(L n:Nat)(d:kA):bR L (n+1) i d=xF x (bR L n) (cu (bR L n) L) d:=by
  unfold fC at h
  split at h
  · rename_i y hy
    cases hb:Nat.beq y.sig.f orcI.n||Nat.beq y.sig.f orcI.m with
    |true=>rw[hb]at h;cases h
    |false=>rw[hb]at h;cases h;exact cg hy hb L n d
  · cases h
def cL{W:Type}(r:Rt)(K:G.T×Unit->Option W):Option W:=fY (D:=U0.D) [.rc 3] r K
def eA{W:Type}(r:Rt)(K:G.O×Unit->Option W):Option W:=fY (D:=U0.D) [.rc 2] r K
def eX{W:Type}(r:Rt)(K:Bool×Unit->Option W):Option W:=fY (D:=U0.D) [.bool] r K
def jQ{W:Type}(r:Rt)(K:List UInt8×Unit->Option W):Option W:=fY (D:=U0.D) [.str] r K
def jB{W:Type}(r:Rt)(K:Int×Unit->Option W):Option W:=fY (D:=U0.D) [.int .i64] r K
def mI{W:Type}(r:Rt)(K:G.T×G.Z×Unit->Option W):Option W:=fY (D:=U0.D) [.rc 3,.rc 0] r K
def sI{W:Type}(r:Rt)(K:G.X×Unit->Option W):Option W:=fY (D:=U0.D) [.rc 19] r K
def pL{W:Type}(r:Rt)(K:G.Y×Unit->Option W):Option W:=fY (D:=U0.D) [.rc 1] r K
def yA{W:Type}(r:Rt)(K:Bool×List Int×Unit->Option W):Option W:=fY (D:=U0.D) [.bool,.sl (.int .i64)] r K
def rB{W:Type}(r:Rt)(K:Int×G.Z×Unit->Option W):Option W:=fY (D:=U0.D) [.int .i64,.rc 0] r K
def rC{W:Type}(r:Rt)(K:List Int×Unit->Option W):Option W:=fY (D:=U0.D) [.sl (.int .i64)] r K
def uW{W:Type}(r:Rt)(K:List G.T×Unit->Option W):Option W:=fY (D:=U0.D) [.sl (.rc 3)] r K
def uV{W:Type}(r:Rt)(K:Int×Bool×Unit->Option W):Option W:=fY (D:=U0.D) [.int .i64,.bool] r K
def Eg{W:Type}(r:Rt)(K:G.O×Int×G.W×Unit->Option W):Option W:=fY (D:=U0.D) [.rc 2,.int .i64,.rc 18] r K
def PB{W:Type}(r:Rt)(K:G.O×G.X×G.P×Unit->Option W):Option W:=fY (D:=U0.D) [.rc 2,.rc 19,.rc 21] r K
def tG{W:Type}(r:Rt)(K:G.O×G.Z×Unit->Option W):Option W:=fY (D:=U0.D) [.rc 2,.rc 0] r K
end Go.TV
namespace Go.TV
open Go.AI Go.PI Go.Proofs
def wF{P:G.O->Prop}(h: ∀k n d s t l,(∀o∈l,P o)->P ⟨k,n,d,s,t,l⟩): ∀o,P o:=λo=>
 G.O.rec (motive_1:=P) (motive_2:=λl=> ∀o∈l,P o) (λk n d s t l ih=>h k n d s t l ih) (λo ho=>by cases ho)
  (λo l h1 h2 x hx=>by
   cases hx with
   |head=>exact h1
   |tail _ hx=>exact h2 x hx) o
noncomputable instance:DecidableEq G.O:=λa b=>Classical.propDecidable _
def bIQ:List UInt8:=[108,105,115,112]
def bCK:List UInt8:=[117,115,101,114]
def qG(s:G.Y):Bool:=(decide (s.package=bIQ)||decide (s.package=bCK))&&Nat.ble 1 s.name.length&&Nat.ble s.name.length 20
def bDp(s:G.Y):Bool:=qG s
def a24(t:List UInt8):Bool:=Nat.ble t.length 10
def numL:List (List UInt8×List UInt8):=[([48],[49]),([49],[49]),([50],[49]),([51],[49]),([45,49],[49]),([45,50],[49]),([45,51],[49]),([49],[50]),([45,53],[51])]
def bDq(n d:List UInt8):Bool:=numL.any λp=>decide (n=p.1)&&decide (d=p.2)
def wS(s:G.Y):Nat:=bif qG s then 0 else 1000000000
def RV{w:List UInt8}(h1:1<=w.length)(h2:w.length<=20):qG ⟨bCK,w⟩=true:=by simp[qG,Nat.ble_eq,h1,h2]
def aWZ{w:List UInt8}(h1:1<=w.length)(h2:w.length<=20):qG ⟨bIQ,w⟩=true:=by simp[qG,Nat.ble_eq,h1,h2]
def a5W{w:List UInt8}(h1:1<=w.length)(h2:w.length<=20):bDp ⟨bCK,w⟩=true:=RV h1 h2
def aJA(k:Int)(n d:List UInt8)(s:G.Y)(t:List UInt8)(l:List G.O):Bool:=
 decide (k=0)&&n.isEmpty&&d.isEmpty&&decide (s=⟨[],[]⟩)&&t.isEmpty&&l.isEmpty||decide (k=1)&&bDq n d&&decide (s=⟨[],[]⟩)&&t.isEmpty&&l.isEmpty||decide (k=2)&&qG s&&n.isEmpty&&d.isEmpty&&t.isEmpty&&l.isEmpty||
 decide (k=3)&&a24 t&&n.isEmpty&&d.isEmpty&&decide (s=⟨[],[]⟩)&&l.isEmpty||decide (k=4)&&n.isEmpty&&d.isEmpty&&decide (s=⟨[],[]⟩)&&t.isEmpty&&decide (l.length=2)
def Qv(k:Int)(n d:List UInt8)(s:G.Y)(t:List UInt8)(l:List G.O):Nat:=bif aJA k n d s t l then 0 else 1000000000
def a1t(s:G.Y):Qv 2 [] [] s [] []=wS s:=by
 unfold Qv aJA wS;cases qG s<;>rfl
def a1u(w:List UInt8)(h:a24 w=true):Qv 3 [] [] ⟨[],[]⟩ w []=0:=by
 unfold Qv aJA;rw[h];rfl
def vL(a b:G.O):Qv 4 [] [] ⟨[],[]⟩ [] [a,b]=0:=rfl
def BV(o:G.O):Nat:=bif decide (o.kind=0)then 1000000000 else 0
def sW(n d:List UInt8)(s:G.Y)(t:List UInt8)(l:List G.O):BV ⟨2,n,d,s,t,l⟩=0:=rfl
def a1v(n d:List UInt8)(s:G.Y)(t:List UInt8)(l:List G.O):BV ⟨3,n,d,s,t,l⟩=0:=rfl
def vM(n d:List UInt8)(s:G.Y)(t:List UInt8)(l:List G.O):BV ⟨4,n,d,s,t,l⟩=0:=rfl
mutual
def tW:G.O->Nat
 |⟨k,n,d,s,t,l⟩=>2+jA l+Qv k n d s t l
def jA:List G.O->Nat
 |[]=>0
 |o::l=>tW o+BV o+jA l+1
end
def RW{o:G.O}(h:tW o<1000000000):aJA o.kind o.num o.den o.sym o.text o.pair=true:=by
 cases o with|mk k n d s t l=>
 simp only[tW,Qv]at h;cases e:aJA k n d s t l with
 |true=>exact e
 |false=>rw[e,aJ]at h;omega
def fF{k:Nat}(h:k<4000000000000000000):IntKind.i64.wrap ((k:Int)+1)=((k+1:Nat):Int):=by
 unfold IntKind.wrap;simp[IntKind.bits,IntKind.signed];omega
def bW{N:Type}(l:List N)(k:Nat):dE l (k:Int)=l[k]?:=by
 unfold dE;have:decide (0<=(k:Int))=true:=by simp
 rw[this];rfl
def jY{W:Type}{b:Bool}{K:Bool×Unit->Option W}:eX (some [yB b]) K=K (b,()):=rfl
def cM{N W:Type}{x:N}{K:N->Option W}:ob (some x) K=K x:=rfl
def bP{W:Type}{A B:Option W}:bS true A B=A:=rfl
def bM{W:Type}{A B:Option W}:bS false A B=B:=rfl
def dL{N:Type}{l:List N}{k:Nat}{x:N}{r:List N}(h:l.drop k=x::r):l[k]?=some x/\k<l.length/\l.drop (k+1)=r:=by
 refine⟨?_,?_,?_⟩
 .rw[<-List.head?_drop,h];rfl
 .have:=congrArg List.length h;simp at this;omega
 .rw[<-List.tail_drop,h];rfl
def dH{N:Type}{l:List N}{k:Nat}(h:l.drop k=[]): ¬k<l.length:=by
 have:=congrArg List.length h;simp at this;omega
def oo(a b:G.O):kA:=[yR 2 a,yR 2 b]
def bb(b:Bool):kA:=[yB b]
def bAV(a:G.O):Prop:=tW a<1000000000
def WW: ∀(l:List G.O),l.length<=jA l
 |[]=>aS _
 |o::l=>by have:=WW l;simp only[aM,jA];omega
def C7: ∀{l:List G.O} {x:G.O},x∈l->tW x<=jA l
 |o::l,x,h=>by
  simp only[jA];cases h with
  |head=>omega
  |tail _ h=>have:=C7 h;omega
end Go.TV
namespace Go.TV
open Go.AI Go.PI Go.Proofs
def C3{P:G.T->Prop}(h: ∀k n v l,(∀o∈l,P o)->P ⟨k,n,v,l⟩): ∀o,P o:=λo=>
 G.T.rec (motive_1:=P) (motive_2:=λl=> ∀o∈l,P o) (λk n v l ih=>h k n v l ih) (λo ho=>by cases ho)
  (λo l h1 h2 x hx=>by
   cases hx with
   |head=>exact h1
   |tail _ hx=>exact h2 x hx) o
noncomputable instance:DecidableEq G.T:=λa b=>Classical.propDecidable _
def Pv(k:Int)(n:G.Y)(v:G.O)(l:List G.T):Bool:=
 decide (k=1)&&bDp n&&decide (v.kind=0)&&l.isEmpty||decide (k=2)&&decide (n=⟨[],[]⟩)&&l.isEmpty&& !decide (v.kind=0)||decide (k=3)&&qG n&&Nat.ble l.length 8&&decide (v.kind=0)
def LJ(k:Int)(n:G.Y)(v:G.O)(l:List G.T):Nat:=bif Pv k n v l then 0 else 1000000000
mutual
def jV:G.T->Nat
 |⟨k,n,v,l⟩=>4+tW v+eZ l+LJ k n v l
def eZ:List G.T->Nat
 |[]=>0
 |o::l=>jV o+eZ l+1
end
def Xd{t:G.T}(h:jV t<1000000000):Pv t.kind t.name t.value t.args=true:=by
 cases t with|mk k n v l=>
 simp only[jV,LJ]at h;cases e:Pv k n v l with
 |true=>exact e
 |false=>rw[e,aJ]at h;omega
def oH: ∀(l:List G.T),l.length<=eZ l
 |[]=>aS _
 |o::l=>by have:=oH l;simp only[aM,eZ];omega
def mM: ∀{l:List G.T} {x:G.T},x∈l->jV x<=eZ l
 |o::l,x,h=>by
  simp only[eZ];cases h with
  |head=>omega
  |tail _ h=>have:=mM h;omega
def a4e(a b:G.T):kA:=[yR 3 a,yR 3 b]
def bDL(a b:List G.T):kA:=[yS 3 a,yS 3 b]
def a3F(a:G.T):Prop:=jV a<1000000000
end Go.TV
namespace Go.TV
open Go.AI Go.PI Go.Proofs
def GG{W:Type}{b:List G.T}{K:List G.T×Unit->Option W}:uW (some [yS 3 b]) K=K (b,()):=rfl
def fA{W:Type}{A:Option W}:kV true A=A:=rfl
def aBm{k:Nat}(h:k<4000000000000000000):IntKind.i64.wrap (k:Int)=(k:Int):=by
 unfold IntKind.wrap;simp[IntKind.bits,IntKind.signed];omega
end Go.TV
namespace Go.TV
open Go.AI Go.PI Go.Proofs
set_option maxRecDepth 20000
noncomputable section
variable(c:bU)(e:Cu)(L:Nat)
def DS(c:bU)(e:Cu):Kt:=xK kP
def aCZ:Kt:=xT kP c e (pw 4 15) (DS c e)
def aCY:Kt:=xT kP c e (pw 6 47) (DS c e)
def aVZ:Kt:=xT kP c e (pw 7 111) (DS c e)
def IQ:Kt:=dK U0 0 (aVZ c e)
def aVY(n4:Nt):Kt:=iK U0 xH n4 (IQ c e)
def aVX(n4:Nt):Kt:=xT kP c e (pw 12 3247) (aVY c e n4)
def aCX(n4:Nt):Kt:=dK U0 1 (aVX c e n4)
def Vv(c:bU)(b:Bool->Int->List UInt8->Rt)(a:List UInt8):Rt:=
 bS (decide (a=[48])) (some [yB true]) (bS (decide ((0:Int)<(List.length a:Int))) (ob (dE a 0) λd=>
 b (decide ((d.toNat:Int)=45)) 0 a) (b false 0 a))
def M7(c:bU)(a:Int->List UInt8->Rt)(d:Bool)(f:Int)(b:List UInt8):Rt:=
 bS d (a 1 b) (a f b)
def TU:=qO (xD kP e (pw 6 23) La (aCZ c e))
def Vu(c:bU)(d:Bool->Int->List UInt8->Rt)(a:Int)(b:List UInt8):Rt:=
 bS (decide ((List.length b:Int)<=a)) (d true a b) (ob (dE b a) λf=>
 d (decide ((f.toNat:Int)=48)) a b)
def TR:=Mh (xD kP e (pw 5 15) K9 (DS c e))
def M6(c:bU)(a:List UInt8->Int->Rt)(b:Bool)(d:Int)(f:List UInt8):Rt:=
 bS b (some [yB false]) (a f d)
def TQ:=qO (xD kP e (pw 8 79) K8 (aCY c e))
def M5(c:bU)(d:Bool->Int->List UInt8->Rt)(a:List UInt8)(b:Int):Rt:=
 bS (decide (b<(List.length a:Int))) (ob (dE a b) λf=>
 bS (decide ((f.toNat:Int)<48)) (d true b a) (ob (dE a b) λg=>
 d (decide ((57:Int)<(g.toNat:Int))) b a)) (some [yB true])
def aGq:=dZ (xE kP e (pw 10 175) xH (IQ c e))
def M4(c:bU)(a:List UInt8->Int->Rt)(b:Bool)(d:Int)(f:List UInt8):Rt:=
 bS b (some [yB false]) (a f (IntKind.i64.wrap (d+1)))
def TO(n4:Nt):=qO (xD kP e (pw 15 9391) K7 (aCX c e n4))
def aTC:iW (xF kP c e)=Vv c (TU c e):=by kernel_rfl
def aTB:qO (xA kP c e (pw 6 23) La (aCZ c e))=M7 c (TR c e):=by kernel_rfl
def aTA:Mh (xA kP c e (pw 5 15) K9 (DS c e))=Vu c (TQ c e):=by kernel_rfl
def aTz:qO (xA kP c e (pw 8 79) K8 (aCY c e))=M6 c (aGq c e):=by kernel_rfl
def aTy(n4:Nt):dZ (xA kP c e (pw 10 175) xH (iK U0 xH n4 (IQ c e)))=M5 c (TO c e n4):=by kernel_rfl
def aTx(n4:Nt):qO (xA kP c e (pw 15 9391) K7 (aCX c e n4))=M4 c (dZ n4):=by kernel_rfl
def MC(L:Nat)(n4:List UInt8->Int->Rt):Bool->Int->List UInt8->Rt:=M4 c n4
def aYE(n4:Nt):TO c (cu c L) n4=MC c L (dZ n4):=by rw[TO,bX,aTx];rfl
def Ab(c:bU)(L:Nat):Nat->List UInt8->Int->Rt
 |0=>λ_ _=>none
 |n+1=>M5 c (MC c L (Ab c L n))
def aRC(n:Nat):dZ (xL kP c L (pw 10 175) xH (IQ c (cu c L)) n)=Ab c L n:=by
 induction n with
 |zero=>rfl
 |succ n ih=>rw[fV,aTy];simp only[aYE,ih];rfl
def aQY:aGq c (cu c L)=Ab c L L:=aRC c L L
def MD:Bool->Int->List UInt8->Rt:=M6 c (Ab c L L)
def aYF:TQ c (cu c L)=MD c L:=by rw[TQ,bX,aTz];simp only[aQY];rfl
def ME:Int->List UInt8->Rt:=Vu c (MD c L)
def aYG:TR c (cu c L)=ME c L:=by rw[TR,bX,aTA];simp only[aYF];rfl
def MF:Bool->Int->List UInt8->Rt:=M7 c (ME c L)
def aYH:TU c (cu c L)=MF c L:=by rw[TU,bX,aTB];simp only[aYG];rfl
def aNK:List UInt8->Rt:=Vv c (MF c L)
def bG3:iW (xF kP c (cu c L))=aNK c L:=by rw[aTC];simp only[aYH];rfl
def a9I(a:List UInt8)(L n:Nat):bR L (n+1) 162 [yT a]=aNK (bR L n) L a:=by rw[<-bG3];exact cz (x:=kP) (by kernel_rfl) L n _
def aVW(c:bU)(e:Cu):Kt:=xK tL
def aVV:Kt:=xT tL c e [1,1,1] (aVW c e)
def IP:Kt:=dK U0 0 (aVV c e)
def aVU(n1:Nt):Kt:=iK U0 xG n1 (IP c e)
def aCW(n1:Nt):Kt:=xT tL c e (pw 6 35) (aVU c e n1)
def Vt(c:bU)(b:List Int->Int->Rt)(a:List Int):Rt:=
 b a (List.length a:Int)
def aG0(n:Nt):List Int->Rt:=λx0=>n [⟨.sl i6,x0⟩]
def MZ(c:bU)(d:Bool->List Int->Int->Rt)(b:List Int)(a:Int):Rt:=
 bS (decide ((0:Int)<a)) (ob (dE b (IntKind.i64.wrap (a-1))) λf=>
 d (decide (f=0)) b a) (d false b a)
def Fm(n:Nt):List Int->Int->Rt:=λx0 x1=>n [⟨.sl i6,x0⟩,yI x1]
def aGp:=Fm (xE tL e (pw 5 3) xG (IP c e))
def FH(c:bU)(d:List Int->Int->Rt)(f:Bool)(a:List Int)(b:Int):Rt:=
 bS f (d a (IntKind.i64.wrap (b-1))) (ob (slc a 0 b) λg=>
 some [⟨.sl i6,g⟩])
def aGZ(n:Nt):Bool->List Int->Int->Rt:=λx0 x1 x2=>n [yB x0,⟨.sl i6,x1⟩,yI x2]
def TN(n1:Nt):=aGZ (xD tL e (pw 8 67) K6 (aCW c e n1))
def aTw:aG0 (xF tL c e)=Vt c (aGp c e):=by kernel_rfl
def aTv(n1:Nt):Fm (xA tL c e (pw 5 3) xG (iK U0 xG n1 (IP c e)))=MZ c (TN c e n1):=by kernel_rfl
def aTu(n1:Nt):aGZ (xA tL c e (pw 8 67) K6 (aCW c e n1))=FH c (Fm n1):=by kernel_rfl
def Fx(L:Nat)(n1:List Int->Int->Rt):Bool->List Int->Int->Rt:=FH c n1
def aYD(n1:Nt):TN c (cu c L) n1=Fx c L (Fm n1):=by rw[TN,bX,aTu];rfl
def Aa(c:bU)(L:Nat):Nat->List Int->Int->Rt
 |0=>λ_ _=>none
 |n+1=>MZ c (Fx c L (Aa c L n))
def aRB(n:Nat):Fm (xL tL c L (pw 5 3) xG (IP c (cu c L)) n)=Aa c L n:=by
 induction n with
 |zero=>rfl
 |succ n ih=>rw[fV,aTv];simp only[aYD,ih];rfl
def aQX:aGp c (cu c L)=Aa c L L:=aRB c L L
def aNJ:List Int->Rt:=Vt c (Aa c L L)
def bG2:aG0 (xF tL c (cu c L))=aNJ c L:=by rw[aTw];simp only[aQX];rfl
def a9H(a:List Int)(L n:Nat):bR L (n+1) 163 [⟨.sl i6,a⟩]=aNJ (bR L n) L a:=by rw[<-bG2];exact cz (x:=tL) (by kernel_rfl) L n _
def aVT(c:bU)(e:Cu):Kt:=xK AK
def aVS:Kt:=xT AK c e [1,1,1] (aVT c e)
def Rw:Kt:=dK U0 0 (aVS c e)
def Vs(c:bU)(d:List Int->List Int->Int->Rt)(a:List Int)(b:List Int):Rt:=
 bS (!decide ((List.length a:Int)=(List.length b:Int))) (bS (decide ((List.length a:Int)<(List.length b:Int))) (some [yI (-1)]) (some [yI 1])) (d a b (IntKind.i64.wrap ((List.length a:Int)-1)))
def MY(c:bU)(f:List Int->List Int->Int->Rt)(b:List Int)(d:List Int)(a:Int):Rt:=
 bS (decide ((0:Int)<=a)) (ob (dE b a) λg=>
 ob (dE d a) λh=>
 bS (decide (g<h)) (some [yI (-1)]) (ob (dE b a) λi=>
 ob (dE d a) λj=>
 bS (decide (j<i)) (some [yI 1]) (f b d (IntKind.i64.wrap (a-1))))) (some [yI 0])
def Mg(n:Nt):List Int->List Int->Int->Rt:=λx0 x1 x2=>n [⟨.sl i6,x0⟩,⟨.sl i6,x1⟩,yI x2]
def aGo:=Mg (xE AK e (pw 6 11) A4 (Rw c e))
def aTt:lN (xF AK c e)=Vs c (aGo c e):=by kernel_rfl
def aTs(n1:Nt):Mg (xA AK c e (pw 6 11) A4 (iK U0 A4 n1 (Rw c e)))=MY c (Mg n1):=by kernel_rfl
def zZ(c:bU)(L:Nat):Nat->List Int->List Int->Int->Rt
 |0=>λ_ _ _=>none
 |n+1=>MY c (zZ c L n)
def aRA(n:Nat):Mg (xL AK c L (pw 6 11) A4 (Rw c (cu c L)) n)=zZ c L n:=by
 induction n with
 |zero=>rfl
 |succ n ih=>rw[fV,aTs];simp only[ih];rfl
def aQW:aGo c (cu c L)=zZ c L L:=aRA c L L
def aNI:List Int->List Int->Rt:=Vs c (zZ c L L)
def bG1:lN (xF AK c (cu c L))=aNI c L:=by rw[aTt];simp only[aQW];rfl
def a9G(a:List Int)(b:List Int)(L n:Nat):bR L (n+1) 164 [⟨.sl i6,a⟩,⟨.sl i6,b⟩]=aNI (bR L n) L a b:=by rw[<-bG1];exact cz (x:=AK) (by kernel_rfl) L n _
def aVR(c:bU)(e:Cu):Kt:=xK pU
def aVQ:Kt:=xT pU c e (pw 4 15) (aVR c e)
def IN:Kt:=dK U0 0 (aVQ c e)
def aVP(n1:Nt):Kt:=iK U0 xB n1 (IN c e)
def aVO(n1:Nt):Kt:=xT pU c e (pw 9 407) (aVP c e n1)
def IM(n1:Nt):Kt:=dK U0 1 (aVO c e n1)
def Vr(c:bU)(a:List Int->Int->List Int->Int->List Int->Rt)(b:List Int)(d:List Int):Rt:=
 a b 0 d 0 ([]:List Int)
def MX(g:List Int->Int->Int->List Int->List Int->Rt)(b:List Int)(h:Int)(d:List Int)(a:Int)(f:List Int):Rt:=
 bS (decide (a<(List.length b:Int))) (ob (dE b a) λi=>
 bS (decide (a<(List.length d:Int))) (ob (dE d a) λj=>
 g f (IntKind.i64.wrap ((IntKind.i64.wrap (i-h))-j)) a b d) (g f (IntKind.i64.wrap (i-h)) a b d)) (rC (c 163 [⟨.sl i6,f⟩]) λl=>
 some [⟨.sl i6,l.1⟩])
def B7(n:Nt):List Int->Int->List Int->Int->List Int->Rt:=λx0 x1 x2 x3 x4=>n [⟨.sl i6,x0⟩,yI x1,⟨.sl i6,x2⟩,yI x3,⟨.sl i6,x4⟩]
def aGn:=B7 (xE pU e (pw 7 23) xB (IN c e))
def Vq(c:bU)(b:List Int->Int->Int->List Int->Int->List Int->Rt)(d:List Int)(a:Int)(f:Int)(g:List Int)(h:List Int):Rt:=
 bS (decide (a<0)) (b d (IntKind.i64.wrap (a+10)) f g 1 h) (b d a f g 0 h)
def TL(n1:Nt):=B6 (xD pU e (pw 13 3223) K5 (IM c e n1))
def MW(c:bU)(d:List Int->Int->List Int->Int->List Int->Rt)(a:List Int)(b:Int)(f:Int)(g:List Int)(h:Int)(i:List Int):Rt:=
 kV (Nat.ble ((List.length a+List.length ([b]:List Int))*8) 1073741824)<|
 d g h i (IntKind.i64.wrap (f+1)) (a++([b]:List Int))
def aGY(n:Nt):List Int->Int->Int->List Int->Int->List Int->Rt:=λx0 x1 x2 x3 x4 x5=>n [⟨.sl i6,x0⟩,yI x1,yI x2,⟨.sl i6,x3⟩,yI x4,⟨.sl i6,x5⟩]
def TJ(n1:Nt):=aGY (xD pU e (pw 16 27799) K4 (IM c e n1))
def aTr:lN (xF pU c e)=Vr c (aGn c e):=by kernel_rfl
def aTq(n1:Nt):B7 (xA pU c e (pw 7 23) xB (iK U0 xB n1 (IN c e)))=MX c (TL c e n1):=by kernel_rfl
def aTp(n1:Nt):B6 (xA pU c e (pw 13 3223) K5 (IM c e n1))=Vq c (TJ c e n1):=by kernel_rfl
def aTo(n1:Nt):aGY (xA pU c e (pw 16 27799) K4 (IM c e n1))=MW c (B7 n1):=by kernel_rfl
def MA(L:Nat)(n1:List Int->Int->List Int->Int->List Int->Rt):List Int->Int->Int->List Int->Int->List Int->Rt:=MW c n1
def aYB(n1:Nt):TJ c (cu c L) n1=MA c L (B7 n1):=by rw[TJ,bX,aTo];rfl
def MB(n1:List Int->Int->List Int->Int->List Int->Rt):List Int->Int->Int->List Int->List Int->Rt:=Vq c (MA c L n1)
def aYC(n1:Nt):TL c (cu c L) n1=MB c L (B7 n1):=by rw[TL,bX,aTp];simp only[aYB];rfl
def vW(c:bU)(L:Nat):Nat->List Int->Int->List Int->Int->List Int->Rt
 |0=>λ_ _ _ _ _=>none
 |n+1=>MX c (MB c L (vW c L n))
def aRz(n:Nat):B7 (xL pU c L (pw 7 23) xB (IN c (cu c L)) n)=vW c L n:=by
 induction n with
 |zero=>rfl
 |succ n ih=>rw[fV,aTq];simp only[aYC,ih];rfl
def aQV:aGn c (cu c L)=vW c L L:=aRz c L L
def aNH:List Int->List Int->Rt:=Vr c (vW c L L)
def bG0:lN (xF pU c (cu c L))=aNH c L:=by rw[aTr];simp only[aQV];rfl
def a9F(a:List Int)(b:List Int)(L n:Nat):bR L (n+1) 165 [⟨.sl i6,a⟩,⟨.sl i6,b⟩]=aNH (bR L n) L a b:=by rw[<-bG0];exact cz (x:=pU) (by kernel_rfl) L n _
def aIS(a:G.O):Rt:=
 bS (decide (a.kind=1)) (some [yR 2 a]) (eA (c 66 [yI 0]) λb=>
 some [yR 2 b.1])
def aNG(L:Nat):G.O->Rt:=aIS c
def bGZ:gK (xF aEx c (cu c L))=aNG c L:=by kernel_rfl
def a9E(a:G.O)(L n:Nat):bR L (n+1) 166 [yR 2 a]=aNG (bR L n) L a:=by rw[<-bGZ];exact cz (x:=aEx) (by kernel_rfl) L n _
def aIR(a:Bool):Rt:=
 bS a (eA (c 65 []) λb=>
 some [yR 2 b.1]) (eA (c 33 []) λd=>
 some [yR 2 d.1])
def aNF(L:Nat):Bool->Rt:=aIR c
def bGY:cS (xF aEw c (cu c L))=aNF c L:=by kernel_rfl
def a9D(a:Bool)(L n:Nat):bR L (n+1) 167 [yB a]=aNF (bR L n) L a:=by rw[<-bGY];exact cz (x:=aEw) (by kernel_rfl) L n _
def aCV(c:bU)(e:Cu):Kt:=xK Eu
def Vp(c:bU)(a:Bool->Rt)(b:G.O):Rt:=
 bS (decide (b.kind=1)) (a (decide (b.den=[49]))) (a false)
def aIQ(c:bU)(a:Bool):Rt:=
 some [yB a]
def TI:=cS (xD Eu e [1,1,0] K3 (aCV c e))
def aTn:gK (xF Eu c e)=Vp c (TI c e):=by kernel_rfl
def aTm:cS (xA Eu c e [1,1,0] K3 (aCV c e))=aIQ c:=by kernel_rfl
def aHE(L:Nat):Bool->Rt:=aIQ c
def aYA:TI c (cu c L)=aHE c L:=by rw[TI,bX,aTm];rfl
def aNE:G.O->Rt:=Vp c (aHE c L)
def bGX:gK (xF Eu c (cu c L))=aNE c L:=by rw[aTn];simp only[aYA];rfl
def a9C(a:G.O)(L n:Nat):bR L (n+1) 168 [yR 2 a]=aNE (bR L n) L a:=by rw[<-bGX];exact cz (x:=Eu) (by kernel_rfl) L n _
def aIP(b:G.O):Rt:=
 eA (c 166 [yR 2 b]) λa=>
 jQ (c 200 [yT a.1.num]) λd=>
 eA (c 67 [yT d.1,yT a.1.den]) λf=>
 some [yR 2 f.1]
def aND(L:Nat):G.O->Rt:=aIP c
def bGW:gK (xF aEv c (cu c L))=aND c L:=by kernel_rfl
def a9B(a:G.O)(L n:Nat):bR L (n+1) 169 [yR 2 a]=aND (bR L n) L a:=by rw[<-bGW];exact cz (x:=aEv) (by kernel_rfl) L n _
def aIO(b:G.O):Rt:=
 eA (c 166 [yR 2 b]) λa=>
 eA (c 67 [yT a.1.den,yT a.1.num]) λd=>
 some [yR 2 d.1]
def aNC(L:Nat):G.O->Rt:=aIO c
def bGV:gK (xF aEu c (cu c L))=aNC c L:=by kernel_rfl
def a9A(a:G.O)(L n:Nat):bR L (n+1) 170 [yR 2 a]=aNC (bR L n) L a:=by rw[<-bGV];exact cz (x:=aEu) (by kernel_rfl) L n _
def Rv(c:bU)(e:Cu):Kt:=xK yQ
def aCU:Kt:=xT yQ c e (pw 6 63) (Rv c e)
def Vo(f:Bool->List Int->Bool->List Int->Bool->List Int->Rt)(g:List UInt8)(h:List UInt8):Rt:=
 yA (c 131 [yT g]) λb=>
 yA (c 131 [yT h]) λa=>
 bS (decide ((List.length a.2.1:Int)=0)) (jQ (c 134 [yB b.1,⟨.sl i6,b.2.1⟩]) λi=>
 some [yT [48],yT i.1]) (fY [.sl i6,.sl i6] (c 133 [⟨.sl i6,b.2.1⟩,⟨.sl i6,a.2.1⟩]) λ(d:List Int×List Int×Unit)=>
 bS (!(b.1==a.1)) (f (decide ((0:Int)<(List.length d.2.1:Int))) a.2.1 b.1 d.1 a.1 d.2.1) (f false a.2.1 b.1 d.1 a.1 d.2.1))
def FG(a:Bool->List Int->Bool->List Int->Rt)(h:Bool)(i:List Int)(b:Bool)(d:List Int)(f:Bool)(g:List Int):Rt:=
 bS h (rC (c 201 [⟨.sl i6,d⟩,⟨.sl i6,([(1:Int)]:List Int)⟩]) λj=>
 rC (c 165 [⟨.sl i6,i⟩,⟨.sl i6,g⟩]) λl=>
 a b j.1 f l.1) (a b d f g)
def aGX(n:Nt):Bool->List Int->Bool->List Int->Bool->List Int->Rt:=λx0 x1 x2 x3 x4 x5=>n [yB x0,⟨.sl i6,x1⟩,yB x2,⟨.sl i6,x3⟩,yB x4,⟨.sl i6,x5⟩]
def TH:=aGX (xD yQ e (pw 8 95) K2 (aCU c e))
def FF(b:Bool)(d:List Int)(a:Bool)(f:List Int):Rt:=
 jQ (c 134 [yB (!(b==a)),⟨.sl i6,d⟩]) λg=>
 jQ (c 134 [yB a,⟨.sl i6,f⟩]) λh=>
 some [yT g.1,yT h.1]
def aGW(n:Nt):Bool->List Int->Bool->List Int->Rt:=λx0 x1 x2 x3=>n [yB x0,⟨.sl i6,x1⟩,yB x2,⟨.sl i6,x3⟩]
def TG:=aGW (xD yQ e (pw 7 63) K1 (Rv c e))
def aTl:qN (xF yQ c e)=Vo c (TH c e):=by kernel_rfl
def aTk:aGX (xA yQ c e (pw 8 95) K2 (aCU c e))=FG c (TG c e):=by kernel_rfl
def aTj:aGW (xA yQ c e (pw 7 63) K1 (Rv c e))=FF c:=by kernel_rfl
def Fv(L:Nat):Bool->List Int->Bool->List Int->Rt:=FF c
def aYy:TG c (cu c L)=Fv c L:=by rw[TG,bX,aTj];rfl
def Fw:Bool->List Int->Bool->List Int->Bool->List Int->Rt:=FG c (Fv c L)
def aYz:TH c (cu c L)=Fw c L:=by rw[TH,bX,aTk];simp only[aYy];rfl
def aNB:List UInt8->List UInt8->Rt:=Vo c (Fw c L)
def bGU:qN (xF yQ c (cu c L))=aNB c L:=by rw[aTl];simp only[aYz];rfl
def a9z(a:List UInt8)(b:List UInt8)(L n:Nat):bR L (n+1) 171 [yT a,yT b]=aNB (bR L n) L a b:=by rw[<-bGU];exact cz (x:=yQ) (by kernel_rfl) L n _
def aIN(c:bU)(a:G.O):Rt:=
 bS (decide (a.kind=3)) (some [yT a.text]) (some [yT []])
def aNA(L:Nat):G.O->Rt:=aIN c
def bGT:gK (xF aEt c (cu c L))=aNA c L:=by kernel_rfl
def a9y(a:G.O)(L n:Nat):bR L (n+1) 172 [yR 2 a]=aNA (bR L n) L a:=by rw[<-bGT];exact cz (x:=aEt) (by kernel_rfl) L n _
def aVN(c:bU)(e:Cu):Kt:=xK Cy
def aCT:Kt:=xT Cy c e (pw 4 15) (aVN c e)
def Vn(b:Bool->Int->Rt)(d:G.O):Rt:=
 eX (c 168 [yR 2 d]) λf=>
 bS (!f.1) (some [⟨(.int .u8),0⟩,yB false]) (uV (c 202 [yT d.num]) λa=>
 bS (!a.2.1) (b true a.1) (bS (decide (a.1<0)) (b true a.1) (b (decide ((255:Int)<a.1)) a.1)))
def Vm(c:bU)(a:Bool)(b:Int):Rt:=
 bS a (some [⟨(.int .u8),0⟩,yB false]) (some [⟨(.int .u8),(IntKind.u8.wrap b)⟩,yB true])
def TF:=Mf (xD Cy e (pw 6 23) K0 (aCT c e))
def aTi:gK (xF Cy c e)=Vn c (TF c e):=by kernel_rfl
def aTh:Mf (xA Cy c e (pw 6 23) K0 (aCT c e))=Vm c:=by kernel_rfl
def UH(L:Nat):Bool->Int->Rt:=Vm c
def aYx:TF c (cu c L)=UH c L:=by rw[TF,bX,aTh];rfl
def aNz:G.O->Rt:=Vn c (UH c L)
def bGS:gK (xF Cy c (cu c L))=aNz c L:=by rw[aTi];simp only[aYx];rfl
def a9x(a:G.O)(L n:Nat):bR L (n+1) 173 [yR 2 a]=aNz (bR L n) L a:=by rw[<-bGS];exact cz (x:=Cy) (by kernel_rfl) L n _
def aIM(d:G.O)(f:G.O):Rt:=
 eA (c 166 [yR 2 d]) λa=>
 eA (c 166 [yR 2 f]) λb=>
 jQ (c 203 [yT a.1.num,yT b.1.den]) λg=>
 jQ (c 203 [yT b.1.num,yT a.1.den]) λh=>
 jQ (c 204 [yT g.1,yT h.1]) λi=>
 jQ (c 203 [yT a.1.den,yT b.1.den]) λj=>
 eA (c 67 [yT i.1,yT j.1]) λl=>
 some [yR 2 l.1]
def aNy(L:Nat):G.O->G.O->Rt:=aIM c
def bGR:oE (xF aEs c (cu c L))=aNy c L:=by kernel_rfl
def a9w(a:G.O)(b:G.O)(L n:Nat):bR L (n+1) 174 [yR 2 a,yR 2 b]=aNy (bR L n) L a b:=by rw[<-bGR];exact cz (x:=aEs) (by kernel_rfl) L n _
def aIL(d:G.O)(f:G.O):Rt:=
 eA (c 166 [yR 2 d]) λa=>
 eA (c 166 [yR 2 f]) λb=>
 jQ (c 203 [yT a.1.num,yT b.1.num]) λg=>
 jQ (c 203 [yT a.1.den,yT b.1.den]) λh=>
 eA (c 67 [yT g.1,yT h.1]) λi=>
 some [yR 2 i.1]
def aNx(L:Nat):G.O->G.O->Rt:=aIL c
def bGQ:oE (xF aEr c (cu c L))=aNx c L:=by kernel_rfl
def a9v(a:G.O)(b:G.O)(L n:Nat):bR L (n+1) 175 [yR 2 a,yR 2 b]=aNx (bR L n) L a b:=by rw[<-bGQ];exact cz (x:=aEr) (by kernel_rfl) L n _
def aIK(a:G.O)(b:G.O):Rt:=
 eA (c 166 [yR 2 a]) λd=>
 eA (c 166 [yR 2 b]) λf=>
 jB (c 205 [yR 2 d.1,yR 2 f.1]) λg=>
 some [yB (decide (g.1<0))]
def aNw(L:Nat):G.O->G.O->Rt:=aIK c
def bGP:oE (xF aEq c (cu c L))=aNw c L:=by kernel_rfl
def a9u(a:G.O)(b:G.O)(L n:Nat):bR L (n+1) 176 [yR 2 a,yR 2 b]=aNw (bR L n) L a b:=by rw[<-bGP];exact cz (x:=aEq) (by kernel_rfl) L n _
def aIJ(a:G.Y):Rt:=
 eX (c 206 [yR 1 a]) λb=>
 some [yB b.1]
def aNv(L:Nat):G.Y->Rt:=aIJ c
def bGO:vZ (xF aEp c (cu c L))=aNv c L:=by kernel_rfl
def a9t(a:G.Y)(L n:Nat):bR L (n+1) 177 [yR 1 a]=aNv (bR L n) L a:=by rw[<-bGO];exact cz (x:=aEp) (by kernel_rfl) L n _
def aCS(c:bU)(e:Cu):Kt:=xK vD
def aCR:Kt:=xT vD c e [1,1] (aCS c e)
def aCQ:Kt:=xT vD c e (pw 4 15) (aCS c e)
def Vl(d:Bool->G.O->G.O->Rt)(a:G.O)(b:G.O):Rt:=
 bS (!decide (a.kind=3)) (d true b a) (eX (c 168 [yR 2 b]) λf=>
 d (!f.1) b a)
def Vk(b:Bool->Int->Rt)(d:Bool)(f:G.O)(g:G.O):Rt:=
 bS d (some [yI 0,yB false]) (uV (c 202 [yT f.num]) λa=>
 bS (!a.2.1) (b true a.1) (bS (decide (a.1<0)) (b true a.1) (b (decide ((List.length g.text:Int)<=a.1)) a.1)))
def TE:=B5 (xD vD e (pw 4 5) KZ (aCR c e))
def Vj(c:bU)(a:Bool)(b:Int):Rt:=
 bS a (some [yI 0,yB false]) (some [yI b,yB true])
def TD:=Mf (xD vD e (pw 6 23) KY (aCQ c e))
def aTg:oE (xF vD c e)=Vl c (TE c e):=by kernel_rfl
def aTf:B5 (xA vD c e (pw 4 5) KZ (aCR c e))=Vk c (TD c e):=by kernel_rfl
def aTe:Mf (xA vD c e (pw 6 23) KY (aCQ c e))=Vj c:=by kernel_rfl
def UF(L:Nat):Bool->Int->Rt:=Vj c
def aYv:TD c (cu c L)=UF c L:=by rw[TD,bX,aTe];rfl
def UG:Bool->G.O->G.O->Rt:=Vk c (UF c L)
def aYw:TE c (cu c L)=UG c L:=by rw[TE,bX,aTf];simp only[aYv];rfl
def aNu:G.O->G.O->Rt:=Vl c (UG c L)
def bGN:oE (xF vD c (cu c L))=aNu c L:=by rw[aTg];simp only[aYw];rfl
def a9s(a:G.O)(b:G.O)(L n:Nat):bR L (n+1) 178 [yR 2 a,yR 2 b]=aNu (bR L n) L a b:=by rw[<-bGN];exact cz (x:=vD) (by kernel_rfl) L n _
def aVM(c:bU)(e:Cu):Kt:=xK pT
def aVL:Kt:=xT pT c e [1,1,1] (aVM c e)
def uJ:Kt:=dK U0 0 (aVL c e)
def Vi(b:Bool->Rt)(f:Bool->Rt)(g:Bool->Rt)(d:Bool->Rt)(a:G.O):Rt:=
 bS (decide (a.kind=1)) (fY [.str,.str] (c 101 [yT a.num,yT a.den]) λ(h:List UInt8×List UInt8×Unit)=>
 bS (decide (a.sym=Ch)) (bS (decide (a.text=[])) (bS (decide ((List.length a.pair:Int)=0)) (bS (decide (h.1=a.num)) (bS (decide (h.2.1=a.den)) (jB (c 192 [yT h.1]) λi=>
 bS (decide (i.1<=100)) (jB (c 192 [yT h.2.1]) λj=>
 b (decide (j.1<=100))) (b false)) (b false)) (b false)) (b false)) (b false)) (b false)) (bS (decide (a.kind=2)) (eX (c 206 [yR 1 a.sym]) λl=>
 bS l.1 (bS (decide (a.num=[])) (bS (decide (a.den=[])) (bS (decide (a.text=[])) (f (decide ((List.length a.pair:Int)=0))) (f false)) (f false)) (f false)) (f false)) (bS (decide (a.kind=3)) (bS (decide (a.sym=Ch)) (bS (decide (a.num=[])) (bS (decide (a.den=[])) (bS (decide ((List.length a.text:Int)<=200)) (g (decide ((List.length a.pair:Int)=0))) (g false)) (g false)) (g false)) (g false)) (bS (decide (a.kind=4)) (bS (decide (a.sym=Ch)) (bS (decide (a.num=[])) (bS (decide (a.den=[])) (bS (decide (a.text=[])) (bS (decide ((List.length a.pair:Int)=2)) (ob (dE a.pair 0) λm=>
 eX (c 179 [yR 2 m]) λo=>
 bS o.1 (ob (dE a.pair 1) λp=>
 eX (c 179 [yR 2 p]) λq=>
 d q.1) (d false)) (d false)) (d false)) (d false)) (d false)) (d false)) (some [yB false]))))
def Vh(c:bU)(a:Bool):Rt:=
 some [yB a]
def TB:=cS (xD pT e (pw 10 427) KX (uJ c e))
def Vg(c:bU)(a:Bool):Rt:=
 some [yB a]
def TA:=cS (xD pT e (pw 11 747) KW (uJ c e))
def Vf(c:bU)(a:Bool):Rt:=
 some [yB a]
def Tz:=cS (xD pT e (pw 13 3051) KV (uJ c e))
def Ve(c:bU)(a:Bool):Rt:=
 some [yB a]
def Tx:=cS (xD pT e (pw 15 12267) KU (uJ c e))
def aTd:gK (xF pT c e)=Vi c (TB c e) (TA c e) (Tz c e) (Tx c e):=by kernel_rfl
def aTc:cS (xA pT c e (pw 10 427) KX (uJ c e))=Vh c:=by kernel_rfl
def aTb:cS (xA pT c e (pw 11 747) KW (uJ c e))=Vg c:=by kernel_rfl
def aTa:cS (xA pT c e (pw 13 3051) KV (uJ c e))=Vf c:=by kernel_rfl
def aS9:cS (xA pT c e (pw 15 12267) KU (uJ c e))=Ve c:=by kernel_rfl
def UE(L:Nat):Bool->Rt:=Vh c
def aYu:TB c (cu c L)=UE c L:=by rw[TB,bX,aTc];rfl
def UD(L:Nat):Bool->Rt:=Vg c
def aYt:TA c (cu c L)=UD c L:=by rw[TA,bX,aTb];rfl
def UC(L:Nat):Bool->Rt:=Vf c
def aYs:Tz c (cu c L)=UC c L:=by rw[Tz,bX,aTa];rfl
def UB(L:Nat):Bool->Rt:=Ve c
def aYr:Tx c (cu c L)=UB c L:=by rw[Tx,bX,aS9];rfl
def aNt:G.O->Rt:=Vi c (UE c L) (UD c L) (UC c L) (UB c L)
def bGM:gK (xF pT c (cu c L))=aNt c L:=by rw[aTd];simp only[aYu,aYt,aYs,aYr];rfl
def a9r(a:G.O)(L n:Nat):bR L (n+1) 179 [yR 2 a]=aNt (bR L n) L a:=by rw[<-bGM];exact cz (x:=pT) (by kernel_rfl) L n _
def aCO(c:bU)(e:Cu):Kt:=xK Et
def Vd(c:bU)(a:Bool->Rt)(b:Int):Rt:=
 bS (decide (b=32)) (a true) (bS (decide (b=9)) (a true) (bS (decide (b=10)) (a true) (a (decide (b=13)))))
def Vc(c:bU)(a:Bool):Rt:=
 some [yB a]
def Tw:=cS (xD Et e [1,1,0] KT (aCO c e))
def aS8:Me (xF Et c e)=Vd c (Tw c e):=by kernel_rfl
def aS7:cS (xA Et c e [1,1,0] KT (aCO c e))=Vc c:=by kernel_rfl
def UA(L:Nat):Bool->Rt:=Vc c
def aYq:Tw c (cu c L)=UA c L:=by rw[Tw,bX,aS7];rfl
def a2h:Int->Rt:=Vd c (UA c L)
def bGL:Me (xF Et c (cu c L))=a2h c L:=by rw[aS8];simp only[aYq];rfl
def bHT(a:Int)(L n:Nat):bR L (n+1) 183 [⟨(.int .u8),a⟩]=a2h (bR L n) L a:=by rw[<-bGL];exact cz (x:=Et) (by kernel_rfl) L n _
end
end Go.TV
namespace Go.TV
open Go.AI Go.PI Go.Proofs
set_option maxRecDepth 20000
noncomputable section
variable(c:bU)(e:Cu)(L:Nat)
def aCN(c:bU)(e:Cu):Kt:=xK Er
def Vb(c:bU)(a:Bool->Rt)(d:List UInt8)(b:Int)(f:Int)(g:Int):Rt:=
 bS (decide ((0:Int)<=b)) (bS (decide ((IntKind.i64.wrap (b+1))<(List.length d:Int))) (ob (dE d b) λh=>
 bS (decide ((h.toNat:Int)=f)) (ob (dE d (IntKind.i64.wrap (b+1))) λi=>
 a (decide ((i.toNat:Int)=g))) (a false)) (a false)) (a false)
def aGV(n:Nt):List UInt8->Int->Int->Int->Rt:=λx0 x1 x2 x3=>n [yT x0,yI x1,⟨(.int .u8),x2⟩,⟨(.int .u8),x3⟩]
def Va(c:bU)(a:Bool):Rt:=
 some [yB a]
def Tv:=cS (xD Er e [1,1,0] KS (aCN c e))
def aS6:aGV (xF Er c e)=Vb c (Tv c e):=by kernel_rfl
def aS5:cS (xA Er c e [1,1,0] KS (aCN c e))=Va c:=by kernel_rfl
def Uz(L:Nat):Bool->Rt:=Va c
def aYp:Tv c (cu c L)=Uz c L:=by rw[Tv,bX,aS5];rfl
def a2g:List UInt8->Int->Int->Int->Rt:=Vb c (Uz c L)
def bGK:aGV (xF Er c (cu c L))=a2g c L:=by rw[aS6];simp only[aYp];rfl
def bHS(a:List UInt8)(b:Int)(d:Int)(f:Int)(L n:Nat):bR L (n+1) 184 [yT a,yI b,⟨(.int .u8),d⟩,⟨(.int .u8),f⟩]=a2g (bR L n) L a b d f:=by rw[<-bGK];exact cz (x:=Er) (by kernel_rfl) L n _
def aVK(c:bU)(e:Cu):Kt:=xK Cw
def aVJ:Kt:=xT Cw c e [1,1] (aVK c e)
def aCM:Kt:=dK U0 0 (aVJ c e)
def U9(b:Bool->G.K->G.X->Rt)(a:G.K)(d:Bool):Rt:=
 bS (decide ((40:Int)<(List.length a.text:Int))) (sI (c 120 [yI 2,yI a.pos]) λf=>
 some [yR 19 f.1]) (bS d (bS (decide (a.text=[])) (b true a (G.X.mk 0 0)) (bS (!decide (a.package=[])) (eX (c 208 [yT a.package]) λg=>
 b (!g.1) a (G.X.mk 0 0)) (b false a (G.X.mk 0 0)))) (bS (!decide (a.package=[])) (eX (c 208 [yT a.package]) λh=>
 b (!h.1) a (G.X.mk 0 0)) (b false a (G.X.mk 0 0))))
def aGU(n:Nt):G.K->Bool->Rt:=λx0 x1=>n [yR 20 x0,yB x1]
def aIH(a:Bool)(b:G.K)(f:G.X):Rt:=
 bS a (sI (c 120 [yI 3,yI b.pos]) λd=>
 some [yR 19 d.1]) (some [yR 19 (G.X.mk 0 0)])
def aGT(n:Nt):Bool->G.K->G.X->Rt:=λx0 x1 x2=>n [yB x0,yR 20 x1,yR 19 x2]
def Tu:=aGT (xD Cw e (pw 7 57) KR (aCM c e))
def aS4:aGU (xF Cw c e)=U9 c (Tu c e):=by kernel_rfl
def aS3:aGT (xA Cw c e (pw 7 57) KR (aCM c e))=aIH c:=by kernel_rfl
def aHD(L:Nat):Bool->G.K->G.X->Rt:=aIH c
def aYo:Tu c (cu c L)=aHD c L:=by rw[Tu,bX,aS3];rfl
def aNs:G.K->Bool->Rt:=U9 c (aHD c L)
def bGJ:aGU (xF Cw c (cu c L))=aNs c L:=by rw[aS4];simp only[aYo];rfl
def a9q(a:G.K)(b:Bool)(L n:Nat):bR L (n+1) 186 [yR 20 a,yB b]=aNs (bR L n) L a b:=by rw[<-bGJ];exact cz (x:=Cw) (by kernel_rfl) L n _
def aCL(c:bU)(e:Cu):Kt:=xK Eo
def U8(c:bU)(a:Bool->Rt)(b:Int):Rt:=
 bS (decide ((33:Int)<=b)) (bS (decide (b<=126)) (bS (!decide (b=40)) (bS (!decide (b=41)) (bS (!decide (b=39)) (bS (!decide (b=34)) (bS (!decide (b=59)) (bS (!decide (b=124)) (a (!decide (b=58))) (a false)) (a false)) (a false)) (a false)) (a false)) (a false)) (a false)) (a false)
def U7(c:bU)(a:Bool):Rt:=
 some [yB a]
def Tt:=cS (xD Eo e [1,1,0] KQ (aCL c e))
def aS2:Me (xF Eo c e)=U8 c (Tt c e):=by kernel_rfl
def aS1:cS (xA Eo c e [1,1,0] KQ (aCL c e))=U7 c:=by kernel_rfl
def Uy(L:Nat):Bool->Rt:=U7 c
def aYn:Tt c (cu c L)=Uy c L:=by rw[Tt,bX,aS1];rfl
def a2f:Int->Rt:=U8 c (Uy c L)
def bGI:Me (xF Eo c (cu c L))=a2f c L:=by rw[aS2];simp only[aYn];rfl
def bHR(a:Int)(L n:Nat):bR L (n+1) 187 [⟨(.int .u8),a⟩]=a2f (bR L n) L a:=by rw[<-bGI];exact cz (x:=Eo) (by kernel_rfl) L n _
def aVI(c:bU)(e:Cu):Kt:=xK tK
def aVH:Kt:=xT tK c e [1,1] (aVI c e)
def IL:Kt:=dK U0 0 (aVH c e)
def aVG(n1:Nt):Kt:=iK U0 wZ n1 (IL c e)
def aCK(n1:Nt):Kt:=xT tK c e (pw 5 17) (aVG c e n1)
def U6(c:bU)(a:List UInt8->Int->Rt)(b:List UInt8)(d:Int):Rt:=
 a b d
def MV(d:Bool->List UInt8->Int->Rt)(a:List UInt8)(b:Int):Rt:=
 bS (decide (b<(List.length a:Int))) (ob (dE a b) λf=>
 eX (c 187 [⟨(.int .u8),(f.toNat:Int)⟩]) λg=>
 d g.1 a b) (d false a b)
def aGm:=dZ (xE tK e (pw 4 1) wZ (IL c e))
def FE(c:bU)(b:List UInt8->Int->Rt)(d:Bool)(f:List UInt8)(a:Int):Rt:=
 bS d (b f (IntKind.i64.wrap (a+1))) (some [yI a])
def Ts(n1:Nt):=B4 (xD tK e (pw 7 33) KP (aCK c e n1))
def aS0:dZ (xF tK c e)=U6 c (aGm c e):=by kernel_rfl
def aSZ(n1:Nt):dZ (xA tK c e (pw 4 1) wZ (iK U0 wZ n1 (IL c e)))=MV c (Ts c e n1):=by kernel_rfl
def aSY(n1:Nt):B4 (xA tK c e (pw 7 33) KP (aCK c e n1))=FE c (dZ n1):=by kernel_rfl
def Fu(L:Nat)(n1:List UInt8->Int->Rt):Bool->List UInt8->Int->Rt:=FE c n1
def aYm(n1:Nt):Ts c (cu c L) n1=Fu c L (dZ n1):=by rw[Ts,bX,aSY];rfl
def zY(c:bU)(L:Nat):Nat->List UInt8->Int->Rt
 |0=>λ_ _=>none
 |n+1=>MV c (Fu c L (zY c L n))
def aRy(n:Nat):dZ (xL tK c L (pw 4 1) wZ (IL c (cu c L)) n)=zY c L n:=by
 induction n with
 |zero=>rfl
 |succ n ih=>rw[fV,aSZ];simp only[aYm,ih];rfl
def aQU:aGm c (cu c L)=zY c L L:=aRy c L L
def a2e:List UInt8->Int->Rt:=U6 c (zY c L L)
def bGH:dZ (xF tK c (cu c L))=a2e c L:=by rw[aS0];simp only[aQU];rfl
def bHQ(a:List UInt8)(b:Int)(L n:Nat):bR L (n+1) 188 [yT a,yI b]=a2e (bR L n) L a b:=by rw[<-bGH];exact cz (x:=tK) (by kernel_rfl) L n _
def Bv(c:bU)(e:Cu):Kt:=xK gX
def aCJ:Kt:=xT gX c e [1,1,1] (Bv c e)
def aVF:Kt:=xT gX c e (pw 6 55) (Bv c e)
def IK:Kt:=dK U0 0 (aVF c e)
def aVE(n3:Nt):Kt:=iK U0 wY n3 (IK c e)
def aCI(n3:Nt):Kt:=xT gX c e (pw 9 279) (aVE c e n3)
def aCH:Kt:=xT gX c e (pw 9 503) (Bv c e)
def aVD:Kt:=xT gX c e (pw 10 1015) (Bv c e)
def IJ:Kt:=dK U0 2 (aVD c e)
def aVC(n6:Nt):Kt:=iK U0 wX n6 (IJ c e)
def aKv(n6:Nt):Kt:=xT gX c e (pw 15 26103) (aVC c e n6)
def WL(n6:Nt):Kt:=dK U0 3 (aKv c e n6)
def U5(c:bU)(b:Bool->Int->List UInt8->Rt)(a:List UInt8):Rt:=
 bS (decide ((0:Int)<(List.length a:Int))) (ob (dE a 0) λd=>
 b (decide ((d.toNat:Int)=45)) 0 a) (b false 0 a)
def U4(c:bU)(a:Int->List UInt8->Rt)(d:Bool)(f:Int)(b:List UInt8):Rt:=
 bS d (a 1 b) (a f b)
def Tq:=qO (xD gX e (pw 5 11) KO (aCJ c e))
def U3(c:bU)(b:Int->List UInt8->Int->Rt)(a:Int)(d:List UInt8):Rt:=
 b a d a
def Tp:=Mh (xD gX e (pw 4 7) KN (Bv c e))
def U2(c:bU)(d:Bool->Int->List UInt8->Int->Rt)(f:Int)(a:List UInt8)(b:Int):Rt:=
 bS (decide (b<(List.length a:Int))) (ob (dE a b) λg=>
 bS (decide ((48:Int)<=(g.toNat:Int))) (ob (dE a b) λh=>
 d (decide ((h.toNat:Int)<=57)) f a b) (d false f a b)) (d false f a b)
def aGl:=lM (xE gX e (pw 8 23) wY (IK c e))
def aIG(c:bU)(g:Int->List UInt8->Int->Rt)(d:Bool->List UInt8->Int->Rt)(h:Bool)(f:Int)(a:List UInt8)(b:Int):Rt:=
 bS h (g f a (IntKind.i64.wrap (b+1))) (bS (decide (b=f)) (some [yT [],yT [],yB false]) (bS (decide (b=(List.length a:Int))) (some [yT a,yT [49],yB true]) (ob (dE a b) λi=>
 bS (!decide ((i.toNat:Int)=47)) (d true a b) (d (decide ((IntKind.i64.wrap (b+1))=(List.length a:Int))) a b))))
def To(n3:Nt):=Md (xD gX e (pw 11 535) KM (aCI c e n3))
def aIF(c:bU)(b:Int->List UInt8->Int->Rt)(d:Bool)(f:List UInt8)(a:Int):Rt:=
 bS d (some [yT [],yT [],yB false]) (b (IntKind.i64.wrap (a+1)) f a)
def Tn:=B4 (xD gX e (pw 11 759) KL (aCH c e))
def aIE(c:bU)(f:Bool->Int->List UInt8->Int->Rt)(b:Int)(a:List UInt8)(d:Int):Rt:=
 bS (decide (b<(List.length a:Int))) (ob (dE a b) λg=>
 bS (decide ((g.toNat:Int)<48)) (f true b a d) (ob (dE a b) λh=>
 f (decide ((57:Int)<(h.toNat:Int))) b a d)) (ob (slc a 0 d) λi=>
 ob (slc a (IntKind.i64.wrap (d+1)) (List.length a:Int)) λj=>
 some [yT i,yT j,yB true])
def aGk:=lM (xE gX e (pw 13 1527) wX (IJ c e))
def aID(c:bU)(a:Int->List UInt8->Int->Rt)(b:Bool)(d:Int)(f:List UInt8)(g:Int):Rt:=
 bS b (some [yT [],yT [],yB false]) (a (IntKind.i64.wrap (d+1)) f g)
def Tm(n6:Nt):=Md (xD gX e (pw 18 75255) KK (WL c e n6))
def aSX:iW (xF gX c e)=U5 c (Tq c e):=by kernel_rfl
def aSW:qO (xA gX c e (pw 5 11) KO (aCJ c e))=U4 c (Tp c e):=by kernel_rfl
def aSV:Mh (xA gX c e (pw 4 7) KN (Bv c e))=U3 c (aGl c e):=by kernel_rfl
def aSU(n3:Nt):lM (xA gX c e (pw 8 23) wY (iK U0 wY n3 (IK c e)))=U2 c (To c e n3):=by kernel_rfl
def aST(n3:Nt):Md (xA gX c e (pw 11 535) KM (aCI c e n3))=aIG c (lM n3) (Tn c e):=by kernel_rfl
def aSS:B4 (xA gX c e (pw 11 759) KL (aCH c e))=aIF c (aGk c e):=by kernel_rfl
def aSR(n6:Nt):lM (xA gX c e (pw 13 1527) wX (iK U0 wX n6 (IJ c e)))=aIE c (Tm c e n6):=by kernel_rfl
def aSQ(n6:Nt):Md (xA gX c e (pw 18 75255) KK (WL c e n6))=aID c (lM n6):=by kernel_rfl
def aHB(L:Nat)(n6:Int->List UInt8->Int->Rt):Bool->Int->List UInt8->Int->Rt:=aID c n6
def aYh(n6:Nt):Tm c (cu c L) n6=aHB c L (lM n6):=by rw[Tm,bX,aSQ];rfl
def LW(c:bU)(L:Nat):Nat->Int->List UInt8->Int->Rt
 |0=>λ_ _ _=>none
 |n+1=>aIE c (aHB c L (LW c L n))
def aRw(n:Nat):lM (xL gX c L (pw 13 1527) wX (IJ c (cu c L)) n)=LW c L n:=by
 induction n with
 |zero=>rfl
 |succ n ih=>rw[fV,aSR];simp only[aYh,ih];rfl
def aQS:aGk c (cu c L)=LW c L L:=aRw c L L
def aHC:Bool->List UInt8->Int->Rt:=aIF c (LW c L L)
def aYi:Tn c (cu c L)=aHC c L:=by rw[Tn,bX,aSS];simp only[aQS];rfl
def Uv(n3:Int->List UInt8->Int->Rt):Bool->Int->List UInt8->Int->Rt:=aIG c n3 (aHC c L)
def aYj(n3:Nt):To c (cu c L) n3=Uv c L (lM n3):=by rw[To,bX,aST];simp only[aYi];rfl
def B1(c:bU)(L:Nat):Nat->Int->List UInt8->Int->Rt
 |0=>λ_ _ _=>none
 |n+1=>U2 c (Uv c L (B1 c L n))
def aRx(n:Nat):lM (xL gX c L (pw 8 23) wY (IK c (cu c L)) n)=B1 c L n:=by
 induction n with
 |zero=>rfl
 |succ n ih=>rw[fV,aSU];simp only[aYj,ih];rfl
def aQT:aGl c (cu c L)=B1 c L L:=aRx c L L
def Uw:Int->List UInt8->Rt:=U3 c (B1 c L L)
def aYk:Tp c (cu c L)=Uw c L:=by rw[Tp,bX,aSV];simp only[aQT];rfl
def Ux:Bool->Int->List UInt8->Rt:=U4 c (Uw c L)
def aYl:Tq c (cu c L)=Ux c L:=by rw[Tq,bX,aSW];simp only[aYk];rfl
def aNr:List UInt8->Rt:=U5 c (Ux c L)
def bGG:iW (xF gX c (cu c L))=aNr c L:=by rw[aSX];simp only[aYl];rfl
def a9p(a:List UInt8)(L n:Nat):bR L (n+1) 190 [yT a]=aNr (bR L n) L a:=by rw[<-bGG];exact cz (x:=gX) (by kernel_rfl) L n _
def aIC(b:List UInt8):Rt:=
 yA (c 131 [yT b]) λa=>
 some [yI (bif decide ((1:Int)<(List.length a.2.1:Int))then(List.length a.2.1:Int)else 1)]
def aNq(L:Nat):List UInt8->Rt:=aIC c
def bGF:iW (xF aEo c (cu c L))=aNq c L:=by kernel_rfl
def a9o(a:List UInt8)(L n:Nat):bR L (n+1) 192 [yT a]=aNq (bR L n) L a:=by rw[<-bGF];exact cz (x:=aEo) (by kernel_rfl) L n _
def aVB(c:bU)(e:Cu):Kt:=xK AJ
def aVA:Kt:=xT AJ c e [1,1] (aVB c e)
def Ru:Kt:=dK U0 0 (aVA c e)
def aIB(c:bU)(a:List UInt8->List G.A->Int->G.A->Rt)(b:List G.A)(d:List UInt8):Rt:=
 a d b 0 (G.A.mk [] ([]:List G.Y))
def aGS(n:Nt):List G.A->List UInt8->Rt:=λx0 x1=>n [yS 8 x0,yT x1]
def aIA(c:bU)(f:List UInt8->List G.A->Int->G.A->Rt)(d:List UInt8)(a:List G.A)(b:Int)(g:G.A):Rt:=
 bS (decide (b<(List.length a:Int))) (ob (dE a b) λh=>
 bS (decide (h.name=d)) (ob (dE a b) λi=>
 some [yR 8 i,yB true]) (f d a (IntKind.i64.wrap (b+1)) g)) (some [yR 8 (G.A.mk [] ([]:List G.Y)),yB false])
def Mb(n:Nt):List UInt8->List G.A->Int->G.A->Rt:=λx0 x1 x2 x3=>n [yT x0,yS 8 x1,yI x2,yR 8 x3]
def aGj:=Mb (xE AJ e (pw 5 5) A3 (Ru c e))
def aSP:aGS (xF AJ c e)=aIB c (aGj c e):=by kernel_rfl
def aSO(n1:Nt):Mb (xA AJ c e (pw 5 5) A3 (iK U0 A3 n1 (Ru c e)))=aIA c (Mb n1):=by kernel_rfl
def LV(c:bU)(L:Nat):Nat->List UInt8->List G.A->Int->G.A->Rt
 |0=>λ_ _ _ _=>none
 |n+1=>aIA c (LV c L n)
def aRv(n:Nat):Mb (xL AJ c L (pw 5 5) A3 (Ru c (cu c L)) n)=LV c L n:=by
 induction n with
 |zero=>rfl
 |succ n ih=>rw[fV,aSO];simp only[ih];rfl
def aQR:aGj c (cu c L)=LV c L L:=aRv c L L
def a2d:List G.A->List UInt8->Rt:=aIB c (LV c L L)
def bGE:aGS (xF AJ c (cu c L))=a2d c L:=by rw[aSP];simp only[aQR];rfl
def bHP(a:List G.A)(b:List UInt8)(L n:Nat):bR L (n+1) 193 [yS 8 a,yT b]=a2d (bR L n) L a b:=by rw[<-bGE];exact cz (x:=AJ) (by kernel_rfl) L n _
def aVz(c:bU)(e:Cu):Kt:=xK tJ
def aVy:Kt:=xT tJ c e (pw 5 31) (aVz c e)
def II:Kt:=dK U0 0 (aVy c e)
def aVx(n1:Nt):Kt:=iK U0 wW n1 (II c e)
def aCG(n1:Nt):Kt:=xT tJ c e (pw 9 303) (aVx c e n1)
def aIz(f:List G.T->Int->Int->Int->Rt)(a:G.T)(b:Int):Rt:=
 bS (decide (a.kind=2)) (jB (c 122 [yR 2 a.value]) λd=>
 some [yI (bif decide (d.1<b)then d.1 else b)]) (uW (c 213 [yR 3 a]) λg=>
 f g.1 b 0 1)
def aIy(c:bU)(g:Bool->Int->List G.T->Int->Int->Rt)(a:List G.T)(b:Int)(d:Int)(f:Int):Rt:=
 bS (decide (d<(List.length a:Int))) (g (decide (f<b)) d a b f) (g false d a b f)
def aGi:=qM (xE tJ e (pw 8 47) wW (II c e))
def aIx(g:List G.T->Int->Int->Int->Rt)(h:Bool)(b:Int)(d:List G.T)(f:Int)(a:Int):Rt:=
 bS h (ob (dE d b) λi=>
 jB (c 197 [yR 3 i,yI (IntKind.i64.wrap (f-a))]) λj=>
 g d f (IntKind.i64.wrap (b+1)) (IntKind.i64.wrap (a+j.1))) (some [yI a])
def Tl(n1:Nt):=L8 (xD tJ e (pw 11 559) KJ (aCG c e n1))
def aSN:L9 (xF tJ c e)=aIz c (aGi c e):=by kernel_rfl
def aSM(n1:Nt):qM (xA tJ c e (pw 8 47) wW (iK U0 wW n1 (II c e)))=aIy c (Tl c e n1):=by kernel_rfl
def aSL(n1:Nt):L8 (xA tJ c e (pw 11 559) KJ (aCG c e n1))=aIx c (qM n1):=by kernel_rfl
def aHA(L:Nat)(n1:List G.T->Int->Int->Int->Rt):Bool->Int->List G.T->Int->Int->Rt:=aIx c n1
def aYg(n1:Nt):Tl c (cu c L) n1=aHA c L (qM n1):=by rw[Tl,bX,aSL];rfl
def LU(c:bU)(L:Nat):Nat->List G.T->Int->Int->Int->Rt
 |0=>λ_ _ _ _=>none
 |n+1=>aIy c (aHA c L (LU c L n))
def aRu(n:Nat):qM (xL tJ c L (pw 8 47) wW (II c (cu c L)) n)=LU c L n:=by
 induction n with
 |zero=>rfl
 |succ n ih=>rw[fV,aSM];simp only[aYg,ih];rfl
def aQQ:aGi c (cu c L)=LU c L L:=aRu c L L
def a2c:G.T->Int->Rt:=aIz c (LU c L L)
def bGD:L9 (xF tJ c (cu c L))=a2c c L:=by rw[aSN];simp only[aQQ];rfl
def bHO(a:G.T)(b:Int)(L n:Nat):bR L (n+1) 197 [yR 3 a,yI b]=a2c (bR L n) L a b:=by rw[<-bGD];exact cz (x:=tJ) (by kernel_rfl) L n _
def aVw(c:bU)(e:Cu):Kt:=xK tI
def aVv:Kt:=xT tI c e (pw 4 15) (aVw c e)
def IH:Kt:=dK U0 0 (aVv c e)
def aVu(n1:Nt):Kt:=iK U0 wV n1 (IH c e)
def aCF(n1:Nt):Kt:=xT tI c e (pw 8 151) (aVu c e n1)
def aIw(a:List G.T->Int->Int->Int->Rt)(b:G.T)(d:Int):Rt:=
 uW (c 213 [yR 3 b]) λf=>
 a f.1 d 0 0
def aIv(c:bU)(f:Bool->Int->List G.T->Int->Int->Rt)(a:List G.T)(b:Int)(d:Int)(g:Int):Rt:=
 bS (decide (d<(List.length a:Int))) (f (decide ((1:Int)<b)) d a b g) (f false d a b g)
def aGh:=qM (xE tI e (pw 7 23) wV (IH c e))
def aIu(h:List G.T->Int->Int->Int->Rt)(i:Bool)(b:Int)(d:List G.T)(f:Int)(a:Int):Rt:=
 bS i (ob (dE d b) λj=>
 jB (c 198 [yR 3 j,yI (IntKind.i64.wrap (f-1))]) λg=>
 h d f (IntKind.i64.wrap (b+1)) (bif decide (a<g.1)then g.1 else a)) (some [yI (IntKind.i64.wrap (a+1))])
def Tk(n1:Nt):=L8 (xD tI e (pw 10 279) KI (aCF c e n1))
def aSK:L9 (xF tI c e)=aIw c (aGh c e):=by kernel_rfl
def aSJ(n1:Nt):qM (xA tI c e (pw 7 23) wV (iK U0 wV n1 (IH c e)))=aIv c (Tk c e n1):=by kernel_rfl
def aSI(n1:Nt):L8 (xA tI c e (pw 10 279) KI (aCF c e n1))=aIu c (qM n1):=by kernel_rfl
def aHz(L:Nat)(n1:List G.T->Int->Int->Int->Rt):Bool->Int->List G.T->Int->Int->Rt:=aIu c n1
def aYf(n1:Nt):Tk c (cu c L) n1=aHz c L (qM n1):=by rw[Tk,bX,aSI];rfl
def LS(c:bU)(L:Nat):Nat->List G.T->Int->Int->Int->Rt
 |0=>λ_ _ _ _=>none
 |n+1=>aIv c (aHz c L (LS c L n))
def aRt(n:Nat):qM (xL tI c L (pw 7 23) wV (IH c (cu c L)) n)=LS c L n:=by
 induction n with
 |zero=>rfl
 |succ n ih=>rw[fV,aSJ];simp only[aYf,ih];rfl
def aQP:aGh c (cu c L)=LS c L L:=aRt c L L
def a2b:G.T->Int->Rt:=aIw c (LS c L L)
def bGC:L9 (xF tI c (cu c L))=a2b c L:=by rw[aSK];simp only[aQP];rfl
def bHN(a:G.T)(b:Int)(L n:Nat):bR L (n+1) 198 [yR 3 a,yI b]=a2b (bR L n) L a b:=by rw[<-bGC];exact cz (x:=tI) (by kernel_rfl) L n _
def aIt(b:List UInt8):Rt:=
 yA (c 131 [yT b]) λa=>
 jQ (c 134 [yB (!a.1),⟨.sl i6,a.2.1⟩]) λd=>
 some [yT d.1]
def aNp(L:Nat):List UInt8->Rt:=aIt c
def bGB:iW (xF aEn c (cu c L))=aNp c L:=by kernel_rfl
def a9n(a:List UInt8)(L n:Nat):bR L (n+1) 200 [yT a]=aNp (bR L n) L a:=by rw[<-bGB];exact cz (x:=aEn) (by kernel_rfl) L n _
def aVt(c:bU)(e:Cu):Kt:=xK mY
def aVs:Kt:=xT mY c e (pw 4 15) (aVt c e)
def IG:Kt:=dK U0 0 (aVs c e)
def aCE(n1:Nt):Kt:=iK U0 wU n1 (IG c e)
def aCD(n1:Nt):Kt:=xT mY c e (pw 8 151) (aCE c e n1)
def aVr(n1:Nt):Kt:=xT mY c e (pw 9 407) (aCE c e n1)
def IF(n1:Nt):Kt:=dK U0 1 (aVr c e n1)
def U1(c:bU)(a:Int->List Int->List Int->Int->List Int->Rt)(b:List Int)(d:List Int):Rt:=
 a 0 b d 0 ([]:List Int)
def MU(c:bU)(g:Bool->Int->Int->List Int->List Int->List Int->Rt)(b:Int)(d:List Int)(f:List Int)(a:Int)(h:List Int):Rt:=
 bS (decide (a<(List.length d:Int))) (g true b a d f h) (bS (decide (a<(List.length f:Int))) (g true b a d f h) (g (decide ((0:Int)<b)) b a d f h))
def Ai(n:Nt):Int->List Int->List Int->Int->List Int->Rt:=λx0 x1 x2 x3 x4=>n [yI x0,⟨.sl i6,x1⟩,⟨.sl i6,x2⟩,yI x3,⟨.sl i6,x4⟩]
def aGg:=Ai (xE mY e (pw 7 23) wU (IG c e))
def FD(c:bU)(f:List Int->Int->Int->List Int->List Int->Rt)(i:Bool)(g:Int)(a:Int)(b:List Int)(h:List Int)(d:List Int):Rt:=
 bS i (bS (decide (a<(List.length b:Int))) (ob (dE b a) λj=>
 f d (IntKind.i64.wrap (g+j)) a b h) (f d g a b h)) (some [⟨.sl i6,d⟩])
def aGR(n:Nt):Bool->Int->Int->List Int->List Int->List Int->Rt:=λx0 x1 x2 x3 x4 x5=>n [yB x0,yI x1,yI x2,⟨.sl i6,x3⟩,⟨.sl i6,x4⟩,⟨.sl i6,x5⟩]
def Tj(n1:Nt):=aGR (xD mY e (pw 10 279) KH (aCD c e n1))
def UZ(c:bU)(d:List Int->Int->Int->List Int->List Int->Rt)(f:List Int)(g:Int)(a:Int)(h:List Int)(b:List Int):Rt:=
 bS (decide (a<(List.length b:Int))) (ob (dE b a) λi=>
 d f (IntKind.i64.wrap (g+i)) a h b) (d f g a h b)
def Ti(n1:Nt):=B6 (xD mY e (pw 13 3223) KG (IF c e n1))
def UY(c:bU)(d:Int->List Int->List Int->Int->List Int->Rt)(b:List Int)(a:Int)(f:Int)(g:List Int)(h:List Int):Rt:=
 kV (!decide ((10:Int)=0))<|
 kV (Nat.ble ((List.length b+List.length ([(Int.tmod a 10)]:List Int))*8) 1073741824)<|
 kV (!decide ((10:Int)=0))<|
 d (IntKind.i64.wrap (Int.tdiv a 10)) g h (IntKind.i64.wrap (f+1)) (b++([(Int.tmod a 10)]:List Int))
def Th(n1:Nt):=B6 (xD mY e (pw 15 11415) KF (IF c e n1))
def aSH:lN (xF mY c e)=U1 c (aGg c e):=by kernel_rfl
def aSG(n1:Nt):Ai (xA mY c e (pw 7 23) wU (iK U0 wU n1 (IG c e)))=MU c (Tj c e n1):=by kernel_rfl
def aSF(n1:Nt):aGR (xA mY c e (pw 10 279) KH (aCD c e n1))=FD c (Ti c e n1):=by kernel_rfl
def aSE(n1:Nt):B6 (xA mY c e (pw 13 3223) KG (IF c e n1))=UZ c (Th c e n1):=by kernel_rfl
def aSD(n1:Nt):B6 (xA mY c e (pw 15 11415) KF (IF c e n1))=UY c (Ai n1):=by kernel_rfl
def My(L:Nat)(n1:Int->List Int->List Int->Int->List Int->Rt):List Int->Int->Int->List Int->List Int->Rt:=UY c n1
def aYc(n1:Nt):Th c (cu c L) n1=My c L (Ai n1):=by rw[Th,bX,aSD];rfl
def Mz(n1:Int->List Int->List Int->Int->List Int->Rt):List Int->Int->Int->List Int->List Int->Rt:=UZ c (My c L n1)
def aYd(n1:Nt):Ti c (cu c L) n1=Mz c L (Ai n1):=by rw[Ti,bX,aSE];simp only[aYc];rfl
def Cd(n1:Int->List Int->List Int->Int->List Int->Rt):Bool->Int->Int->List Int->List Int->List Int->Rt:=FD c (Mz c L n1)
def aYe(n1:Nt):Tj c (cu c L) n1=Cd c L (Ai n1):=by rw[Tj,bX,aSF];simp only[aYd];rfl
def qK(c:bU)(L:Nat):Nat->Int->List Int->List Int->Int->List Int->Rt
 |0=>λ_ _ _ _ _=>none
 |n+1=>MU c (Cd c L (qK c L n))
def aRs(n:Nat):Ai (xL mY c L (pw 7 23) wU (IG c (cu c L)) n)=qK c L n:=by
 induction n with
 |zero=>rfl
 |succ n ih=>rw[fV,aSG];simp only[aYe,ih];rfl
def aQN:aGg c (cu c L)=qK c L L:=aRs c L L
def aNo:List Int->List Int->Rt:=U1 c (qK c L L)
def bGA:lN (xF mY c (cu c L))=aNo c L:=by rw[aSH];simp only[aQN];rfl
def a9m(a:List Int)(b:List Int)(L n:Nat):bR L (n+1) 201 [⟨.sl i6,a⟩,⟨.sl i6,b⟩]=aNo (bR L n) L a b:=by rw[<-bGA];exact cz (x:=mY) (by kernel_rfl) L n _
def Rs(c:bU)(e:Cu):Kt:=xK vC
def aVq:Kt:=xT vC c e (pw 5 31) (Rs c e)
def Rr:Kt:=dK U0 0 (aVq c e)
def UX(b:List Int->Int->Bool->Int->Rt)(d:List UInt8):Rt:=
 yA (c 131 [yT d]) λa=>
 bS (decide ((9:Int)<(List.length a.2.1:Int))) (some [yI 0,yB false]) (b a.2.1 (IntKind.i64.wrap ((List.length a.2.1:Int)-1)) a.1 0)
def MT(c:bU)(h:List Int->Int->Bool->Int->Rt)(d:Int->Rt)(f:List Int)(a:Int)(g:Bool)(b:Int):Rt:=
 bS (decide ((0:Int)<=a)) (ob (dE f a) λi=>
 h f (IntKind.i64.wrap (a-1)) g (IntKind.i64.wrap ((IntKind.i64.wrap ((10:Int)*b))+i))) (bS g (d (IntKind.i64.wrap (0-b))) (d b))
def L7(n:Nt):List Int->Int->Bool->Int->Rt:=λx0 x1 x2 x3=>n [⟨.sl i6,x0⟩,yI x1,yB x2,yI x3]
def aGf:=L7 (xE vC e (pw 8 47) AZ (Rr c e))
def MS(c:bU)(a:Int):Rt:=
 some [yI a,yB true]
def Tg:=L6 (xD vC e (pw 7 63) KE (Rs c e))
def aSC:iW (xF vC c e)=UX c (aGf c e):=by kernel_rfl
def aSB(n1:Nt):L7 (xA vC c e (pw 8 47) AZ (iK U0 AZ n1 (Rr c e)))=MT c (L7 n1) (Tg c e):=by kernel_rfl
def aSA:L6 (xA vC c e (pw 7 63) KE (Rs c e))=MS c:=by kernel_rfl
def Mx(L:Nat):Int->Rt:=MS c
def aYb:Tg c (cu c L)=Mx c L:=by rw[Tg,bX,aSA];rfl
def vV(c:bU)(L:Nat):Nat->List Int->Int->Bool->Int->Rt
 |0=>λ_ _ _ _=>none
 |n+1=>MT c (vV c L n) (Mx c L)
def aRr(n:Nat):L7 (xL vC c L (pw 8 47) AZ (Rr c (cu c L)) n)=vV c L n:=by
 induction n with
 |zero=>rfl
 |succ n ih=>rw[fV,aSB];simp only[aYb,ih];rfl
def aQM:aGf c (cu c L)=vV c L L:=aRr c L L
def aNn:List UInt8->Rt:=UX c (vV c L L)
def bGz:iW (xF vC c (cu c L))=aNn c L:=by rw[aSC];simp only[aQM];rfl
def a9l(a:List UInt8)(L n:Nat):bR L (n+1) 202 [yT a]=aNn (bR L n) L a:=by rw[<-bGz];exact cz (x:=vC) (by kernel_rfl) L n _
def aIs(d:List UInt8)(f:List UInt8):Rt:=
 yA (c 131 [yT d]) λa=>
 yA (c 131 [yT f]) λb=>
 rC (c 216 [⟨.sl i6,a.2.1⟩,⟨.sl i6,b.2.1⟩]) λg=>
 jQ (c 134 [yB (!(a.1==b.1)),⟨.sl i6,g.1⟩]) λh=>
 some [yT h.1]
def aNm(L:Nat):List UInt8->List UInt8->Rt:=aIs c
def bGy:qN (xF aEm c (cu c L))=aNm c L:=by kernel_rfl
def a9k(a:List UInt8)(b:List UInt8)(L n:Nat):bR L (n+1) 203 [yT a,yT b]=aNm (bR L n) L a b:=by rw[<-bGy];exact cz (x:=aEm) (by kernel_rfl) L n _
def aIr(d:List UInt8)(f:List UInt8):Rt:=
 yA (c 131 [yT d]) λa=>
 yA (c 131 [yT f]) λb=>
 bS (a.1==b.1) (rC (c 201 [⟨.sl i6,a.2.1⟩,⟨.sl i6,b.2.1⟩]) λg=>
 jQ (c 134 [yB a.1,⟨.sl i6,g.1⟩]) λh=>
 some [yT h.1]) (jB (c 164 [⟨.sl i6,a.2.1⟩,⟨.sl i6,b.2.1⟩]) λi=>
 bS (decide ((0:Int)<=i.1)) (rC (c 165 [⟨.sl i6,a.2.1⟩,⟨.sl i6,b.2.1⟩]) λj=>
 jQ (c 134 [yB a.1,⟨.sl i6,j.1⟩]) λl=>
 some [yT l.1]) (rC (c 165 [⟨.sl i6,b.2.1⟩,⟨.sl i6,a.2.1⟩]) λm=>
 jQ (c 134 [yB b.1,⟨.sl i6,m.1⟩]) λo=>
 some [yT o.1]))
def aNl(L:Nat):List UInt8->List UInt8->Rt:=aIr c
def bGx:qN (xF aEl c (cu c L))=aNl c L:=by kernel_rfl
def a9j(a:List UInt8)(b:List UInt8)(L n:Nat):bR L (n+1) 204 [yT a,yT b]=aNl (bR L n) L a b:=by rw[<-bGx];exact cz (x:=aEl) (by kernel_rfl) L n _
def aVp(c:bU)(e:Cu):Kt:=xK Cv
def aCC:Kt:=xT Cv c e (pw 4 15) (aVp c e)
def UW(f:Bool->G.O->G.O->Rt)(a:G.O)(b:G.O):Rt:=
 jB (c 217 [yR 2 a]) λg=>
 jB (c 217 [yR 2 b]) λh=>
 bS (!decide (g.1=h.1)) (jB (c 217 [yR 2 a]) λi=>
 jB (c 217 [yR 2 b]) λj=>
 bS (decide (i.1<j.1)) (some [yI (-1)]) (some [yI 1])) (jB (c 217 [yR 2 a]) λd=>
 bS (decide (d.1=1)) (jQ (c 203 [yT a.num,yT b.den]) λl=>
 jQ (c 203 [yT b.num,yT a.den]) λm=>
 jB (c 218 [yT l.1,yT m.1]) λo=>
 some [yI o.1]) (bS (decide (d.1=2)) (jB (c 219 [yT a.text,yT b.text]) λp=>
 some [yI p.1]) (bS (decide (d.1=3)) (jB (c 220 [yR 1 a.sym,yR 1 b.sym]) λq=>
 some [yI q.1]) (eX (c 123 [yR 2 a]) λs=>
 bS (!s.1) (f true a b) (eX (c 123 [yR 2 b]) λt=>
 f (!t.1) a b)))))
def aIq(f:Bool)(a:G.O)(b:G.O):Rt:=
 bS f (some [yI 0]) (ob (dE a.pair 0) λg=>
 ob (dE b.pair 0) λh=>
 jB (c 205 [yR 2 g,yR 2 h]) λd=>
 bS (!decide (d.1=0)) (some [yI d.1]) (ob (dE a.pair 1) λi=>
 ob (dE b.pair 1) λj=>
 jB (c 205 [yR 2 i,yR 2 j]) λl=>
 some [yI l.1]))
def Tf:=B5 (xD Cv e (pw 6 23) KD (aCC c e))
def aSz:oE (xF Cv c e)=UW c (Tf c e):=by kernel_rfl
def aSy:B5 (xA Cv c e (pw 6 23) KD (aCC c e))=aIq c:=by kernel_rfl
def aHy(L:Nat):Bool->G.O->G.O->Rt:=aIq c
def aYa:Tf c (cu c L)=aHy c L:=by rw[Tf,bX,aSy];rfl
def aNk:G.O->G.O->Rt:=UW c (aHy c L)
def bGw:oE (xF Cv c (cu c L))=aNk c L:=by rw[aSz];simp only[aYa];rfl
def a9i(a:G.O)(b:G.O)(L n:Nat):bR L (n+1) 205 [yR 2 a,yR 2 b]=aNk (bR L n) L a b:=by rw[<-bGw];exact cz (x:=Cv) (by kernel_rfl) L n _
end
end Go.TV
namespace Go.TV
open Go.AI Go.PI Go.Proofs
def wr{x:Int}(h0: -9223372036854775808<=x)(h1:x<9223372036854775808):IntKind.i64.wrap x=x:=by
 have hb:(IntKind.i64.bits:Nat)=64:=rfl;unfold IntKind.wrap;simp[IntKind.bits,IntKind.signed];omega
def bIH{k:Nat}(h:k<4000000000000000000):IntKind.i64.wrap (((k+1:Nat):Int)-1)=(k:Int):=by rw[wr (by omega) (by omega)];omega
abbrev iS(l:List Int):kA:=[⟨.sl (.int .i64),l⟩]
abbrev iI(i:Int):kA:=[⟨.int .i64,i⟩]
abbrev NP(a b:List Int):kA:=[⟨.sl (.int .i64),a⟩,⟨.sl (.int .i64),b⟩]
def wG{W:Type}{a:List Int}{K:List Int×Unit->Option W}:rC (some [⟨.sl (.int .i64),a⟩]) K=K (a,()):=rfl
def aK2{W:Type}{a b:List Int}{K:List Int×List Int×Unit->Option W}:fY (D:=U0.D) [.sl (.int .i64),.sl (.int .i64)] (some [⟨.sl (.int .i64),a⟩,⟨.sl (.int .i64),b⟩]) K=K (a,b,()):=rfl
def aK3{W:Type}{a:Int}{K:Int×Unit->Option W}:jB (some [⟨.int .i64,a⟩]) K=K (a,()):=rfl
def aBV{N:Type}{l:List N}{k:Nat}(h:k<=l.length):slc l (0:Int) (k:Int)=some (l.take k):=by
 unfold slc;have h1:decide ((0:Int)<=0)=true:=rfl;have h2:decide ((0:Int)<=(k:Int))=true:=by simp
 have h3:decide ((k:Int)<=(l.length:Int))=true:=by simp;omega
 rw[h1,h2,h3];simp
def aFG{n:Nat}(h:n<100000000):Nat.ble ((n+1)*8) 1073741824=true:=by rw[Nat.ble_eq];omega
def HP{N:Type}{l:List N}{k:Nat}{x:N}(h:l[k]?=some x):l.take (k+1)=l.take k++ [x]:=by rw[List.take_add_one,h];rfl
def iT{N:Type}{l:List N}{k:Nat}(h:k<l.length): ∃x,l[k]?=some x/\l.drop k=x::l.drop (k+1):=⟨l[k],aV h,List.drop_eq_getElem_cons h⟩
def aOb: ∀l:List Int,lT (l++ [0])=lT l
 |[]=>rfl
 |x::l=>by have ih:=aOb l;simp only[aY,lT,ih]
def aBF{x:Int}(h:x≠0): ∀l:List Int,lT (l++ [x])=l++ [x]
 |[]=>by simp[lT,h]
 |y::l=>by
  have ih:=aBF h l;simp only[aY,lT,ih];cases l<;>rfl
def ZG{c:bU}{L:Nat}{a:List Int}(hb:a.length<1000000000): ∀(k m:Nat),k<=a.length->k<m->lT (a.take k)=lT a->
    Aa c L m a (k:Int)=some (iS (lT a)):=by
 intro k;induction k with
 |zero=>
  intro m _ h2 h3;obtain⟨m,rfl⟩: ∃m',m=m'+1:=⟨m-1,by omega⟩
  rw[Aa,MZ,bG (by omega: ¬(0:Int)<((0:Nat):Int)),bM,Fx,FH,bM,aBV (Nat.zero_le _),cM,<-h3]
  simp[lT]
 |succ k ih=>
  intro m h1 h2 h3;obtain⟨m,rfl⟩: ∃m',m=m'+1:=⟨m-1,by omega⟩
  obtain⟨x,hx,_⟩:=iT (show k<a.length by omega)
  rw[Aa,MZ,bF (by omega:(0:Int)<((k+1:Nat):Int)),bP,bIH (by omega),bW,hx,cM]
  rw[HP hx]at h3;by_cases e:x=0
  .subst e;rw[aOb]at h3;rw[bF rfl,Fx,FH,bP,bIH (by omega)]
   exact ih m (by omega) (by omega) h3
  .rw[aBF e]at h3;rw[bG e,Fx,FH,bM,aBV h1,cM,HP hx,h3]
def C4{a:List Int}{L n:Nat}(hb:a.length<1000000000)(hL:a.length<L):bR L (n+1) 163 (iS a)=some (iS (lT a)):=by
 show bR L (n+1) 163 [⟨.sl (.int .i64),a⟩]=_;rw[a9H,aNJ,Vt];exact ZG hb _ L (aS _) hL (by rw[List.take_length])
def BD: ∀(i:Nat) {a b:List Int},a.length=b.length->uQ (a.drop i) (b.drop i)≠0->uQ a b=uQ (a.drop i) (b.drop i)
 |0,_,_,_,_=>rfl
 |i+1,[],_,_,h=>by simp[uQ]at h
 |i+1,_::_,[],h,_=>by simp at h
 |i+1,x::a,y::b,hl,h=>by
  have ih:=BD i (a:=a) (b:=b) (by simpa using hl) (by simpa using h)
  simp only[List.drop_succ_cons]at h⊢;rw[<-ih]at h⊢;rw[uQ,bH h]
def RQ{c:bU}{L:Nat}{a b:List Int}(hb:a.length<1000000000)(hl:a.length=b.length): ∀(k m:Nat),k<=a.length->k<m->uQ (a.drop k) (b.drop k)=0->
    zZ c L m a b ((k:Int)-1)=some (iI (uQ a b)):=by
 intro k;induction k with
 |zero=>
  intro m _ h2 h3;obtain⟨m,rfl⟩: ∃m',m=m'+1:=⟨m-1,by omega⟩
  rw[zZ,MY,bG (by omega: ¬(0:Int)<=((0:Nat):Int)-1),bM]
  simp only[List.drop_zero]at h3;rw[h3]
 |succ k ih=>
  intro m h1 h2 h3;obtain⟨m,rfl⟩: ∃m',m=m'+1:=⟨m-1,by omega⟩
  obtain⟨x,hx,ax⟩:=iT (show k<a.length by omega)
  obtain⟨y,hy,ay⟩:=iT (show k<b.length by omega)
  have e0:((k+1:Nat):Int)-1=(k:Int):=by omega
  rw[zZ,MY,e0,bF (by omega:(0:Int)<=(k:Int)),bP,bW,bW,hx,hy,cM,cM]
  have hk:uQ (a.drop k) (b.drop k)=if x<y then-1 else if y<x then 1 else 0:=by rw[ax,ay,uQ,bI h3]
  by_cases e:x<y
  .rw[bI e]at hk;rw[bF e,bP,BD k hl (by rw[hk];decide),hk]
  .rw[bH e]at hk;rw[bG e,bM,cM,cM];by_cases e':y<x
   .rw[bI e']at hk;rw[bF e',bP,BD k hl (by rw[hk];decide),hk]
   .rw[bH e']at hk;rw[bG e',bM,wr (by omega) (by omega)]
    exact ih m (by omega) (by omega) hk
def Pp{a b:List Int}{L n:Nat}(hb:a.length<1000000000)(hL:a.length<L):bR L (n+1) 164 (NP a b)=some (iI (qF a b)):=by
 show bR L (n+1) 164 [⟨.sl (.int .i64),a⟩,⟨.sl (.int .i64),b⟩]=_;rw[a9G,aNI,Vs];unfold qF;by_cases e:a.length=b.length
 .rw[bI e,bF (by omega:(a.length:Int)=(b.length:Int)),bD,bM,wr (by omega) (by omega)]
  exact RQ hb e _ L (aS _) hL (by simp[uQ])
 .rw[bH e,bG (by omega: ¬(a.length:Int)=(b.length:Int)),Bool.not_false,bP]
  by_cases e':a.length<b.length
  .rw[bI e',bF (by omega:(a.length:Int)<(b.length:Int)),bP]
  .rw[bH e',bG (by omega: ¬(a.length:Int)<(b.length:Int)),bM]
def Kc{b:List Int}{k:Nat}{y:Int}(h:b[k]?=some y):hz (b.drop k)=y:=by
 by_cases e:k<b.length
 .obtain⟨z,h1,h2⟩:=iT e;rw[h1]at h;injection h with h;subst h;rw[h2];rfl
 .rw[List.getElem?_eq_none (by omega)]at h;cases h
def ED{b:List Int}{k:Nat}(h: ¬k<b.length):hz (b.drop k)=0:=by rw[List.drop_eq_nil_of_le (by omega)];rfl
def AV{l:List Int}(h:dg l){k:Nat}{x:Int}(hx:l[k]?=some x):0<=x/\x<=9:=h x (List.mem_of_getElem? hx)
def R1{c:bU}{L:Nat}{a b:List Int}(hb:a.length<10000000)(da:dg a)(db:dg b)(ht: ∀l:List Int,l.length<=a.length->c 163 (iS l)=some (iS (lT l))):
    ∀(l:List Int) (k m:Nat) (br:Int) (acc:List Int),a.drop k=l->l.length<m->acc.length=k->k<=a.length->(br=0∨br=1)->
    vW c L m a br b (k:Int) acc=some (iS (lT (acc++Xm l (b.drop k) br))):=by
 intro l;induction l with
 |nil=>
  intro k m br acc h1 h2 h3 h6 h4;obtain⟨m,rfl⟩: ∃m',m=m'+1:=⟨m-1,by simp at h2;omega⟩
  have e1:=dH h1;rw[vW,MX,bG (by omega: ¬(k:Int)<(a.length:Int)),bM,Xm,bA,show c 163 [⟨.sl (.int .i64),acc⟩]=some (iS (lT acc)) from ht acc (by omega),wG]
 |cons x l ih=>
  intro k m br acc h1 h2 h3 h6 h4;obtain⟨m,rfl⟩: ∃m',m=m'+1:=⟨m-1,by simp at h2;omega⟩
  obtain⟨a1,a2,a3⟩:=dL h1;have dx:=AV da a1;simp only[aM]at h2;have go: ∀y:Int,0<=y/\y<=9->hz (b.drop k)=y->MB c L (vW c L m) acc (x-br-y) (k:Int) a b=some (iS (lT (acc++Xm (x::l) (b.drop k) br))):=by
   intro y hy e;rw[MB,Vq,Xm,e,List.tail_drop];by_cases e1:x-br-y<0
   .rw[bF e1,bP,bI e1,MA,MW,List.length_singleton,aFG (by omega),fA,fF (by omega),wr (by omega) (by omega)]
    rw[ih (k+1) m 1 _ a3 (by omega) (by simp[h3]) (by omega) (.inr rfl),aQ];rfl
   .rw[bG e1,bM,bH e1,MA,MW,List.length_singleton,aFG (by omega),fA,fF (by omega)]
    rw[ih (k+1) m 0 _ a3 (by omega) (by simp[h3]) (by omega) (.inl rfl),aQ];rfl
  rw[vW,MX,bF (by omega:(k:Int)<(a.length:Int)),bP,bW,a1,cM,wr (by omega) (by omega)]
  by_cases e:k<b.length
  .obtain⟨y,hy,ay⟩:=iT e;have dy:=AV db hy;rw[bF (by omega:(k:Int)<(b.length:Int)),bP,bW,hy,cM,wr (by omega) (by omega)]
   exact go y dy (Kc hy)
  .rw[bG (by omega: ¬(k:Int)<(b.length:Int)),bM]
   have:=go 0 (by omega) (ED e)
   rw[Int.sub_zero]at this;exact this
def PF{a b:List Int}{L n:Nat}(hb:a.length<10000000)(da:dg a)(db:dg b)(hL:a.length<L):bR L (n+2) 165 (NP a b)=some (iS (CR a b)):=by
 show bR L (n+2) 165 [⟨.sl (.int .i64),a⟩,⟨.sl (.int .i64),b⟩]=_;rw[a9F,aNH,Vr];exact R1 hb da db (λl hl=>C4 (by omega) (by omega)) a 0 L 0 [] rfl hL rfl (by omega) (.inl rfl)
def aDo{a b:List Int}{c:Int}(h0:0<=c)(h1:c<=1)(h:a≠ []∨b≠ []∨0<c):wC a b c=((c+hz a+hz b)%10)::wC a.tail b.tail ((c+hz a+hz b)/10):=by
 cases a with
 |nil=>cases b with
  |nil=>
   have:c=1:=by simp at h;omega
   subst this;simp[wC,hz]
  |cons y b=>simp[wC,hz]
 |cons x a=>cases b with
  |nil=>simp[wC,hz]
  |cons y b=>simp[wC,hz]
def aAe{c:bU}{L:Nat}{a b:List Int}(ha:a.length<10000000)(hb:b.length<10000000)(da:dg a)(db:dg b):
    ∀(d k m:Nat) (cr:Int) (acc:List Int),max a.length b.length+1-k<=d->k<=max a.length b.length+1->(k=max a.length b.length+1->cr=0)->d<m->acc.length=k->0<=cr->cr<=1->
    qK c L m cr a b (k:Int) acc=some (iS (acc++wC (a.drop k) (b.drop k) cr)):=by
 intro d;induction d with
 |zero=>
  intro k m cr acc h1 h1' h0 h2 h3 h4 h5;obtain⟨m,rfl⟩: ∃m',m=m'+1:=⟨m-1,by omega⟩
  have:cr=0:=h0 (by omega)
  subst this;rw[qK,MU,bG (by omega: ¬(k:Int)<(a.length:Int)),bM,bG (by omega: ¬(k:Int)<(b.length:Int)),bM,bG (by omega: ¬(0:Int)<0),Cd,FD,bM,List.drop_eq_nil_of_le (by omega),List.drop_eq_nil_of_le (by omega)]
  simp[wC]
 |succ d ih=>
  intro k m cr acc h1 h1' h0 h2 h3 h4 h5;obtain⟨m,rfl⟩: ∃m',m=m'+1:=⟨m-1,by omega⟩
  have fin: ∀x y:Int,(0<=x/\x<=9)->(0<=y/\y<=9)->hz (a.drop k)=x->hz (b.drop k)=y->(a.drop k≠ []∨b.drop k≠ []∨0<cr)->k<=max a.length b.length->
        My c L (qK c L m) acc (cr+x+y) (k:Int) a b=some (iS (acc++wC (a.drop k) (b.drop k) cr)):=by
   intro x y hx hy ex ey hh hk;rw[My,UY,aDo h4 h5 hh,ex,ey,List.tail_drop,List.tail_drop];rw[show(!decide ((10:Int)=0))=true from rfl,fA,List.length_singleton,aFG (by omega),fA,fA,Int.tmod_eq_emod_of_nonneg (by omega),Int.tdiv_eq_ediv_of_nonneg (by omega),wr (by omega) (by omega),fF (by omega)]
   rw[ih (k+1) m _ _ (by omega) (by omega) (λe=>?_) (by omega) (by simp[h3]) (by omega) (by omega),aQ]
   .rfl
   .have e1: ¬k<a.length:=by omega
    have e2: ¬k<b.length:=by omega
    rw[ED e1]at ex;rw[ED e2]at ey;omega
  have body:(a.drop k≠ []∨b.drop k≠ []∨0<cr)->k<=max a.length b.length->Cd c L (qK c L m) true cr (k:Int) a b acc=some (iS (acc++wC (a.drop k) (b.drop k) cr)):=by
   intro hh hk;have two: ∀x:Int,(0<=x/\x<=9)->hz (a.drop k)=x->Mz c L (qK c L m) acc (cr+x) (k:Int) a b=some (iS (acc++wC (a.drop k) (b.drop k) cr)):=by
    intro x hx ex;rw[Mz,UZ];by_cases e:k<b.length
    .obtain⟨y,hy,ay⟩:=iT e;have dy:=AV db hy;rw[bF (by omega:(k:Int)<(b.length:Int)),bP,bW,hy,cM,wr (by omega) (by omega)]
     exact fin x y hx dy ex (Kc hy) hh hk
    .rw[bG (by omega: ¬(k:Int)<(b.length:Int)),bM]
     have:=fin x 0 hx (by omega) ex (ED e) hh hk
     rw[Int.add_zero]at this;exact this
   rw[Cd,FD,bP];by_cases e:k<a.length
   .obtain⟨x,hx,ax⟩:=iT e;have dx:=AV da hx;rw[bF (by omega:(k:Int)<(a.length:Int)),bP,bW,hx,cM,wr (by omega) (by omega)]
    exact two x dx (Kc hx)
   .rw[bG (by omega: ¬(k:Int)<(a.length:Int)),bM]
    have:=two 0 (by omega) (ED e)
    rw[Int.add_zero]at this;exact this
  rw[qK,MU];by_cases e:k<a.length
  .rw[bF (by omega:(k:Int)<(a.length:Int)),bP]
   exact body (.inl λh=>by rw[List.drop_eq_nil_iff]at h;omega) (by omega)
  .rw[bG (by omega: ¬(k:Int)<(a.length:Int)),bM]
   by_cases e':k<b.length
   .rw[bF (by omega:(k:Int)<(b.length:Int)),bP]
    exact body (.inr (.inl λh=>by rw[List.drop_eq_nil_iff]at h;omega)) (by omega)
   .rw[bG (by omega: ¬(k:Int)<(b.length:Int)),bM]
    by_cases e'':0<cr
    .rw[bF e''];exact body (.inr (.inr e'')) (by omega)
    .have:cr=0:=by omega
     subst this;rw[bG e'',Cd,FD,bM,List.drop_eq_nil_of_le (by omega),List.drop_eq_nil_of_le (by omega)]
     simp[wC]
def aKA{a b:List Int}{L n:Nat}(ha:a.length<10000000)(hb:b.length<10000000)(da:dg a)(db:dg b)(hL:max a.length b.length+1<L):bR L (n+1) 201 (NP a b)=some (iS (wC a b 0)):=by
 show bR L (n+1) 201 [⟨.sl (.int .i64),a⟩,⟨.sl (.int .i64),b⟩]=_;rw[a9m,aNo,U1];exact aAe ha hb da db (max a.length b.length+1) 0 L 0 [] (by omega) (by omega) (by omega) hL rfl (by omega) (by omega)
end Go.TV
namespace Go.TV
open Go.AI Go.PI Go.Proofs
set_option maxRecDepth 20000
noncomputable section
variable(c:bU)(e:Cu)(L:Nat)
def aCB(c:bU)(e:Cu):Kt:=xK En
def UV(a:Bool->Rt)(b:G.Y):Rt:=
 eX (c 221 [yT b.package]) λd=>
 bS d.1 (bS (decide ((1:Int)<=(List.length b.name:Int))) (a (decide ((List.length b.name:Int)<=40))) (a false)) (a false)
def UU(c:bU)(a:Bool):Rt:=
 some [yB a]
def Te:=cS (xD En e [1,1,0] KC (aCB c e))
def aSx:vZ (xF En c e)=UV c (Te c e):=by kernel_rfl
def aSw:cS (xA En c e [1,1,0] KC (aCB c e))=UU c:=by kernel_rfl
def Uu(L:Nat):Bool->Rt:=UU c
def aX9:Te c (cu c L)=Uu c L:=by rw[Te,bX,aSw];rfl
def aNj:G.Y->Rt:=UV c (Uu c L)
def bGv:vZ (xF En c (cu c L))=aNj c L:=by rw[aSx];simp only[aX9];rfl
def a9h(a:G.Y)(L n:Nat):bR L (n+1) 206 [yR 1 a]=aNj (bR L n) L a:=by rw[<-bGv];exact cz (x:=En) (by kernel_rfl) L n _
def aVo(c:bU)(e:Cu):Kt:=xK AH
def aVn:Kt:=xT AH c e [1,1] (aVo c e)
def Rq:Kt:=dK U0 0 (aVn c e)
def aIp(c:bU)(a:List G.Y->Int->G.Y->Rt)(b:List G.Y)(d:G.Y):Rt:=
 a b 0 d
def aGQ(n:Nt):List G.Y->G.Y->Rt:=λx0 x1=>n [yS 1 x0,yR 1 x1]
def aIo(c:bU)(f:List G.Y->Int->G.Y->Rt)(a:List G.Y)(b:Int)(d:G.Y):Rt:=
 bS (decide (b<(List.length a:Int))) (ob (dE a b) λg=>
 bS (decide (g=d)) (some [yB true]) (f a (IntKind.i64.wrap (b+1)) d)) (some [yB false])
def L5(n:Nt):List G.Y->Int->G.Y->Rt:=λx0 x1 x2=>n [yS 1 x0,yI x1,yR 1 x2]
def aGe:=L5 (xE AH e (pw 5 5) AY (Rq c e))
def aSv:aGQ (xF AH c e)=aIp c (aGe c e):=by kernel_rfl
def aSu(n1:Nt):L5 (xA AH c e (pw 5 5) AY (iK U0 AY n1 (Rq c e)))=aIo c (L5 n1):=by kernel_rfl
def LR(c:bU)(L:Nat):Nat->List G.Y->Int->G.Y->Rt
 |0=>λ_ _ _=>none
 |n+1=>aIo c (LR c L n)
def aRq(n:Nat):L5 (xL AH c L (pw 5 5) AY (Rq c (cu c L)) n)=LR c L n:=by
 induction n with
 |zero=>rfl
 |succ n ih=>rw[fV,aSu];simp only[ih];rfl
def aQL:aGe c (cu c L)=LR c L L:=aRq c L L
def a2a:List G.Y->G.Y->Rt:=aIp c (LR c L L)
def bGu:aGQ (xF AH c (cu c L))=a2a c L:=by rw[aSv];simp only[aQL];rfl
def bHM(a:List G.Y)(b:G.Y)(L n:Nat):bR L (n+1) 209 [yS 1 a,yR 1 b]=a2a (bR L n) L a b:=by rw[<-bGu];exact cz (x:=AH) (by kernel_rfl) L n _
def a2L(c:bU)(a:G.T):Rt:=
 bS (!decide (a.kind=3)) (some [yS 3 ([]:List G.T)]) (some [yS 3 a.args])
def a19(L:Nat):G.T->Rt:=a2L c
def bGt:iV (xF aEk c (cu c L))=a19 c L:=by kernel_rfl
def bHL(a:G.T)(L n:Nat):bR L (n+1) 213 [yR 3 a]=a19 (bR L n) L a:=by rw[<-bGt];exact cz (x:=aEk) (by kernel_rfl) L n _
def aVm(c:bU)(e:Cu):Kt:=xK lE
def aVl:Kt:=xT lE c e [1,1,1] (aVm c e)
def IE:Kt:=dK U0 0 (aVl c e)
def aVk(n1:Nt):Kt:=iK U0 wT n1 (IE c e)
def aVj(n1:Nt):Kt:=xT lE c e (pw 8 203) (aVk c e n1)
def aVi(n1:Nt):Kt:=dK U0 1 (aVj c e n1)
def ID(n1:Nt):Kt:=dK U0 2 (aVi c e n1)
def aCA(n2:Nt)(n1:Nt):Kt:=iK U0 wR n2 (ID c e n1)
def aCz(n2:Nt)(n1:Nt):Kt:=xT lE c e (pw 14 9803) (aCA c e n2 n1)
def aVh(n2:Nt)(n1:Nt):Kt:=xT lE c e (pw 15 26187) (aCA c e n2 n1)
def WK(n2:Nt)(n1:Nt):Kt:=dK U0 3 (aVh c e n2 n1)
def UT(c:bU)(d:List Int->List Int->Int->List Int->Rt)(a:List Int)(b:List Int):Rt:=
 kV (decide (0<=(IntKind.i64.wrap ((IntKind.i64.wrap ((List.length a:Int)+(List.length b:Int)))+1)))&&decide ((IntKind.i64.wrap ((IntKind.i64.wrap ((List.length a:Int)+(List.length b:Int)))+1))<=(IntKind.i64.wrap ((IntKind.i64.wrap ((List.length a:Int)+(List.length b:Int)))+1)))&&decide ((IntKind.i64.wrap ((IntKind.i64.wrap ((List.length a:Int)+(List.length b:Int)))+1))*8<=1073741824)&&decide ((IntKind.i64.wrap ((IntKind.i64.wrap ((List.length a:Int)+(List.length b:Int)))+1))<=1073741824))<|
 kV (decide ((IntKind.i64.wrap ((IntKind.i64.wrap ((List.length a:Int)+(List.length b:Int)))+1))=(IntKind.i64.wrap ((IntKind.i64.wrap ((List.length a:Int)+(List.length b:Int)))+1))))<|
 d a b 0 (xY 0 (Int.toNat (IntKind.i64.wrap ((IntKind.i64.wrap ((List.length a:Int)+(List.length b:Int)))+1))))
def MQ(f:Int->Int->Int->List Int->List Int->List Int->Rt)(a:List Int)(g:List Int)(b:Int)(d:List Int):Rt:=
 bS (decide (b<(List.length a:Int))) (f 0 0 b a g d) (rC (c 163 [⟨.sl i6,d⟩]) λh=>
 some [⟨.sl i6,h.1⟩])
def vY(n:Nt):List Int->List Int->Int->List Int->Rt:=λx0 x1 x2 x3=>n [⟨.sl i6,x0⟩,⟨.sl i6,x1⟩,yI x2,⟨.sl i6,x3⟩]
def aGc:=vY (xE lE e (pw 6 11) wT (IE c e))
def FC(c:bU)(f:Bool->Int->Int->Int->List Int->List Int->List Int->Rt)(a:Int)(b:Int)(g:Int)(h:List Int)(d:List Int)(i:List Int):Rt:=
 bS (decide (b<(List.length d:Int))) (f true a b g h d i) (f (decide ((0:Int)<a)) a b g h d i)
def aGb(n1:Nt):=vX (xE lE e (pw 13 1611) wR (ID c e n1))
def FB(c:bU)(h:Int->Int->Int->List Int->List Int->List Int->Rt)(l:List Int->List Int->Int->List Int->Rt)(m:Bool)(i:Int)(a:Int)(b:Int)(g:List Int)(d:List Int)(f:List Int):Rt:=
 bS m (kV (cV (IntKind.i64.wrap (b+a)) (List.length f))<|
 ob (dE f (IntKind.i64.wrap (b+a))) λj=>
 bS (decide (a<(List.length d:Int))) (ob (dE g b) λo=>
 ob (dE d a) λp=>
 h (IntKind.i64.wrap ((IntKind.i64.wrap (j+i))+(IntKind.i64.wrap (o*p)))) a b g d f) (h (IntKind.i64.wrap (j+i)) a b g d f)) (l g d (IntKind.i64.wrap (b+1)) f)
def aGP(n:Nt):Bool->Int->Int->Int->List Int->List Int->List Int->Rt:=λx0 x1 x2 x3 x4 x5 x6=>n [yB x0,yI x1,yI x2,yI x3,⟨.sl i6,x4⟩,⟨.sl i6,x5⟩,⟨.sl i6,x6⟩]
def Td(n2:Nt)(n1:Nt):=aGP (xD lE e (pw 16 17995) KB (aCz c e n2 n1))
def MP(c:bU)(g:Int->Int->Int->List Int->List Int->List Int->Rt)(f:Int)(a:Int)(b:Int)(h:List Int)(i:List Int)(d:List Int):Rt:=
 kV (!decide ((10:Int)=0))<|
 kV (cV (IntKind.i64.wrap (b+a)) (List.length d))<|
 ob (dE d (IntKind.i64.wrap (b+a))) λj=>
 kV (!decide ((10:Int)=0))<|
 g (IntKind.i64.wrap (Int.tdiv f 10)) (IntKind.i64.wrap (a+1)) b h i (List.set d (Int.toNat (IntKind.i64.wrap (b+a))) (Int.tmod f 10))
def Tc(n2:Nt)(n1:Nt):=vX (xD lE e (pw 19 206411) KA (WK c e n2 n1))
def aSt:lN (xF lE c e)=UT c (aGc c e):=by kernel_rfl
def aSs(n1:Nt):vY (xA lE c e (pw 6 11) wT (iK U0 wT n1 (IE c e)))=MQ c (aGb c e n1):=by kernel_rfl
def aSr(n2:Nt)(n1:Nt):vX (xA lE c e (pw 13 1611) wR (iK U0 wR n2 (ID c e n1)))=FC c (Td c e n2 n1):=by kernel_rfl
def aSq(n2:Nt)(n1:Nt):aGP (xA lE c e (pw 16 17995) KB (aCz c e n2 n1))=FB c (Tc c e n2 n1) (vY n1):=by kernel_rfl
def aSp(n2:Nt)(n1:Nt):vX (xA lE c e (pw 19 206411) KA (WK c e n2 n1))=MP c (vX n2):=by kernel_rfl
def Mw(L:Nat)(n2:Int->Int->Int->List Int->List Int->List Int->Rt)(n1:List Int->List Int->Int->List Int->Rt):Int->Int->Int->List Int->List Int->List Int->Rt:=MP c n2
def aX7(n2:Nt)(n1:Nt):Tc c (cu c L) n2 n1=Mw c L (vX n2) (vY n1):=by rw[Tc,bX,aSp];rfl
def Ft(n2:Int->Int->Int->List Int->List Int->List Int->Rt)(n1:List Int->List Int->Int->List Int->Rt):Bool->Int->Int->Int->List Int->List Int->List Int->Rt:=FB c (Mw c L n2 n1) n1
def aX8(n2:Nt)(n1:Nt):Td c (cu c L) n2 n1=Ft c L (vX n2) (vY n1):=by rw[Td,bX,aSq];simp only[aX7];rfl
def tD(c:bU)(L:Nat)(n1:List Int->List Int->Int->List Int->Rt):Nat->Int->Int->Int->List Int->List Int->List Int->Rt
 |0=>λ_ _ _ _ _ _=>none
 |n+1=>FC c (Ft c L (tD c L n1 n) n1)
def aRo(n1:Nt)(n:Nat):vX (xL lE c L (pw 13 1611) wR (ID c (cu c L) n1) n)=tD c L (vY n1) n:=by
 induction n with
 |zero=>rfl
 |succ n ih=>rw[fV,aSr];simp only[aX8,ih];rfl
def aQJ(n1:Nt):aGb c (cu c L) n1=tD c L (vY n1) L:=aRo c L n1 L
def vU(c:bU)(L:Nat):Nat->List Int->List Int->Int->List Int->Rt
 |0=>λ_ _ _ _=>none
 |n+1=>MQ c (tD c L (vU c L n) L)
def aRp(n:Nat):vY (xL lE c L (pw 6 11) wT (IE c (cu c L)) n)=vU c L n:=by
 induction n with
 |zero=>rfl
 |succ n ih=>rw[fV,aSs];simp only[aQJ,ih];rfl
def aQK:aGc c (cu c L)=vU c L L:=aRp c L L
def aNi:List Int->List Int->Rt:=UT c (vU c L L)
def bGs:lN (xF lE c (cu c L))=aNi c L:=by rw[aSt];simp only[aQK];rfl
def a9g(a:List Int)(b:List Int)(L n:Nat):bR L (n+1) 216 [⟨.sl i6,a⟩,⟨.sl i6,b⟩]=aNi (bR L n) L a b:=by rw[<-bGs];exact cz (x:=lE) (by kernel_rfl) L n _
def aIl(c:bU)(a:G.O):Rt:=
 bS (decide (a.kind=1)) (some [yI 1]) (bS (decide (a.kind=3)) (some [yI 2]) (bS (decide (a.kind=2)) (some [yI 3]) (some [yI 4])))
def aNh(L:Nat):G.O->Rt:=aIl c
def bGr:gK (xF aEj c (cu c L))=aNh c L:=by kernel_rfl
def a9f(a:G.O)(L n:Nat):bR L (n+1) 217 [yR 2 a]=aNh (bR L n) L a:=by rw[<-bGr];exact cz (x:=aEj) (by kernel_rfl) L n _
def aVg(c:bU)(e:Cu):Kt:=xK yP
def aVf:Kt:=xT yP c e (pw 4 15) (aVg c e)
def IC:Kt:=dK U0 0 (aVf c e)
def US(d:Bool->Bool->Bool->List Int->List Int->Rt)(f:List UInt8)(g:List UInt8):Rt:=
 yA (c 131 [yT f]) λa=>
 yA (c 131 [yT g]) λb=>
 bS a.1 (d (!b.1) b.1 a.1 a.2.1 b.2.1) (d false b.1 a.1 a.2.1 b.2.1)
def UR(c:bU)(b:Bool->Bool->List Int->List Int->Rt)(g:Bool)(h:Bool)(a:Bool)(d:List Int)(f:List Int):Rt:=
 bS g (some [yI (-1)]) (bS (!a) (b h a d f) (b false a d f))
def aGO(n:Nt):Bool->Bool->Bool->List Int->List Int->Rt:=λx0 x1 x2 x3 x4=>n [yB x0,yB x1,yB x2,⟨.sl i6,x3⟩,⟨.sl i6,x4⟩]
def Tb:=aGO (xD yP e (pw 7 39) Kz (IC c e))
def UQ(d:Bool)(f:Bool)(a:List Int)(b:List Int):Rt:=
 bS d (some [yI 1]) (bS f (jB (c 164 [⟨.sl i6,b⟩,⟨.sl i6,a⟩]) λg=>
 some [yI g.1]) (jB (c 164 [⟨.sl i6,a⟩,⟨.sl i6,b⟩]) λh=>
 some [yI h.1]))
def aGN(n:Nt):Bool->Bool->List Int->List Int->Rt:=λx0 x1 x2 x3=>n [yB x0,yB x1,⟨.sl i6,x2⟩,⟨.sl i6,x3⟩]
def Ta:=aGN (xD yP e (pw 10 423) Ky (IC c e))
def aSo:qN (xF yP c e)=US c (Tb c e):=by kernel_rfl
def aSn:aGO (xA yP c e (pw 7 39) Kz (IC c e))=UR c (Ta c e):=by kernel_rfl
def aSm:aGN (xA yP c e (pw 10 423) Ky (IC c e))=UQ c:=by kernel_rfl
def Us(L:Nat):Bool->Bool->List Int->List Int->Rt:=UQ c
def aX5:Ta c (cu c L)=Us c L:=by rw[Ta,bX,aSm];rfl
def Ut:Bool->Bool->Bool->List Int->List Int->Rt:=UR c (Us c L)
def aX6:Tb c (cu c L)=Ut c L:=by rw[Tb,bX,aSn];simp only[aX5];rfl
def aNg:List UInt8->List UInt8->Rt:=US c (Ut c L)
def bGq:qN (xF yP c (cu c L))=aNg c L:=by rw[aSo];simp only[aX6];rfl
def a9e(a:List UInt8)(b:List UInt8)(L n:Nat):bR L (n+1) 218 [yT a,yT b]=aNg (bR L n) L a b:=by rw[<-bGq];exact cz (x:=yP) (by kernel_rfl) L n _
def aCy(c:bU)(e:Cu):Kt:=xK oW
def aCx:Kt:=xT oW c e [1,1] (aCy c e)
def aVe:Kt:=xT oW c e [1,1,1] (aCy c e)
def IB:Kt:=dK U0 0 (aVe c e)
def aVd(n2:Nt):Kt:=iK U0 wQ n2 (IB c e)
def aVc(n2:Nt):Kt:=xT oW c e (pw 8 203) (aVd c e n2)
def aCw(n2:Nt):Kt:=dK U0 1 (aVc c e n2)
def UP(c:bU)(b:Bool->List UInt8->Rt)(a:List UInt8):Rt:=
 bS (decide ((List.length a:Int)<1)) (b true a) (bS (decide ((40:Int)<(List.length a:Int))) (b true a) (ob (dE a 0) λd=>
 bS (decide ((d.toNat:Int)<97)) (b true a) (ob (dE a 0) λf=>
 b (decide ((122:Int)<(f.toNat:Int))) a)))
def aIk(c:bU)(a:List UInt8->Int->Rt)(b:Bool)(d:List UInt8):Rt:=
 bS b (some [yB false]) (a d 0)
def S9:=L4 (xD oW e (pw 4 5) Kx (aCx c e))
def MO(c:bU)(f:Bool->Int->List UInt8->Rt)(b:List UInt8)(d:Int):Rt:=
 bS (decide (d<(List.length b:Int))) (ob (dE b d) λa=>
 bS (decide ((a.toNat:Int)<97)) (bS (decide ((a.toNat:Int)<48)) (f (!decide ((a.toNat:Int)=45)) d b) (bS (decide ((57:Int)<(a.toNat:Int))) (f (!decide ((a.toNat:Int)=45)) d b) (f false d b))) (bS (decide ((122:Int)<(a.toNat:Int))) (bS (decide ((a.toNat:Int)<48)) (f (!decide ((a.toNat:Int)=45)) d b) (bS (decide ((57:Int)<(a.toNat:Int))) (f (!decide ((a.toNat:Int)=45)) d b) (f false d b))) (f false d b))) (some [yB true])
def aF9:=dZ (xE oW e (pw 6 11) wQ (IB c e))
def UO(c:bU)(a:List UInt8->Int->Rt)(b:Bool)(d:Int)(f:List UInt8):Rt:=
 bS b (some [yB false]) (a f (IntKind.i64.wrap (d+1)))
def S8(n2:Nt):=qO (xD oW e (pw 12 1611) Kw (aCw c e n2))
def aSl:iW (xF oW c e)=UP c (S9 c e):=by kernel_rfl
def aSk:L4 (xA oW c e (pw 4 5) Kx (aCx c e))=aIk c (aF9 c e):=by kernel_rfl
def aSj(n2:Nt):dZ (xA oW c e (pw 6 11) wQ (iK U0 wQ n2 (IB c e)))=MO c (S8 c e n2):=by kernel_rfl
def aSi(n2:Nt):qO (xA oW c e (pw 12 1611) Kw (aCw c e n2))=UO c (dZ n2):=by kernel_rfl
def Mv(L:Nat)(n2:List UInt8->Int->Rt):Bool->Int->List UInt8->Rt:=UO c n2
def aX3(n2:Nt):S8 c (cu c L) n2=Mv c L (dZ n2):=by rw[S8,bX,aSi];rfl
def vT(c:bU)(L:Nat):Nat->List UInt8->Int->Rt
 |0=>λ_ _=>none
 |n+1=>MO c (Mv c L (vT c L n))
def aRn(n:Nat):dZ (xL oW c L (pw 6 11) wQ (IB c (cu c L)) n)=vT c L n:=by
 induction n with
 |zero=>rfl
 |succ n ih=>rw[fV,aSj];simp only[aX3,ih];rfl
def aQI:aF9 c (cu c L)=vT c L L:=aRn c L L
def Ur:Bool->List UInt8->Rt:=aIk c (vT c L L)
def aX4:S9 c (cu c L)=Ur c L:=by rw[S9,bX,aSk];simp only[aQI];rfl
def aNf:List UInt8->Rt:=UP c (Ur c L)
def bGp:iW (xF oW c (cu c L))=aNf c L:=by rw[aSl];simp only[aX4];rfl
def a9d(a:List UInt8)(L n:Nat):bR L (n+1) 221 [yT a]=aNf (bR L n) L a:=by rw[<-bGp];exact cz (x:=oW) (by kernel_rfl) L n _
end
end Go.TV
