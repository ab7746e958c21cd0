import Derived.Test.YtjapdpcodgaoaaaGreatDoorKf
import Derived.Test.YtjapdpcodgaoaaaGreatDoorProg
open Option renaming some->aa,none->ae
open Bool renaming true->ah,false->aj,false_eq_true->im,and_self->n8
open Decidable renaming decide->ak
open List renaming length->am,drop_eq_nil_of_le->eu
open Nat renaming beq->ao,ble->aq,zero_add->ir
open Go renaming Value->av,TypeId->aw,Program->az,Operand->a8,Oper->ic
open Go.IntKind renaming i64->ez
open Go.Proofs.Tryz renaming prog->f4
open Go.AI renaming Slots->ia
open Int renaming le_refl->oc
set_option linter.all false
namespace Go.TV
open Go.AI Go.PI
def le{W:Type}(a b:f9 W):Prop:= ∀r,a=aa r->b=aa r
def gH{W:Type}{b:f9 W}:le ae b:=λr h=>by cases h
def BM{W:Type}{b:f9 W}:le b b:=λr h=>h
def jH{W:Type}{b:Bool}{A B A' B':f9 W}(h1:le A A')(h2:le B B'):le (bW b A B) (bW b A' B'):=by cases b;exact h2;exact h1
def fB{W:Type}{b:Bool}{A B A' B':f9 W}(h1:le A A')(h2:le B B'):le (bif b then A else B) (bif b then A' else B'):=by cases b;exact h2;exact h1
def jQ{W:Type}{b:Bool}{A A':f9 W}(h:le A A'):le (lZ b A) (lZ b A'):=by cases b;exact gH;exact h
def tH{N W:Type}{a:f9 N}{K K':N->f9 W}(h: ∀x,le (K x) (K' x)):le (ob a K) (ob a K'):=by cases a;exact gH;exact h _
section
variable{U:iY}{W:Type}
def aPn{op:BinOp}{k:IntKind}{a b:Int}{K K':V U->f9 W}(h: ∀x,le (K x) (K' x)):le (aHj U op k a b K) (aHj U op k a b K'):=by
 unfold aHj
 repeat' first|exact h _|exact gH|apply fB|apply jQ|apply jH|split
def aXo{op:BinOp}{k:IntKind}{a b:Int}{K K':V U->f9 W}(h: ∀x,le (K x) (K' x)):le (a8m U op k a b K) (a8m U op k a b K'):=by
 unfold a8m
 repeat' first|exact h _|exact gH|apply fB|apply jQ|apply jH|split
def aNO{op:BinOp}{a b:au UInt8}{K K':V U->f9 W}(h: ∀x,le (K x) (K' x)):le (aEN U op a b K) (aEN U op a b K'):=by
 unfold aEN
 repeat' first|exact h _|exact gH|apply fB|apply jQ|apply jH|split
def aQU{op:BinOp}{t:f9 Ty}{a b:SV U.D}{K K':V U->f9 W}(h: ∀x,le (K x) (K' x)):le (aDD U op t a b K) (aDD U op t a b K'):=by
 unfold aDD
 repeat' first|exact h _|exact gH|exact aPn h|exact aXo h|exact aNO h|apply fB|apply jQ|apply jH|split
def aWy{op:UnOp}{a:SV U.D}{K K':V U->f9 W}(h: ∀x,le (K x) (K' x)):le (a6s U op a K) (a6s U op a K'):=by
 unfold a6s
 repeat' first|exact h _|exact h _ _|exact gH|exact BM|apply fB|apply jQ|apply jH|(apply tH;intro x)|split
def aIx{sq:Bool}{s d:f9 Ty}{a:SV U.D}{K K':V U->f9 W}(h: ∀x,le (K x) (K' x)):le (Kj U sq s d a K) (Kj U sq s d a K'):=by
 unfold Kj
 repeat' first|exact h _|exact h _ _|exact gH|exact BM|apply fB|apply jQ|apply jH|(apply tH;intro x)|split
def aGo{w:Bool}{a b:X U}{K K':X U->f9 W}(h: ∀x,le (K x) (K' x)):le (JM U w a b K) (JM U w a b K'):=by
 unfold JM
 repeat' first|exact h _|exact h _ _|exact gH|exact BM|apply fB|apply jQ|apply jH|(apply tH;intro x)|split
def aXj{S:TS U.D}{t:f9 Ty}{x:SV U.D}{lo hi mx:f9 a8}{K K':X U->f9 W}(h: ∀x,le (K x) (K' x)):le (a6w U S t x lo hi mx K) (a6w U S t x lo hi mx K'):=by
 unfold a6w
 repeat' first|exact h _|exact h _ _|exact gH|exact BM|apply fB|apply jQ|apply jH|(apply tH;intro x)|split
def aPe{t:f9 Ty}{x:SV U.D}{K K':X U->f9 W}(h: ∀x,le (K x) (K' x)):le (aDf U t x K) (aDf U t x K'):=by
 unfold aDf
 repeat' first|exact h _|exact h _ _|exact gH|exact BM|apply fB|apply jQ|apply jH|(apply tH;intro x)|split
def a1N{mx:Bool}{a b:SV U.D}{K K':X U->f9 W}(h: ∀x,le (K x) (K' x)):le (a1O U mx a b K) (a1O U mx a b K'):=by
 unfold a1O
 repeat' first|exact h _|exact h _ _|exact gH|exact BM|apply fB|apply jQ|apply jH|(apply tH;intro x)|split
def a2e{T:TT}{take:Bool}{M:TM U.D}{t:aw}{a:SV U.D}{K K':X U->TM U.D->f9 W}(h: ∀x M,le (K x M) (K' x M)):le (a6D U T take M t a K) (a6D U T take M t a K'):=by
 unfold a6D
 repeat' first|exact h _|exact h _ _|exact gH|exact BM|apply fB|apply jQ|apply jH|(apply tH;intro x)|split
def aXg{T:TT}{M:TM U.D}{t:aw}{a:SV U.D}{x:X U}{K K':TM U.D->f9 W}(h: ∀M,le (K M) (K' M)):le (stT U T M t a x K) (stT U T M t a x K'):=by
 unfold stT
 repeat' first|exact h _|exact h _ _|exact gH|exact BM|apply fB|apply jQ|apply jH|(apply tH;intro x)|split
def LO{M:TM U.D}{k:Nat}{c:BC U.D}{K K':TM U.D->f9 W}(h: ∀M,le (K M) (K' M)):le (IJ U M k c K) (IJ U M k c K'):=by
 unfold IJ
 repeat' first|exact h _|exact h _ _|exact gH|exact BM|apply fB|apply jQ|apply jH|(apply tH;intro x)|split
def a5t{T:TT}{M:TM U.D}{d:f9 Tmp}{t:aw}{K K':X U->TM U.D->f9 W}(h: ∀x M,le (K x M) (K' x M)):le (a6L U T M d t K) (a6L U T M d t K'):=by
 unfold a6L
 repeat' first|exact gH|(apply LO;intro M';exact h _ _)|apply fB|split
def a42{T:TT}{M:TM U.D}{d:f9 Tmp}{t:aw}{x:X U}{K K':X U->TM U.D->f9 W}(h: ∀x M,le (K x M) (K' x M)):le (a6J U T M d t x K) (a6J U T M d t x K'):=by
 unfold a6J
 repeat' first|exact gH|(apply LO;intro M';exact h _ _)|apply fB|split
def a1M{T:TT}{M:TM U.D}{d:f9 Tmp}{t:aw}{z:Bool}{e:aw->f9 aw}{l c:SV U.D}{K K':X U->TM U.D->f9 W}(h: ∀x M,le (K x M) (K' x M)):le (a6C U T M d t z e l c K) (a6C U T M d t z e l c K'):=by
 unfold a6C
 repeat' first|exact h _ _|exact gH|(apply LO;intro M';exact h _ _)|apply fB|apply jQ|split
def a5n{T:TT}{e:aw->f9 aw}{ts:au aw}{s:X U}{x:SV U.D}{K K':X U->f9 W}(h: ∀x,le (K x) (K' x)):le (a6K U T e ts s x K) (a6K U T e ts s x K'):=by
 unfold a6K
 repeat' first|exact h _|exact h _ _|exact gH|exact BM|apply fB|apply jQ|apply jH|(apply tH;intro x)|split
def aQ6{T:TT}{e:aw->f9 aw}{ts:au aw}{t1 t2:aw}{s:X U}{zz n x:SV U.D}{K K':V U->V U->f9 W}(h: ∀x y,le (K x y) (K' x y)):le (aDH U T e ts t1 t2 s zz n x K) (aDH U T e ts t1 t2 s zz n x K'):=by
 unfold aDH
 repeat' first|exact h _|exact h _ _|exact gH|exact BM|apply fB|apply jQ|apply jH|(apply tH;intro x)|split
def aNR{own:Bool}{l:au (V U)}{K K':X U->f9 W}(h: ∀x,le (K x) (K' x)):le (aCN U own l K) (aCN U own l K'):=by
 unfold aCN
 repeat' first|exact h _|exact h _ _|exact gH|exact BM|apply fB|apply jQ|apply jH|(apply tH;intro x)|split
def aPg{M:TM U.D}{t:f9 Ty}{x:SV U.D}{K K':X U->f9 W}(h: ∀x,le (K x) (K' x)):le (aDg U M t x K) (aDg U M t x K'):=by
 unfold aDg
 repeat' first|exact h _|exact gH|exact aPe h|apply fB|split
def aIX{K K':Nat->f9 W}(h: ∀x,le (K x) (K' x)){m:Int}: ∀(f j:Nat),le (a5l K m j f) (a5l K' m j f)
 |0,j=>gH
 |f+1,j=>jH (h j) (aIX h f (j+1))
def a1C{ts:au Ty}{a a':f9 (au (V U))}{K K':DenL U.D ts->f9 W}(ha:le a a')(h: ∀x,le (K x) (K' x)):le (gO ts a K) (gO ts a' K'):=by
 unfold gO;cases a with
 |none=>exact gH
 |some l=>
  rw[ha l rfl]
  dsimp only
  split
  .exact h _
  .exact gH
def a6O(c c':rM U.D):Prop:= ∀i d,le (c i d) (c' i d)
variable{TPr:TP U.D}{c c':rM U.D}
def aIJ(hc:a6O c c'){take:Bool}{inst:Nat}{bk:au Nat}{S:TS U.D}{M:TM U.D}{f:SV U.D}{args:au a8}{K K':X U->TS U.D->TM U.D->f9 W}(h: ∀x S M,le (K x S M) (K' x S M)):
    le (Km U TPr c take inst bk S M f args K) (Km U TPr c' take inst bk S M f args K'):=by
 unfold Km
 repeat' first|exact gH|apply fB|(refine a1C (hc _ _) λr=>?_)|(refine aNR λx=>?_;exact h _ _ _)|split
def aGD(hc:a6O c c'){sq take:Bool}{inst:Nat}{bk:au Nat}{o:ic}{S:TS U.D}{M:TM U.D}{K K':X U->TS U.D->TM U.D->f9 W}(h: ∀x S M,le (K x S M) (K' x S M)):
    le (Dj U TPr c sq take inst bk o S M K) (Dj U TPr c' sq take inst bk o S M K'):=by
 unfold Dj
 repeat' first|exact h _ _ _|exact gH|exact aIJ hc h|(apply aGo;intro r;exact h _ _ _)|(apply aQU;intro r;exact h _ _ _)|(apply aWy;intro r;exact h _ _ _)|(apply aIx;intro r;exact h _ _ _)|(apply a2e;intro r M';exact h _ _ _)|
  (apply aXj;intro r;exact h _ _ _)|(apply a5t;intro r M';exact h _ _ _)|(apply a42;intro r M';exact h _ _ _)|(apply a1M;intro r M';exact h _ _ _)|(apply aXg;intro M';exact h _ _ _)|(apply aPg;intro r;exact h _ _ _)|(apply a1N;intro r;exact h _ _ _)|
  (apply a5n;intro r;exact h _ _ _)|(apply aIX;intro j)|apply fB|apply jQ|(apply tH;intro x)|split
def aHO{ops:Array ic}{o:ic}{S:TS U.D}{run skip run' qy:TS U.D->f9 W}(h1: ∀S,le (run S) (run' S))(h2: ∀S,le (skip S) (qy S)):le (a3V U ops o S run skip) (a3V U ops o S run' qy):=by
 unfold a3V
 repeat' first|exact h1 _|exact h2 _|exact gH|apply jH|apply fB|split
def aBr{oA oI oS:ic}{S:TS U.D}{K K':TS U.D->f9 W}(h: ∀S,le (K S) (K' S)):le (VA U TPr oA oI oS S K) (VA U TPr oA oI oS S K'):=by
 unfold VA
 repeat' first|exact gH|apply fB|(apply aQ6;intro v w;exact h _)|split
def aN8(hc:a6O c c'){ops:Array ic}: ∀(sc:au TStep) (S:TS U.D) (M:TM U.D) {K K':TS U.D->TM U.D->f9 W},(∀S M,le (K S M) (K' S M))->le (AX U TPr c ops sc S M K) (AX U TPr c' ops sc S M K'):=by
 intro sc;induction sc with
 |nil=>intro S M K K' h;exact h S M
 |cons s sc ih=>
  intro S M K K' h;cases s with
  |app a i s=>
   simp only[AX];split
   .exact aBr λS'=>ih S' M h
   .exact gH
  |freeze t=>
   simp only[AX];split
   .exact ih _ _ h
   .exact gH
  |op i take inst bk=>
   simp only[AX];split
   .exact gH
   .exact aHO (λS=>aGD hc λx S' M'=>ih _ _ h) (λS=>ih _ _ h)
def aFb(hc:a6O c c'){ops:Array ic}{ms:au Nat}: ∀(sc:au TStep) (pend:au Qv) (S:TS U.D) (M:TM U.D) {K K':TS U.D->TM U.D->f9 W},(∀S M,le (K S M) (K' S M))->le (oT U TPr c ops ms sc pend S M K) (oT U TPr c' ops ms sc pend S M K'):=by
 intro sc;induction sc with
 |nil=>intro pend S M K K' h;exact fB (h S M) gH
 |cons s sc ih=>
  intro pend S M K K' h;cases s with
  |app a i s=>
   simp only[oT];split
   .exact aBr λS'=>fB (ih _ _ _ h) gH
   .exact gH
  |freeze t=>
   simp only[oT];split
   .exact ih _ _ _ h
   .exact gH
  |op i take inst bk=>
   simp only[oT];split
   .exact gH
   .refine aHO (λS=>aGD hc λx S' M'=>fB (fB (ih _ _ _ h) gH) ?_) (λS=>ih _ _ _ h)
    split
    .exact ih _ _ _ h
    .exact gH
def aEI{run run':TS U.D->TM U.D->TK U.D W->f9 W}{K K':TK U.D W}(hr: ∀S M,le (run S M K) (run' S M K'))(h: ∀fl S M,le (K fl S M) (K' fl S M)): ∀fl S M,le (EF U run K fl S M) (EF U run' K' fl S M):=by
 intro fl S M;cases fl<;>first|exact hr S M|exact h _ S M
def aQS{id:Nat}{K K':TK U.D W}(h: ∀fl S M,le (K fl S M) (K' fl S M)): ∀fl S M,le (dM U id K fl S M) (dM U id K' fl S M):=by
 intro fl S M;cases fl<;>first|exact h _ S M|exact fB (h _ S M) (h _ S M)
def a1Q{ct:Cut}{k k':au (V U)->f9 W}{K K':TK U.D W}(hk: ∀d,le (k d) (k' d))(h: ∀fl S M,le (K fl S M) (K' fl S M)): ∀fl S M,le (iL U ct k K fl S M) (iL U ct k' K' fl S M):=by
 intro fl S M;cases fl<;>first
  |exact h _ S M
  |exact(show le (match IN U ct S M with|some d=>k d|none=>ae) (match IN U ct S M with|some d=>k' d|none=>ae) from by cases IN U ct S M with|none=>exact gH|some d=>exact hk d)
def Gb{ct:Cut}{run run':TS U.D->TM U.D->f9 W}(h: ∀S M,le (run S M) (run' S M))(d:au (V U)):le (qJ U ct run d) (qJ U ct run' d):=by
 unfold qJ;split
 .exact h _ _
 .exact gH
def aG8{ct:Cut}{b b':TS U.D->TM U.D->TK U.D W->f9 W}(hb: ∀S M K K',(∀fl S M,le (K fl S M) (K' fl S M))->le (b S M K) (b' S M K')){K K':TK U.D W}(h: ∀fl S M,le (K fl S M) (K' fl S M)):
    ∀(n n':Nat),n<=n'->∀d,le (Dn U ct b K n d) (Dn U ct b' K' n' d):=by
 intro n;induction n with
 |zero=>intro n' _ d;exact gH
 |succ n ih=>
  intro n' hn d;obtain⟨n',rfl⟩: ∃m,n'=m+1:=⟨n'-1,by omega⟩
  exact Gb (λS M=>hb S M _ _ (a1Q (λd=>ih n' (by omega) d) h)) d
def aH6(hc:a6O c c'){L L':Nat}(hL:L<=L'): ∀(code:TC) (S:TS U.D) (M:TM U.D) {K K':TK U.D W},(∀fl S M,le (K fl S M) (K' fl S M))->le (gD U TPr c L code S M K) (gD U TPr c' L' code S M K'):=by
 intro code;induction code with
 |skip=>intro S M K K' h;exact h _ S M
 |label _=>intro S M K K' h;exact h _ S M
 |region id ops draw ms sc=>
  intro S M K K' h;cases draw with
  |true=>exact aFb hc sc [] S _ λS' M'=>fB (h _ S' M') gH
  |false=>exact aN8 hc sc S M λS' M'=>h _ S' M'
 |seq a b fi jq=>intro S M K K' h;exact fi S M (aEI (λS M=>jq S M h) h)
 |cond x a b fi jq=>
  intro S M K K' h;simp only[gD];split
  .exact jH (fi S M h) (jq S M h)
  .exact gH
 |block id a ih=>intro S M K K' h;exact ih S M (aQS h)
 |loop ct a ih=>
  intro S M K K' h;simp only[gD];split
  .exact aG8 (λS M K K' h=>ih S M h) h L L' hL _
  .exact gH
 |exit id=>intro S M K K' h;exact h _ S M
 |ret=>intro S M K K' h;exact h _ S M
 |scope a ih=>intro S M K K' h;exact ih S M h
 |cut ct a ih=>
  intro S M K K' h;simp only[gD];split
  .exact Gb (λS M=>ih S M h) _
  .exact gH
 |ice t a ih=>
  intro S M K K' h;simp only[gD];split
  .exact ih _ _ h
  .exact gH
 |other _=>intro S M K K' h;exact gH
end
def aIG{U:iY}{TPr:TP U.D}{G:aRp}{L L':Nat}(hL:L<=L'): ∀(n n':Nat),n<=n'->a6O (yA U TPr G L n) (yA U TPr G L' n'):=by
 intro n;induction n with
 |zero=>intro n' _ i d;exact gH
 |succ n ih=>
  intro n' hn i d;obtain⟨n',rfl⟩: ∃m,n'=m+1:=⟨n'-1,by omega⟩
  simp only[yA];split
  .refine fB ?_ gH;split
   .exact BM
   .exact Gb (λS M=>aH6 (ih n' (by omega)) hL _ S M λfl S M=>BM) d
  .exact gH
end Go.TV
namespace Go.TV
abbrev zS(n:Nat):Ty:= .sl (.rc n)
abbrev i6:Ty:= .int .i64
end Go.TV
namespace Go.TV
open Go.AI Go.PI
namespace G
structure Z where
 b:(List Int)
 pos:Int
structure Y where
 package:(List UInt8)
 name:(List UInt8)
inductive O where
 |mk (kind:Int) (num:(List UInt8)) (den:(List UInt8)) (sym:Y) (text:(List UInt8)) (pair:(List O))
def O.kind:O->Int|⟨x,_,_,_,_,_⟩=>x
def O.num:O->(List UInt8)|⟨_,x,_,_,_,_⟩=>x
def O.den:O->(List UInt8)|⟨_,_,x,_,_,_⟩=>x
def O.sym:O->Y|⟨_,_,_,x,_,_⟩=>x
def O.text:O->(List UInt8)|⟨_,_,_,_,x,_⟩=>x
def O.pair:O->(List O)|⟨_,_,_,_,_,x⟩=>x
inductive T where
 |mk (kind:Int) (name:Y) (value:O) (args:(List T))
def T.kind:T->Int|⟨x,_,_,_⟩=>x
def T.name:T->Y|⟨_,x,_,_⟩=>x
def T.value:T->O|⟨_,_,x,_⟩=>x
def T.args:T->(List T)|⟨_,_,_,x⟩=>x
structure F where
 name:Y
 params:(List Y)
 cls:Int
 guard:T
 body:T
 measure:T
structure A where
 name:(List UInt8)
 imports:(List Y)
structure M where
 name:Y
 params:(List Y)
 rest:Bool
 body:T
structure D where
 name:Y
 length:Int
 initial:O
structure B where
 name:Y
 fields:(List D)
structure I where
 var:Y
 term:T
structure C where
 tests:(List T)
 substs:(List (List I))
structure J where
 name:Y
 params:(List Y)
 body:T
structure N where
 rule:Int
 a:Int
 b:Int
 name:Y
 term:T
 measure:T
 clause:(List T)
 subst:(List I)
 lines:(List Int)
 cases:(List C)
 functional:(List J)
 weights:(List O)
structure Q where
 a0:Y
 a1:Y
structure U where
 name:Y
 cls:Int
 hyps:(List T)
 equiv:Y
 left:T
 right:T
 terms:(List T)
 tset:Int
 stops:(List Q)
 arg:Int
 inner:Y
inductive E where
 |mk (kind:Int) (name:Y) (package:A) (mac:M) (functions:(List F)) (formulas:(List T)) (logs:(List (List N))) (locl:(List E)) (stobj:B) (rules:(List U)) (enabled:(List Y)) (disabled:(List Y)) (text:(List UInt8)) (hash:Int)
def E.kind:E->Int|⟨x,_,_,_,_,_,_,_,_,_,_,_,_,_⟩=>x
def E.name:E->Y|⟨_,x,_,_,_,_,_,_,_,_,_,_,_,_⟩=>x
def E.package:E->A|⟨_,_,x,_,_,_,_,_,_,_,_,_,_,_⟩=>x
def E.mac:E->M|⟨_,_,_,x,_,_,_,_,_,_,_,_,_,_⟩=>x
def E.functions:E->(List F)|⟨_,_,_,_,x,_,_,_,_,_,_,_,_,_⟩=>x
def E.formulas:E->(List T)|⟨_,_,_,_,_,x,_,_,_,_,_,_,_,_⟩=>x
def E.logs:E->(List (List N))|⟨_,_,_,_,_,_,x,_,_,_,_,_,_,_⟩=>x
def E.locl:E->(List E)|⟨_,_,_,_,_,_,_,x,_,_,_,_,_,_⟩=>x
def E.stobj:E->B|⟨_,_,_,_,_,_,_,_,x,_,_,_,_,_⟩=>x
def E.rules:E->(List U)|⟨_,_,_,_,_,_,_,_,_,x,_,_,_,_⟩=>x
def E.enabled:E->(List Y)|⟨_,_,_,_,_,_,_,_,_,_,x,_,_,_⟩=>x
def E.disabled:E->(List Y)|⟨_,_,_,_,_,_,_,_,_,_,_,x,_,_⟩=>x
def E.text:E->(List UInt8)|⟨_,_,_,_,_,_,_,_,_,_,_,_,x,_⟩=>x
def E.hash:E->Int|⟨_,_,_,_,_,_,_,_,_,_,_,_,_,x⟩=>x
structure L where
 name:(List UInt8)
 formula:T
 cls:Int
structure S where
 var:Y
 value:O
structure W where
 w:(List E)
 left:Int
structure Finding where
 tset:Int
 literal:T
 negated:T
structure X where
 err:Int
 pos:Int
structure K where
 kind:Int
 pos:Int
 package:(List UInt8)
 text:(List UInt8)
 den:(List UInt8)
structure P where
 l:(List A)
 current:(List UInt8)
 t:(List K)
 pos:Int
structure V where
 w:(List E)
 extra:(List F)
 left:Int
structure R where
 name:(List UInt8)
 arity:Int
deriving instance DecidableEq for Y
def lM{α:Type}(e:α->List PV)(l:List α):List PV:=l.map λx=> .agg (e x)
def eGZ(x:Z):List PV:=[eO 1 (List.map (λn=>PV.v (.int .u8 n)) x.b)]++ [.v (.int .i64 x.pos)]
def eGY(x:Y):List PV:=[.str x.package]++ [.str x.name]
mutual
def eGO:O->List PV
 |⟨x0,x1,x2,x3,x4,x5⟩=>[.v (.int .i64 x0)]++ [.str x1]++ [.str x2]++eGY x3++ [.str x4]++ [eO 7 (zH x5)]
def zH:List O->List PV
 |[]=>[]
 |x::l=> .agg (eGO x)::zH l
end
def mGO(l:List O):zH l=l.map λx=> .agg (eGO x):=by
 induction l with
 |nil=>simp only[zH,List.map_nil]
 |cons x l ih=>simp only[zH,ih,aO]
mutual
def eGT:T->List PV
 |⟨x0,x1,x2,x3⟩=>[.v (.int .i64 x0)]++eGY x1++eGO x2++ [eO 11 (AB x3)]
def AB:List T->List PV
 |[]=>[]
 |x::l=> .agg (eGT x)::AB l
end
def mGT(l:List T):AB l=l.map λx=> .agg (eGT x):=by
 induction l with
 |nil=>simp only[AB,List.map_nil]
 |cons x l ih=>simp only[AB,ih,aO]
def eGF(x:F):List PV:=eGY x.name++ [eO 2 (lM eGY x.params)]++ [.v (.int .i64 x.cls)]++eGT x.guard++eGT x.body++eGT x.measure
def eGA(x:A):List PV:=[.str x.name]++ [eO 2 (lM eGY x.imports)]
def eGM(x:M):List PV:=eGY x.name++ [eO 2 (lM eGY x.params)]++ [.v (.bool x.rest)]++eGT x.body
def eGD(x:D):List PV:=eGY x.name++ [.v (.int .i64 x.length)]++eGO x.initial
def eGB(x:B):List PV:=eGY x.name++ [eO 10 (lM eGD x.fields)]
def eGI(x:I):List PV:=eGY x.var++eGT x.term
def eGC(x:C):List PV:=[eO 11 (AB x.tests)]++ [eO 1 (List.map (λl=>eO 13 (lM eGI l)) x.substs)]
def eGJ(x:J):List PV:=eGY x.name++ [eO 2 (lM eGY x.params)]++eGT x.body
def eGN(x:N):List PV:=[.v (.int .i64 x.rule)]++ [.v (.int .i64 x.a)]++ [.v (.int .i64 x.b)]++eGY x.name++eGT x.term++eGT x.measure++ [eO 11 (AB x.clause)]++ [eO 13 (lM eGI x.subst)]++ [eO 1 (List.map (λn=>PV.v (.int .i64 n)) x.lines)]++ [eO 2 (lM eGC x.cases)]++ [eO 14 (lM eGJ x.functional)]++ [eO 7 (zH x.weights)]
def eGQ(x:Q):List PV:=eGY x.a0++eGY x.a1
def eGU(x:U):List PV:=eGY x.name++ [.v (.int .i64 x.cls)]++ [eO 11 (AB x.hyps)]++eGY x.equiv++eGT x.left++eGT x.right++ [eO 11 (AB x.terms)]++ [.v (.int .i64 x.tset)]++ [eO 4 (lM eGQ x.stops)]++ [.v (.int .i64 x.arg)]++eGY x.inner
mutual
def eGE:E->List PV
 |⟨x0,x1,x2,x3,x4,x5,x6,x7,x8,x9,x10,x11,x12,x13⟩=>[.v (.int .i64 x0)]++eGY x1++eGA x2++eGM x3++ [eO 37 (lM eGF x4)]++ [eO 11 (AB x5)]++ [eO 1 (List.map (λl=>eO 33 (lM eGN l)) x6)]++ [eO 32 (A8 x7)]++eGB x8++ [eO 34 (lM eGU x9)]++ [eO 2 (lM eGY x10)]++ [eO 2 (lM eGY x11)]++ [.str x12]++ [.v (.int .u64 x13)]
def A8:List E->List PV
 |[]=>[]
 |x::l=> .agg (eGE x)::A8 l
end
def mGE(l:List E):A8 l=l.map λx=> .agg (eGE x):=by
 induction l with
 |nil=>simp only[A8,List.map_nil]
 |cons x l ih=>simp only[A8,ih,aO]
def eGL(x:L):List PV:=[.str x.name]++eGT x.formula++ [.v (.int .i64 x.cls)]
def eGS(x:S):List PV:=eGY x.var++eGO x.value
def eGW(x:W):List PV:=[eO 32 (A8 x.w)]++ [.v (.int .i64 x.left)]
def eGH(x:Finding):List PV:=[.v (.int .i64 x.tset)]++eGT x.literal++eGT x.negated
def eGX(x:X):List PV:=[.v (.int .i64 x.err)]++ [.v (.int .i64 x.pos)]
def eGK(x:K):List PV:=[.v (.int .i64 x.kind)]++ [.v (.int .i64 x.pos)]++ [.str x.package]++ [.str x.text]++ [.str x.den]
def eGP(x:P):List PV:=[eO 2 (lM eGA x.l)]++ [.str x.current]++ [eO 5 (lM eGK x.t)]++ [.v (.int .i64 x.pos)]
def eGV(x:V):List PV:=[eO 32 (A8 x.w)]++ [eO 37 (lM eGF x.extra)]++ [.v (.int .i64 x.left)]
def eGR(x:R):List PV:=[.str x.name]++ [.v (.int .i64 x.arity)]
end G
@[reducible] def D0:Nat->Type
 |0=>G.Z
 |1=>G.Y
 |2=>G.O
 |3=>G.T
 |4=>G.F
 |5=>G.A
 |6=>G.M
 |7=>G.D
 |8=>G.B
 |9=>G.I
 |10=>G.C
 |11=>G.J
 |12=>G.N
 |13=>G.Q
 |14=>G.U
 |15=>G.E
 |16=>G.L
 |17=>G.S
 |18=>G.W
 |19=>G.Finding
 |20=>G.X
 |21=>G.K
 |22=>G.P
 |23=>G.V
 |_+24=>G.R
def fs0:Nat->au Ty
 |0=>[(.sl (.int .u8)),i6]
 |1=>[.str,.str]
 |2=>[i6,.str,.str,.rc 1,.str,zS 2]
 |3=>[i6,.rc 1,.rc 2,zS 3]
 |4=>[.rc 1,zS 1,i6,.rc 3,.rc 3,.rc 3]
 |5=>[.str,zS 1]
 |6=>[.rc 1,zS 1,.bool,.rc 3]
 |7=>[.rc 1,i6,.rc 2]
 |8=>[.rc 1,zS 7]
 |9=>[.rc 1,.rc 3]
 |10=>[zS 3,.sl (zS 9)]
 |11=>[.rc 1,zS 1,.rc 3]
 |12=>[i6,i6,i6,.rc 1,.rc 3,.rc 3,zS 3,zS 9,.sl i6,zS 10,zS 11,zS 2]
 |13=>[.rc 1,.rc 1]
 |14=>[.rc 1,i6,zS 3,.rc 1,.rc 3,.rc 3,zS 3,i6,zS 13,i6,.rc 1]
 |15=>[i6,.rc 1,.rc 5,.rc 6,zS 4,zS 3,.sl (zS 12),zS 15,.rc 8,zS 14,zS 1,zS 1,.str,(.int .u64)]
 |16=>[.str,.rc 3,i6]
 |17=>[.rc 1,.rc 2]
 |18=>[zS 15,i6]
 |19=>[i6,.rc 3,.rc 3]
 |20=>[i6,i6]
 |21=>[i6,i6,.str,.str,.str]
 |22=>[zS 5,.str,zS 21,i6]
 |23=>[zS 15,zS 4,i6]
 |_+24=>[.str,i6]
def pG:(n:Nat)->D0 n->au (TV D0)
 |0,x=>[⟨(.sl (.int .u8)),G.Z.b x⟩,⟨i6,G.Z.pos x⟩]
 |1,x=>[⟨.str,G.Y.package x⟩,⟨.str,G.Y.name x⟩]
 |2,x=>[⟨i6,G.O.kind x⟩,⟨.str,G.O.num x⟩,⟨.str,G.O.den x⟩,⟨.rc 1,G.O.sym x⟩,⟨.str,G.O.text x⟩,⟨zS 2,G.O.pair x⟩]
 |3,x=>[⟨i6,G.T.kind x⟩,⟨.rc 1,G.T.name x⟩,⟨.rc 2,G.T.value x⟩,⟨zS 3,G.T.args x⟩]
 |4,x=>[⟨.rc 1,G.F.name x⟩,⟨zS 1,G.F.params x⟩,⟨i6,G.F.cls x⟩,⟨.rc 3,G.F.guard x⟩,⟨.rc 3,G.F.body x⟩,⟨.rc 3,G.F.measure x⟩]
 |5,x=>[⟨.str,G.A.name x⟩,⟨zS 1,G.A.imports x⟩]
 |6,x=>[⟨.rc 1,G.M.name x⟩,⟨zS 1,G.M.params x⟩,⟨.bool,G.M.rest x⟩,⟨.rc 3,G.M.body x⟩]
 |7,x=>[⟨.rc 1,G.D.name x⟩,⟨i6,G.D.length x⟩,⟨.rc 2,G.D.initial x⟩]
 |8,x=>[⟨.rc 1,G.B.name x⟩,⟨zS 7,G.B.fields x⟩]
 |9,x=>[⟨.rc 1,G.I.var x⟩,⟨.rc 3,G.I.term x⟩]
 |10,x=>[⟨zS 3,G.C.tests x⟩,⟨.sl (zS 9),G.C.substs x⟩]
 |11,x=>[⟨.rc 1,G.J.name x⟩,⟨zS 1,G.J.params x⟩,⟨.rc 3,G.J.body x⟩]
 |12,x=>[⟨i6,G.N.rule x⟩,⟨i6,G.N.a x⟩,⟨i6,G.N.b x⟩,⟨.rc 1,G.N.name x⟩,⟨.rc 3,G.N.term x⟩,⟨.rc 3,G.N.measure x⟩,⟨zS 3,G.N.clause x⟩,⟨zS 9,G.N.subst x⟩,⟨.sl i6,G.N.lines x⟩,⟨zS 10,G.N.cases x⟩,⟨zS 11,G.N.functional x⟩,⟨zS 2,G.N.weights x⟩]
 |13,x=>[⟨.rc 1,G.Q.a0 x⟩,⟨.rc 1,G.Q.a1 x⟩]
 |14,x=>[⟨.rc 1,G.U.name x⟩,⟨i6,G.U.cls x⟩,⟨zS 3,G.U.hyps x⟩,⟨.rc 1,G.U.equiv x⟩,⟨.rc 3,G.U.left x⟩,⟨.rc 3,G.U.right x⟩,⟨zS 3,G.U.terms x⟩,⟨i6,G.U.tset x⟩,⟨zS 13,G.U.stops x⟩,⟨i6,G.U.arg x⟩,⟨.rc 1,G.U.inner x⟩]
 |15,x=>[⟨i6,G.E.kind x⟩,⟨.rc 1,G.E.name x⟩,⟨.rc 5,G.E.package x⟩,⟨.rc 6,G.E.mac x⟩,⟨zS 4,G.E.functions x⟩,⟨zS 3,G.E.formulas x⟩,⟨.sl (zS 12),G.E.logs x⟩,⟨zS 15,G.E.locl x⟩,⟨.rc 8,G.E.stobj x⟩,⟨zS 14,G.E.rules x⟩,⟨zS 1,G.E.enabled x⟩,⟨zS 1,G.E.disabled x⟩,⟨.str,G.E.text x⟩,⟨(.int .u64),G.E.hash x⟩]
 |16,x=>[⟨.str,G.L.name x⟩,⟨.rc 3,G.L.formula x⟩,⟨i6,G.L.cls x⟩]
 |17,x=>[⟨.rc 1,G.S.var x⟩,⟨.rc 2,G.S.value x⟩]
 |18,x=>[⟨zS 15,G.W.w x⟩,⟨i6,G.W.left x⟩]
 |19,x=>[⟨i6,G.Finding.tset x⟩,⟨.rc 3,G.Finding.literal x⟩,⟨.rc 3,G.Finding.negated x⟩]
 |20,x=>[⟨i6,G.X.err x⟩,⟨i6,G.X.pos x⟩]
 |21,x=>[⟨i6,G.K.kind x⟩,⟨i6,G.K.pos x⟩,⟨.str,G.K.package x⟩,⟨.str,G.K.text x⟩,⟨.str,G.K.den x⟩]
 |22,x=>[⟨zS 5,G.P.l x⟩,⟨.str,G.P.current x⟩,⟨zS 21,G.P.t x⟩,⟨i6,G.P.pos x⟩]
 |23,x=>[⟨zS 15,G.V.w x⟩,⟨zS 4,G.V.extra x⟩,⟨i6,G.V.left x⟩]
 |_+24,x=>[⟨.str,G.R.name x⟩,⟨i6,G.R.arity x⟩]
def bOa:(n:Nat)->au (TV D0)->f9 (D0 n)
 |0,l=>match fY (D:=D0) [(.sl (.int .u8)),i6] l with|some r=>aa (⟨r.1,r.2.1⟩:G.Z)|none=>ae
 |1,l=>match fY (D:=D0) [.str,.str] l with|some r=>aa (⟨r.1,r.2.1⟩:G.Y)|none=>ae
 |2,l=>match fY (D:=D0) [i6,.str,.str,.rc 1,.str,zS 2] l with|some r=>aa (⟨r.1,r.2.1,r.2.2.1,r.2.2.2.1,r.2.2.2.2.1,r.2.2.2.2.2.1⟩:G.O)|none=>ae
 |3,l=>match fY (D:=D0) [i6,.rc 1,.rc 2,zS 3] l with|some r=>aa (⟨r.1,r.2.1,r.2.2.1,r.2.2.2.1⟩:G.T)|none=>ae
 |4,l=>match fY (D:=D0) [.rc 1,zS 1,i6,.rc 3,.rc 3,.rc 3] l with|some r=>aa (⟨r.1,r.2.1,r.2.2.1,r.2.2.2.1,r.2.2.2.2.1,r.2.2.2.2.2.1⟩:G.F)|none=>ae
 |5,l=>match fY (D:=D0) [.str,zS 1] l with|some r=>aa (⟨r.1,r.2.1⟩:G.A)|none=>ae
 |6,l=>match fY (D:=D0) [.rc 1,zS 1,.bool,.rc 3] l with|some r=>aa (⟨r.1,r.2.1,r.2.2.1,r.2.2.2.1⟩:G.M)|none=>ae
 |7,l=>match fY (D:=D0) [.rc 1,i6,.rc 2] l with|some r=>aa (⟨r.1,r.2.1,r.2.2.1⟩:G.D)|none=>ae
 |8,l=>match fY (D:=D0) [.rc 1,zS 7] l with|some r=>aa (⟨r.1,r.2.1⟩:G.B)|none=>ae
 |9,l=>match fY (D:=D0) [.rc 1,.rc 3] l with|some r=>aa (⟨r.1,r.2.1⟩:G.I)|none=>ae
 |10,l=>match fY (D:=D0) [zS 3,.sl (zS 9)] l with|some r=>aa (⟨r.1,r.2.1⟩:G.C)|none=>ae
 |11,l=>match fY (D:=D0) [.rc 1,zS 1,.rc 3] l with|some r=>aa (⟨r.1,r.2.1,r.2.2.1⟩:G.J)|none=>ae
 |12,l=>match fY (D:=D0) [i6,i6,i6,.rc 1,.rc 3,.rc 3,zS 3,zS 9,.sl i6,zS 10,zS 11,zS 2] l with|some r=>aa (⟨r.1,r.2.1,r.2.2.1,r.2.2.2.1,r.2.2.2.2.1,r.2.2.2.2.2.1,r.2.2.2.2.2.2.1,r.2.2.2.2.2.2.2.1,r.2.2.2.2.2.2.2.2.1,r.2.2.2.2.2.2.2.2.2.1,r.2.2.2.2.2.2.2.2.2.2.1,r.2.2.2.2.2.2.2.2.2.2.2.1⟩:G.N)|none=>ae
 |13,l=>match fY (D:=D0) [.rc 1,.rc 1] l with|some r=>aa (⟨r.1,r.2.1⟩:G.Q)|none=>ae
 |14,l=>match fY (D:=D0) [.rc 1,i6,zS 3,.rc 1,.rc 3,.rc 3,zS 3,i6,zS 13,i6,.rc 1] l with|some r=>aa (⟨r.1,r.2.1,r.2.2.1,r.2.2.2.1,r.2.2.2.2.1,r.2.2.2.2.2.1,r.2.2.2.2.2.2.1,r.2.2.2.2.2.2.2.1,r.2.2.2.2.2.2.2.2.1,r.2.2.2.2.2.2.2.2.2.1,r.2.2.2.2.2.2.2.2.2.2.1⟩:G.U)|none=>ae
 |15,l=>match fY (D:=D0) [i6,.rc 1,.rc 5,.rc 6,zS 4,zS 3,.sl (zS 12),zS 15,.rc 8,zS 14,zS 1,zS 1,.str,(.int .u64)] l with|some r=>aa (⟨r.1,r.2.1,r.2.2.1,r.2.2.2.1,r.2.2.2.2.1,r.2.2.2.2.2.1,r.2.2.2.2.2.2.1,r.2.2.2.2.2.2.2.1,r.2.2.2.2.2.2.2.2.1,r.2.2.2.2.2.2.2.2.2.1,r.2.2.2.2.2.2.2.2.2.2.1,r.2.2.2.2.2.2.2.2.2.2.2.1,r.2.2.2.2.2.2.2.2.2.2.2.2.1,r.2.2.2.2.2.2.2.2.2.2.2.2.2.1⟩:G.E)|none=>ae
 |16,l=>match fY (D:=D0) [.str,.rc 3,i6] l with|some r=>aa (⟨r.1,r.2.1,r.2.2.1⟩:G.L)|none=>ae
 |17,l=>match fY (D:=D0) [.rc 1,.rc 2] l with|some r=>aa (⟨r.1,r.2.1⟩:G.S)|none=>ae
 |18,l=>match fY (D:=D0) [zS 15,i6] l with|some r=>aa (⟨r.1,r.2.1⟩:G.W)|none=>ae
 |19,l=>match fY (D:=D0) [i6,.rc 3,.rc 3] l with|some r=>aa (⟨r.1,r.2.1,r.2.2.1⟩:G.Finding)|none=>ae
 |20,l=>match fY (D:=D0) [i6,i6] l with|some r=>aa (⟨r.1,r.2.1⟩:G.X)|none=>ae
 |21,l=>match fY (D:=D0) [i6,i6,.str,.str,.str] l with|some r=>aa (⟨r.1,r.2.1,r.2.2.1,r.2.2.2.1,r.2.2.2.2.1⟩:G.K)|none=>ae
 |22,l=>match fY (D:=D0) [zS 5,.str,zS 21,i6] l with|some r=>aa (⟨r.1,r.2.1,r.2.2.1,r.2.2.2.1⟩:G.P)|none=>ae
 |23,l=>match fY (D:=D0) [zS 15,zS 4,i6] l with|some r=>aa (⟨r.1,r.2.1,r.2.2.1⟩:G.V)|none=>ae
 |_+24,l=>match fY (D:=D0) [.str,i6] l with|some r=>aa (⟨r.1,r.2.1⟩:G.R)|none=>ae
def gM:(n:Nat)->D0 n->au PV
 |0,x=>G.eGZ x
 |1,x=>G.eGY x
 |2,x=>G.eGO x
 |3,x=>G.eGT x
 |4,x=>G.eGF x
 |5,x=>G.eGA x
 |6,x=>G.eGM x
 |7,x=>G.eGD x
 |8,x=>G.eGB x
 |9,x=>G.eGI x
 |10,x=>G.eGC x
 |11,x=>G.eGJ x
 |12,x=>G.eGN x
 |13,x=>G.eGQ x
 |14,x=>G.eGU x
 |15,x=>G.eGE x
 |16,x=>G.eGL x
 |17,x=>G.eGS x
 |18,x=>G.eGW x
 |19,x=>G.eGH x
 |20,x=>G.eGX x
 |21,x=>G.eGK x
 |22,x=>G.eGP x
 |23,x=>G.eGV x
 |_+24,x=>G.eGR x
def eq0:(n:Nat)->f9 (D0 n->D0 n->Bool)
 |0=>ae
 |1=>aa λ(a b:G.Y)=>decide (a=b)
 |2=>ae
 |3=>ae
 |4=>ae
 |5=>ae
 |6=>ae
 |7=>ae
 |8=>ae
 |9=>ae
 |10=>ae
 |11=>ae
 |12=>ae
 |13=>ae
 |14=>ae
 |15=>ae
 |16=>ae
 |17=>ae
 |18=>ae
 |19=>ae
 |20=>ae
 |21=>ae
 |22=>ae
 |23=>ae
 |_+24=>ae
def a6R:(n:Nat)->D0 n
 |0=>(⟨[],0⟩:G.Z)
 |1=>(⟨[],[]⟩:G.Y)
 |2=>(⟨0,[],[],⟨[],[]⟩,[],[]⟩:G.O)
 |3=>(⟨0,⟨[],[]⟩,⟨0,[],[],⟨[],[]⟩,[],[]⟩,[]⟩:G.T)
 |4=>(⟨⟨[],[]⟩,[],0,⟨0,⟨[],[]⟩,⟨0,[],[],⟨[],[]⟩,[],[]⟩,[]⟩,⟨0,⟨[],[]⟩,⟨0,[],[],⟨[],[]⟩,[],[]⟩,[]⟩,⟨0,⟨[],[]⟩,⟨0,[],[],⟨[],[]⟩,[],[]⟩,[]⟩⟩:G.F)
 |5=>(⟨[],[]⟩:G.A)
 |6=>(⟨⟨[],[]⟩,[],aj,⟨0,⟨[],[]⟩,⟨0,[],[],⟨[],[]⟩,[],[]⟩,[]⟩⟩:G.M)
 |7=>(⟨⟨[],[]⟩,0,⟨0,[],[],⟨[],[]⟩,[],[]⟩⟩:G.D)
 |8=>(⟨⟨[],[]⟩,[]⟩:G.B)
 |9=>(⟨⟨[],[]⟩,⟨0,⟨[],[]⟩,⟨0,[],[],⟨[],[]⟩,[],[]⟩,[]⟩⟩:G.I)
 |10=>(⟨[],[]⟩:G.C)
 |11=>(⟨⟨[],[]⟩,[],⟨0,⟨[],[]⟩,⟨0,[],[],⟨[],[]⟩,[],[]⟩,[]⟩⟩:G.J)
 |12=>(⟨0,0,0,⟨[],[]⟩,⟨0,⟨[],[]⟩,⟨0,[],[],⟨[],[]⟩,[],[]⟩,[]⟩,⟨0,⟨[],[]⟩,⟨0,[],[],⟨[],[]⟩,[],[]⟩,[]⟩,[],[],[],[],[],[]⟩:G.N)
 |13=>(⟨⟨[],[]⟩,⟨[],[]⟩⟩:G.Q)
 |14=>(⟨⟨[],[]⟩,0,[],⟨[],[]⟩,⟨0,⟨[],[]⟩,⟨0,[],[],⟨[],[]⟩,[],[]⟩,[]⟩,⟨0,⟨[],[]⟩,⟨0,[],[],⟨[],[]⟩,[],[]⟩,[]⟩,[],0,[],0,⟨[],[]⟩⟩:G.U)
 |15=>(⟨0,⟨[],[]⟩,⟨[],[]⟩,⟨⟨[],[]⟩,[],aj,⟨0,⟨[],[]⟩,⟨0,[],[],⟨[],[]⟩,[],[]⟩,[]⟩⟩,[],[],[],[],⟨⟨[],[]⟩,[]⟩,[],[],[],[],0⟩:G.E)
 |16=>(⟨[],⟨0,⟨[],[]⟩,⟨0,[],[],⟨[],[]⟩,[],[]⟩,[]⟩,0⟩:G.L)
 |17=>(⟨⟨[],[]⟩,⟨0,[],[],⟨[],[]⟩,[],[]⟩⟩:G.S)
 |18=>(⟨[],0⟩:G.W)
 |19=>(⟨0,⟨0,⟨[],[]⟩,⟨0,[],[],⟨[],[]⟩,[],[]⟩,[]⟩,⟨0,⟨[],[]⟩,⟨0,[],[],⟨[],[]⟩,[],[]⟩,[]⟩⟩:G.Finding)
 |20=>(⟨0,0⟩:G.X)
 |21=>(⟨0,0,[],[],[]⟩:G.K)
 |22=>(⟨[],[],[],0⟩:G.P)
 |23=>(⟨[],[],0⟩:G.V)
 |_+24=>(⟨[],0⟩:G.R)
def pH:Nat->Nat
 |0=>2
 |1=>2
 |2=>7
 |3=>11
 |4=>37
 |5=>2
 |6=>15
 |7=>10
 |8=>3
 |9=>13
 |10=>2
 |11=>14
 |12=>33
 |13=>4
 |14=>34
 |15=>32
 |16=>13
 |17=>9
 |18=>2
 |19=>23
 |20=>2
 |21=>5
 |22=>4
 |23=>3
 |_+24=>2
def lt0:Nat->au Ty
 |0=>[(.sl (.int .u8)),i6]
 |1=>[.str,.str]
 |2=>[i6,.str,.str,.str,.str,.str,zS 2]
 |3=>[i6,.str,.str,i6,.str,.str,.str,.str,.str,zS 2,zS 3]
 |4=>[.str,.str,zS 1,i6,i6,.str,.str,i6,.str,.str,.str,.str,.str,zS 2,zS 3,i6,.str,.str,i6,.str,.str,.str,.str,.str,zS 2,zS 3,i6,.str,.str,i6,.str,.str,.str,.str,.str,zS 2,zS 3]
 |5=>[.str,zS 1]
 |6=>[.str,.str,zS 1,.bool,i6,.str,.str,i6,.str,.str,.str,.str,.str,zS 2,zS 3]
 |7=>[.str,.str,i6,i6,.str,.str,.str,.str,.str,zS 2]
 |8=>[.str,.str,zS 7]
 |9=>[.str,.str,i6,.str,.str,i6,.str,.str,.str,.str,.str,zS 2,zS 3]
 |10=>[zS 3,.sl (zS 9)]
 |11=>[.str,.str,zS 1,i6,.str,.str,i6,.str,.str,.str,.str,.str,zS 2,zS 3]
 |12=>[i6,i6,i6,.str,.str,i6,.str,.str,i6,.str,.str,.str,.str,.str,zS 2,zS 3,i6,.str,.str,i6,.str,.str,.str,.str,.str,zS 2,zS 3,zS 3,zS 9,.sl i6,zS 10,zS 11,zS 2]
 |13=>[.str,.str,.str,.str]
 |14=>[.str,.str,i6,zS 3,.str,.str,i6,.str,.str,i6,.str,.str,.str,.str,.str,zS 2,zS 3,i6,.str,.str,i6,.str,.str,.str,.str,.str,zS 2,zS 3,zS 3,i6,zS 13,i6,.str,.str]
 |15=>[i6,.str,.str,.str,zS 1,.str,.str,zS 1,.bool,i6,.str,.str,i6,.str,.str,.str,.str,.str,zS 2,zS 3,zS 4,zS 3,.sl (zS 12),zS 15,.str,.str,zS 7,zS 14,zS 1,zS 1,.str,(.int .u64)]
 |16=>[.str,i6,.str,.str,i6,.str,.str,.str,.str,.str,zS 2,zS 3,i6]
 |17=>[.str,.str,i6,.str,.str,.str,.str,.str,zS 2]
 |18=>[zS 15,i6]
 |19=>[i6,i6,.str,.str,i6,.str,.str,.str,.str,.str,zS 2,zS 3,i6,.str,.str,i6,.str,.str,.str,.str,.str,zS 2,zS 3]
 |20=>[i6,i6]
 |21=>[i6,i6,.str,.str,.str]
 |22=>[zS 5,.str,zS 21,i6]
 |23=>[zS 15,zS 4,i6]
 |_+24=>[.str,i6]
def U0:iY:=⟨D0,fs0,pG,bOa,gM,eq0,a6R,pH,lt0⟩
def bLK(x:av):gd (.v x)=ah:=rfl
def bEl(s:au UInt8):gd (.str s)=ah:=rfl
def eH(z:Nat)(l:au PV):(eO z l).cells=[eO z l]:=qI (fK _ _)
def eZ(x:av):(PV.v x).cells=[.v x]:=rfl
def eG(x:au UInt8):(PV.str x).cells=[.str x]:=rfl
def eI(x:au PV):(PV.agg x).cells=x:=rfl
def bCp: ∀x:D0 0,(gM 0 x).length=pH 0:=λ(x:G.Z)=>by rfl
def aTs: ∀x:D0 1,(gM 1 x).length=pH 1:=λ(x:G.Y)=>by rfl
def gU: ∀y:G.Y,(G.eGY y).length=2:=aTs
def aTr: ∀x:D0 2,(gM 2 x).length=pH 2:=λ(x:G.O)=>by
 cases x;show(G.eGO _).length=7;simp only[G.eGO,aZ,aM,aX,gU]
def CK: ∀y:G.O,(G.eGO y).length=7:=aTr
def aTq: ∀x:D0 3,(gM 3 x).length=pH 3:=λ(x:G.T)=>by
 cases x;show(G.eGT _).length=11;simp only[G.eGT,aZ,aM,aX,gU,CK]
def rF: ∀y:G.T,(G.eGT y).length=11:=aTq
def bCo: ∀x:D0 4,(gM 4 x).length=pH 4:=λ(x:G.F)=>by
 show(G.eGF _).length=37;simp only[G.eGF,aZ,aM,aX,gU,rF]
def aTp: ∀x:D0 5,(gM 5 x).length=pH 5:=λ(x:G.A)=>by rfl
def Un: ∀y:G.A,(G.eGA y).length=2:=aTp
def aTo: ∀x:D0 6,(gM 6 x).length=pH 6:=λ(x:G.M)=>by
 show(G.eGM _).length=15;simp only[G.eGM,aZ,aM,aX,gU,rF]
def aHa: ∀y:G.M,(G.eGM y).length=15:=aTo
def bCn: ∀x:D0 7,(gM 7 x).length=pH 7:=λ(x:G.D)=>by
 show(G.eGD _).length=10;simp only[G.eGD,aZ,aM,aX,gU,CK]
def aTn: ∀x:D0 8,(gM 8 x).length=pH 8:=λ(x:G.B)=>by
 show(G.eGB _).length=3;simp only[G.eGB,aZ,aM,aX,gU]
def aG9: ∀y:G.B,(G.eGB y).length=3:=aTn
def bCm: ∀x:D0 9,(gM 9 x).length=pH 9:=λ(x:G.I)=>by
 show(G.eGI _).length=13;simp only[G.eGI,aZ,aM,aX,gU,rF]
def a2c: ∀x:D0 10,(gM 10 x).length=pH 10:=λ(x:G.C)=>by rfl
def a2b: ∀x:D0 11,(gM 11 x).length=pH 11:=λ(x:G.J)=>by
 show(G.eGJ _).length=14;simp only[G.eGJ,aZ,aM,aX,gU,rF]
def a2a: ∀x:D0 12,(gM 12 x).length=pH 12:=λ(x:G.N)=>by
 show(G.eGN _).length=33;simp only[G.eGN,aZ,aM,aX,gU,rF]
def a19: ∀x:D0 13,(gM 13 x).length=pH 13:=λ(x:G.Q)=>by
 show(G.eGQ _).length=4;simp only[G.eGQ,aZ,aM,aX,gU]
def a18: ∀x:D0 14,(gM 14 x).length=pH 14:=λ(x:G.U)=>by
 show(G.eGU _).length=34;simp only[G.eGU,aZ,aM,aX,gU,rF]
def a17: ∀x:D0 15,(gM 15 x).length=pH 15:=λ(x:G.E)=>by
 cases x;show(G.eGE _).length=32;simp only[G.eGE,aZ,aM,aX,gU,Un,aHa,aG9]
def a16: ∀x:D0 16,(gM 16 x).length=pH 16:=λ(x:G.L)=>by
 show(G.eGL _).length=13;simp only[G.eGL,aZ,aM,aX,rF]
def a15: ∀x:D0 17,(gM 17 x).length=pH 17:=λ(x:G.S)=>by
 show(G.eGS _).length=9;simp only[G.eGS,aZ,aM,aX,gU,CK]
def a14: ∀x:D0 18,(gM 18 x).length=pH 18:=λ(x:G.W)=>by rfl
def a13: ∀x:D0 19,(gM 19 x).length=pH 19:=λ(x:G.Finding)=>by
 show(G.eGH _).length=23;simp only[G.eGH,aZ,aM,aX,rF]
def a12: ∀x:D0 20,(gM 20 x).length=pH 20:=λ(x:G.X)=>by rfl
def a11: ∀x:D0 21,(gM 21 x).length=pH 21:=λ(x:G.K)=>by rfl
def a10: ∀x:D0 22,(gM 22 x).length=pH 22:=λ(x:G.P)=>by rfl
def a1Z: ∀x:D0 23,(gM 23 x).length=pH 23:=λ(x:G.V)=>by rfl
def a1Y(k:Nat): ∀x:D0 (k+24),(gM (k+24) x).length=pH (k+24):=λ(x:G.R)=>by rfl
def DZ:(∀(a b:au PV) (p:PV->Bool),(a++b).all p=(a.all p&&b.all p))/\(∀(a:PV) (l:au PV) (p:PV->Bool),(a::l).all p=(p a&&l.all p))/\(∀p:PV->Bool,([]:au PV).all p=ah)/\(∀(z:Nat) (l:au PV),gd (eO z l)=ah)/\(∀x:av,gd (.v x)=ah)/\(∀s:au UInt8,gd (.str s)=ah)/\(∀b:Bool,(b&&b)=b)/\∀b:Bool,(b&&ah)=b:=⟨λ_ _ _=>List.all_append,λ_ _ _=>aP,λ_=>List.all_nil,fK,bLK,bEl,n8,bF⟩
def bLO: ∀x:D0 0,(gM 0 x).all gd=ah:=λ(x:G.Z)=>by
 show(G.eGZ _).all gd=ah;simp only[G.eGZ,DZ]
def bEG: ∀x:D0 1,(gM 1 x).all gd=ah:=λ(x:G.Y)=>by
 show(G.eGY _).all gd=ah;simp only[G.eGY,DZ]
def iU: ∀y:G.Y,(G.eGY y).all gd=ah:=bEG
def bEv: ∀x:D0 2,(gM 2 x).all gd=ah:=λ(x:G.O)=>by
 cases x;show(G.eGO _).all gd=ah;simp only[G.eGO,DZ,iU]
def FZ: ∀y:G.O,(G.eGO y).all gd=ah:=bEv
def bEp: ∀x:D0 3,(gM 3 x).all gd=ah:=λ(x:G.T)=>by
 cases x;show(G.eGT _).all gd=ah;simp only[G.eGT,DZ,iU,FZ]
def xV: ∀y:G.T,(G.eGT y).all gd=ah:=bEp
def bLN: ∀x:D0 4,(gM 4 x).all gd=ah:=λ(x:G.F)=>by
 show(G.eGF _).all gd=ah;simp only[G.eGF,DZ,iU,xV]
def bEo: ∀x:D0 5,(gM 5 x).all gd=ah:=λ(x:G.A)=>by
 show(G.eGA _).all gd=ah;simp only[G.eGA,DZ]
def aDm: ∀y:G.A,(G.eGA y).all gd=ah:=bEo
def bEn: ∀x:D0 6,(gM 6 x).all gd=ah:=λ(x:G.M)=>by
 show(G.eGM _).all gd=ah;simp only[G.eGM,DZ,iU,xV]
def aPx: ∀y:G.M,(G.eGM y).all gd=ah:=bEn
def bLM: ∀x:D0 7,(gM 7 x).all gd=ah:=λ(x:G.D)=>by
 show(G.eGD _).all gd=ah;simp only[G.eGD,DZ,iU,FZ]
def bEm: ∀x:D0 8,(gM 8 x).all gd=ah:=λ(x:G.B)=>by
 show(G.eGB _).all gd=ah;simp only[G.eGB,DZ,iU]
def aPw: ∀y:G.B,(G.eGB y).all gd=ah:=bEm
def bLL: ∀x:D0 9,(gM 9 x).all gd=ah:=λ(x:G.I)=>by
 show(G.eGI _).all gd=ah;simp only[G.eGI,DZ,iU,xV]
def bEF: ∀x:D0 10,(gM 10 x).all gd=ah:=λ(x:G.C)=>by
 show(G.eGC _).all gd=ah;simp only[G.eGC,DZ]
def bEE: ∀x:D0 11,(gM 11 x).all gd=ah:=λ(x:G.J)=>by
 show(G.eGJ _).all gd=ah;simp only[G.eGJ,DZ,iU,xV]
def bED: ∀x:D0 12,(gM 12 x).all gd=ah:=λ(x:G.N)=>by
 show(G.eGN _).all gd=ah;simp only[G.eGN,DZ,iU,xV]
def bEC: ∀x:D0 13,(gM 13 x).all gd=ah:=λ(x:G.Q)=>by
 show(G.eGQ _).all gd=ah;simp only[G.eGQ,DZ,iU]
def bEB: ∀x:D0 14,(gM 14 x).all gd=ah:=λ(x:G.U)=>by
 show(G.eGU _).all gd=ah;simp only[G.eGU,DZ,iU,xV]
def bEA: ∀x:D0 15,(gM 15 x).all gd=ah:=λ(x:G.E)=>by
 cases x;show(G.eGE _).all gd=ah;simp only[G.eGE,DZ,iU,aDm,aPx,aPw]
def bEz: ∀x:D0 16,(gM 16 x).all gd=ah:=λ(x:G.L)=>by
 show(G.eGL _).all gd=ah;simp only[G.eGL,DZ,xV]
def bEy: ∀x:D0 17,(gM 17 x).all gd=ah:=λ(x:G.S)=>by
 show(G.eGS _).all gd=ah;simp only[G.eGS,DZ,iU,FZ]
def bEx: ∀x:D0 18,(gM 18 x).all gd=ah:=λ(x:G.W)=>by
 show(G.eGW _).all gd=ah;simp only[G.eGW,DZ]
def bEw: ∀x:D0 19,(gM 19 x).all gd=ah:=λ(x:G.Finding)=>by
 show(G.eGH _).all gd=ah;simp only[G.eGH,DZ,xV]
def bEu: ∀x:D0 20,(gM 20 x).all gd=ah:=λ(x:G.X)=>by
 show(G.eGX _).all gd=ah;simp only[G.eGX,DZ]
def bEt: ∀x:D0 21,(gM 21 x).all gd=ah:=λ(x:G.K)=>by
 show(G.eGK _).all gd=ah;simp only[G.eGK,DZ]
def bEs: ∀x:D0 22,(gM 22 x).all gd=ah:=λ(x:G.P)=>by
 show(G.eGP _).all gd=ah;simp only[G.eGP,DZ]
def bEr: ∀x:D0 23,(gM 23 x).all gd=ah:=λ(x:G.V)=>by
 show(G.eGV _).all gd=ah;simp only[G.eGV,DZ]
def bEq(k:Nat): ∀x:D0 (k+24),(gM (k+24) x).all gd=ah:=λ(x:G.R)=>by
 show(G.eGR _).all gd=ah;simp only[G.eGR,DZ]
def bEY: ∀x:D0 0,gM 0 x=(pG 0 x).flatMap λv=>(eA U0 v.t v.x).cells:=λ(x:G.Z)=>by
 show G.eGZ _=_;simp only[G.eGZ,pG,aN,bC,eA,eH,eZ,eG,eI,bB,aQ,aR,aY,aW,dW,U0,pH,gM,G.mGO,G.mGT,G.mGE,G.lM]
 try rfl
def bEX: ∀x:D0 1,gM 1 x=(pG 1 x).flatMap λv=>(eA U0 v.t v.x).cells:=λ(x:G.Y)=>by
 show G.eGY _=_;simp only[G.eGY,pG,aN,bC,eA,eH,eZ,eG,eI,bB,aQ,aR,aY,aW,dW,U0,pH,gM,G.mGO,G.mGT,G.mGE,G.lM]
 try rfl
def bEW: ∀x:D0 2,gM 2 x=(pG 2 x).flatMap λv=>(eA U0 v.t v.x).cells:=λ(x:G.O)=>by
 cases x;show G.eGO _=_;simp only[G.eGO,pG,aN,bC,eA,eH,eZ,eG,eI,bB,aQ,aR,aY,aW,dW,U0,pH,gM,G.mGO,G.mGT,G.mGE,G.lM,G.O.kind,G.O.num,G.O.den,G.O.sym,G.O.text,G.O.pair]
 try rfl
def bEV: ∀x:D0 3,gM 3 x=(pG 3 x).flatMap λv=>(eA U0 v.t v.x).cells:=λ(x:G.T)=>by
 cases x;show G.eGT _=_;simp only[G.eGT,pG,aN,bC,eA,eH,eZ,eG,eI,bB,aQ,aR,aY,aW,dW,U0,pH,gM,G.mGO,G.mGT,G.mGE,G.lM,G.T.kind,G.T.name,G.T.value,G.T.args]
 try rfl
def bEU: ∀x:D0 4,gM 4 x=(pG 4 x).flatMap λv=>(eA U0 v.t v.x).cells:=λ(x:G.F)=>by
 show G.eGF _=_;simp only[G.eGF,pG,aN,bC,eA,eH,eZ,eG,eI,bB,aQ,aR,aY,aW,dW,U0,pH,gM,G.mGO,G.mGT,G.mGE,G.lM]
 try rfl
def bET: ∀x:D0 5,gM 5 x=(pG 5 x).flatMap λv=>(eA U0 v.t v.x).cells:=λ(x:G.A)=>by
 show G.eGA _=_;simp only[G.eGA,pG,aN,bC,eA,eH,eZ,eG,eI,bB,aQ,aR,aY,aW,dW,U0,pH,gM,G.mGO,G.mGT,G.mGE,G.lM]
 try rfl
def bES: ∀x:D0 6,gM 6 x=(pG 6 x).flatMap λv=>(eA U0 v.t v.x).cells:=λ(x:G.M)=>by
 show G.eGM _=_;simp only[G.eGM,pG,aN,bC,eA,eH,eZ,eG,eI,bB,aQ,aR,aY,aW,dW,U0,pH,gM,G.mGO,G.mGT,G.mGE,G.lM]
 try rfl
def bER: ∀x:D0 7,gM 7 x=(pG 7 x).flatMap λv=>(eA U0 v.t v.x).cells:=λ(x:G.D)=>by
 show G.eGD _=_;simp only[G.eGD,pG,aN,bC,eA,eH,eZ,eG,eI,bB,aQ,aR,aY,aW,dW,U0,pH,gM,G.mGO,G.mGT,G.mGE,G.lM]
 try rfl
def bEQ: ∀x:D0 8,gM 8 x=(pG 8 x).flatMap λv=>(eA U0 v.t v.x).cells:=λ(x:G.B)=>by
 show G.eGB _=_;simp only[G.eGB,pG,aN,bC,eA,eH,eZ,eG,eI,bB,aQ,aR,aY,aW,dW,U0,pH,gM,G.mGO,G.mGT,G.mGE,G.lM]
 try rfl
def bEP: ∀x:D0 9,gM 9 x=(pG 9 x).flatMap λv=>(eA U0 v.t v.x).cells:=λ(x:G.I)=>by
 show G.eGI _=_;simp only[G.eGI,pG,aN,bC,eA,eH,eZ,eG,eI,bB,aQ,aR,aY,aW,dW,U0,pH,gM,G.mGO,G.mGT,G.mGE,G.lM]
 try rfl
def a4p: ∀x:D0 10,gM 10 x=(pG 10 x).flatMap λv=>(eA U0 v.t v.x).cells:=λ(x:G.C)=>by
 show G.eGC _=_;simp only[G.eGC,pG,aN,bC,eA,eH,eZ,eG,eI,bB,aQ,aR,aY,aW,dW,U0,pH,gM,G.mGO,G.mGT,G.mGE,G.lM]
 try rfl
def a4o: ∀x:D0 11,gM 11 x=(pG 11 x).flatMap λv=>(eA U0 v.t v.x).cells:=λ(x:G.J)=>by
 show G.eGJ _=_;simp only[G.eGJ,pG,aN,bC,eA,eH,eZ,eG,eI,bB,aQ,aR,aY,aW,dW,U0,pH,gM,G.mGO,G.mGT,G.mGE,G.lM]
 try rfl
def a4n: ∀x:D0 12,gM 12 x=(pG 12 x).flatMap λv=>(eA U0 v.t v.x).cells:=λ(x:G.N)=>by
 show G.eGN _=_;simp only[G.eGN,pG,aN,bC,eA,eH,eZ,eG,eI,bB,aQ,aR,aY,aW,dW,U0,pH,gM,G.mGO,G.mGT,G.mGE,G.lM]
 try rfl
def a4m: ∀x:D0 13,gM 13 x=(pG 13 x).flatMap λv=>(eA U0 v.t v.x).cells:=λ(x:G.Q)=>by
 show G.eGQ _=_;simp only[G.eGQ,pG,aN,bC,eA,eH,eZ,eG,eI,bB,aQ,aR,aY,aW,dW,U0,pH,gM,G.mGO,G.mGT,G.mGE,G.lM]
 try rfl
def a4l: ∀x:D0 14,gM 14 x=(pG 14 x).flatMap λv=>(eA U0 v.t v.x).cells:=λ(x:G.U)=>by
 show G.eGU _=_;simp only[G.eGU,pG,aN,bC,eA,eH,eZ,eG,eI,bB,aQ,aR,aY,aW,dW,U0,pH,gM,G.mGO,G.mGT,G.mGE,G.lM]
 try rfl
def a4k: ∀x:D0 15,gM 15 x=(pG 15 x).flatMap λv=>(eA U0 v.t v.x).cells:=λ(x:G.E)=>by
 cases x;show G.eGE _=_;simp only[G.eGE,pG,aN,bC,eA,eH,eZ,eG,eI,bB,aQ,aR,aY,aW,dW,U0,pH,gM,G.mGO,G.mGT,G.mGE,G.lM,G.E.kind,G.E.name,G.E.package,G.E.mac,G.E.functions,G.E.formulas,G.E.logs,G.E.locl,G.E.stobj,G.E.rules,G.E.enabled,G.E.disabled,G.E.text,G.E.hash]
 try rfl
def a4j: ∀x:D0 16,gM 16 x=(pG 16 x).flatMap λv=>(eA U0 v.t v.x).cells:=λ(x:G.L)=>by
 show G.eGL _=_;simp only[G.eGL,pG,aN,bC,eA,eH,eZ,eG,eI,bB,aQ,aR,aY,aW,dW,U0,pH,gM,G.mGO,G.mGT,G.mGE,G.lM]
 try rfl
def a4i: ∀x:D0 17,gM 17 x=(pG 17 x).flatMap λv=>(eA U0 v.t v.x).cells:=λ(x:G.S)=>by
 show G.eGS _=_;simp only[G.eGS,pG,aN,bC,eA,eH,eZ,eG,eI,bB,aQ,aR,aY,aW,dW,U0,pH,gM,G.mGO,G.mGT,G.mGE,G.lM]
 try rfl
def a4h: ∀x:D0 18,gM 18 x=(pG 18 x).flatMap λv=>(eA U0 v.t v.x).cells:=λ(x:G.W)=>by
 show G.eGW _=_;simp only[G.eGW,pG,aN,bC,eA,eH,eZ,eG,eI,bB,aQ,aR,aY,aW,dW,U0,pH,gM,G.mGO,G.mGT,G.mGE,G.lM]
 try rfl
def a4g: ∀x:D0 19,gM 19 x=(pG 19 x).flatMap λv=>(eA U0 v.t v.x).cells:=λ(x:G.Finding)=>by
 show G.eGH _=_;simp only[G.eGH,pG,aN,bC,eA,eH,eZ,eG,eI,bB,aQ,aR,aY,aW,dW,U0,pH,gM,G.mGO,G.mGT,G.mGE,G.lM]
 try rfl
def a4f: ∀x:D0 20,gM 20 x=(pG 20 x).flatMap λv=>(eA U0 v.t v.x).cells:=λ(x:G.X)=>by
 show G.eGX _=_;simp only[G.eGX,pG,aN,bC,eA,eH,eZ,eG,eI,bB,aQ,aR,aY,aW,dW,U0,pH,gM,G.mGO,G.mGT,G.mGE,G.lM]
 try rfl
def a4e: ∀x:D0 21,gM 21 x=(pG 21 x).flatMap λv=>(eA U0 v.t v.x).cells:=λ(x:G.K)=>by
 show G.eGK _=_;simp only[G.eGK,pG,aN,bC,eA,eH,eZ,eG,eI,bB,aQ,aR,aY,aW,dW,U0,pH,gM,G.mGO,G.mGT,G.mGE,G.lM]
 try rfl
def a4d: ∀x:D0 22,gM 22 x=(pG 22 x).flatMap λv=>(eA U0 v.t v.x).cells:=λ(x:G.P)=>by
 show G.eGP _=_;simp only[G.eGP,pG,aN,bC,eA,eH,eZ,eG,eI,bB,aQ,aR,aY,aW,dW,U0,pH,gM,G.mGO,G.mGT,G.mGE,G.lM]
 try rfl
def a4c: ∀x:D0 23,gM 23 x=(pG 23 x).flatMap λv=>(eA U0 v.t v.x).cells:=λ(x:G.V)=>by
 show G.eGV _=_;simp only[G.eGV,pG,aN,bC,eA,eH,eZ,eG,eI,bB,aQ,aR,aY,aW,dW,U0,pH,gM,G.mGO,G.mGT,G.mGE,G.lM]
 try rfl
def a4b(k:Nat): ∀x:D0 (k+24),gM (k+24) x=(pG (k+24) x).flatMap λv=>(eA U0 v.t v.x).cells:=λ(x:G.R)=>by
 show G.eGR _=_;simp only[G.eGR,pG,aN,bC,eA,eH,eZ,eG,eI,bB,aQ,aR,aY,aW,dW,U0,pH,gM,G.mGO,G.mGT,G.mGE,G.lM]
 try rfl
def a9Z:jA U0 where
 eqc:=by
  intro n f x h
  match n,f,x,h with
  |0,f,x,h=>cases h
  |1,f,x,h=>cases h;rfl
  |2,f,x,h=>cases h
  |3,f,x,h=>cases h
  |4,f,x,h=>cases h
  |5,f,x,h=>cases h
  |6,f,x,h=>cases h
  |7,f,x,h=>cases h
  |8,f,x,h=>cases h
  |9,f,x,h=>cases h
  |10,f,x,h=>cases h
  |11,f,x,h=>cases h
  |12,f,x,h=>cases h
  |13,f,x,h=>cases h
  |14,f,x,h=>cases h
  |15,f,x,h=>cases h
  |16,f,x,h=>cases h
  |17,f,x,h=>cases h
  |18,f,x,h=>cases h
  |19,f,x,h=>cases h
  |20,f,x,h=>cases h
  |21,f,x,h=>cases h
  |22,f,x,h=>cases h
  |23,f,x,h=>cases h
  |k+24,f,x,h=>cases h
 ty:=λn=>match n with|0=>λ_=>rfl|1=>λ_=>rfl|2=>λ_=>rfl|3=>λ_=>rfl|4=>λ_=>rfl|5=>λ_=>rfl|6=>λ_=>rfl|7=>λ_=>rfl|8=>λ_=>rfl|9=>λ_=>rfl|10=>λ_=>rfl|11=>λ_=>rfl|12=>λ_=>rfl|13=>λ_=>rfl|14=>λ_=>rfl|15=>λ_=>rfl|16=>λ_=>rfl|17=>λ_=>rfl|18=>λ_=>rfl|19=>λ_=>rfl|20=>λ_=>rfl|21=>λ_=>rfl|22=>λ_=>rfl|23=>λ_=>rfl|k+24=>λ_=>rfl
 un_of:=by
  intro n l x h
  match n,x,h with
  |0,x,h|1,x,h|2,x,h|3,x,h|4,x,h|5,x,h|6,x,h|7,x,h|8,x,h|9,x,h|10,x,h|11,x,h|12,x,h|13,x,h|14,x,h|15,x,h|16,x,h|17,x,h|18,x,h|19,x,h|20,x,h|21,x,h|22,x,h|23,x,h|_+24,x,h=>
   simp only[U0,bOa]at h;split at h
   .rename_i r hr;cases h;exact GA hr
   .cases h
 en:=λn=>match n with|0=>bEY|1=>bEX|2=>bEW|3=>bEV|4=>bEU|5=>bET|6=>bES|7=>bER|8=>bEQ|9=>bEP|10=>a4p|11=>a4o|12=>a4n|13=>a4m|14=>a4l|15=>a4k|16=>a4j|17=>a4i|18=>a4h|19=>a4g|20=>a4f|21=>a4e|22=>a4d|23=>a4c|k+24=>a4b k
 len:=λn=>match n with|0=>bCp|1=>aTs|2=>aTr|3=>aTq|4=>bCo|5=>aTp|6=>aTo|7=>bCn|8=>aTn|9=>bCm|10=>a2c|11=>a2b|12=>a2a|13=>a19|14=>a18|15=>a17|16=>a16|17=>a15|18=>a14|19=>a13|20=>a12|21=>a11|22=>a10|23=>a1Z|k+24=>a1Y k
 sz:=λn=>by
    iterate 24 (rcases n with _|n; · kernel_rfl)
    kernel_rfl
 zc:=λn=>by
    iterate 24 (rcases n with _|n; · kernel_rfl)
    kernel_rfl
 nz:=λn=>by
    iterate 24 (rcases n with _|n; · kernel_rfl)
    kernel_rfl
 zero:=λn=>by
    iterate 24 (rcases n with _|n; · kernel_rfl)
    kernel_rfl
 lt:=λn=>by
    iterate 24 (rcases n with _|n; · kernel_rfl)
    kernel_rfl
 ltl:=λn=>by
    iterate 24 (rcases n with _|n; · kernel_rfl)
    kernel_rfl
 gd:=λn=>match n with|0=>bLO|1=>bEG|2=>bEv|3=>bEp|4=>bLN|5=>bEo|6=>bEn|7=>bLM|8=>bEm|9=>bLL|10=>bEF|11=>bEE|12=>bED|13=>bEC|14=>bEB|15=>bEA|16=>bEz|17=>bEy|18=>bEx|19=>bEw|20=>bEu|21=>bEt|22=>bEs|23=>bEr|k+24=>bEq k
 pos:=λn=>bR (by
    iterate 24 (rcases n with _|n; · kernel_rfl)
    kernel_rfl)
end Go.TV
namespace Go.AI
section
variable{P:az}
def aCJ{N:Type}{c:Prop}[Decidable c]{a b:Sem N}:cU P (if c then a else b)=if c then cU P a else cU P b:=by split<;>rfl
def DL{d:Nat}{t:aw}{fs:Array Field}{xs ys:Array av}(ht:P.underlying t=aa (.struct fs))(hp:P.stoodInHeld t=aj):
    cU P (Op.equalIn (d+1) t (.agg xs) (.agg ys))=cU P (Op.eqFields d xs ys fs.toList):=by
 rw[Op.equalIn.eq_2,bT,cC,ht];simp only[aL];rw[bT];have:cU P program=aa P:=rfl;rw[this];simp only[aL,hp,im,bP];rw[<-Array.forIn_toList];generalize fs.toList=l;clear ht;induction l with
 |nil=>simp[Op.eqFields,bT,cB]
 |cons f l ih=>
  simp only[List.forIn_cons,Op.eqFields,bT,aCJ];split
  .cases cU P (part f.type xs f.offset)with
   |none=>rfl
   |some a=>
    cases cU P (part f.type ys f.offset)with
    |none=>rfl
    |some b=>
     simp only[aL];cases cU P (Op.equalIn d f.type a b)with
     |none=>rfl
     |some r=>
      cases r with
      |false=>simp[cB]
      |true=>
       simp only[aL,bE,im,bP,cB];simpa only[bT]using ih
  .simp only[cB,aL];simpa only[bT]using ih
def aI4{t:aw}{x y:a8}{xs ys:Array av}{r:Bool}(h1:xs.toList.all bZ=ah)(h2:ys.toList.all bZ=ah)(hg:cU P (eqGuard .eql t x y (.agg xs) (.agg ys))=aa ())(he:cU P (Op.equal t (.agg xs) (.agg ys))=aa r):
    iX P .eql t x y (.agg xs) (.agg ys)=aa (.bool r):=by
 simp only[iX,dP,h1,h2,n8,aI,dU,bT,hg,aL,binOp,he,cB,bZ]
def aI3{t:aw}{x y:a8}{xs ys:Array av}{r:Bool}(h1:xs.toList.all bZ=ah)(h2:ys.toList.all bZ=ah)(hg:cU P (eqGuard .neq t x y (.agg xs) (.agg ys))=aa ())(he:cU P (Op.equal t (.agg xs) (.agg ys))=aa r):
    iX P .neq t x y (.agg xs) (.agg ys)=aa (.bool (!r)):=by
 simp only[iX,dP,h1,h2,n8,aI,dU,bT,hg,aL,binOp,he,cB,bZ]
end
end Go.AI
namespace Go.TV
open Go.AI Go.PI
def R5:au (Nat×Ty)->Nat->f9 Ty
 |[],_=>ae
 |(k,t)::l,i=>bif ao k i then aa t else R5 l i
def CP: ∀{l:au (Nat×Ty)} {i:Nat} {t:Ty},R5 l i=aa t->(i,t)∈l
 |(k,t)::l,i,u,h=>by
  unfold R5 at h;cases hb:ao k i with
  |true=>rw[hb]at h;cases h;rw[aE hb];exact aH ..
  |false=>rw[hb]at h;exact aG _ (CP h)
def aH1:au (Nat×Nat)->Nat->f9 Nat
 |[],_=>ae
 |(k,t)::l,i=>bif ao k i then aa t else aH1 l i
def aPI:au (Nat×Nat)->au (Nat×Nat)->Bool
 |[],[]=>ah
 |(a,b)::l,(c,d)::r=>ao a c&&ao b d&&aPI l r
 |_,_=>aj
def aBk: ∀{l r:au (Nat×Nat)},aPI l r=ah->l=r
 |[],[],_=>rfl
 |(a,b)::l,(c,d)::r,h=>by
  simp only[aPI,aC,dZ,aD]at h;rw[h.1.1,h.1.2,aBk h.2]
 |[],_::_,h=>by cases h
 |_::_,[],h=>by cases h
section
variable(P:az)(T:TP U0.D)
def aOI:au Field->au Ty->Nat->Bool
 |[],[],_=>ah
 |f::fs,t::ts,o=>(match T.T.ty f.type with|some u=>u.beq t|none=>aj)&&ao f.offset o&&aOI fs ts (o+dW U0 t)
 |_,_,_=>aj
def aOC(id:Nat)(t:Ty):Bool:=
 match t,P.underlying id with
 | .int k,aa (.int j)=>decide (k=j)
 | .bool,aa .bool=>ah
 | .str,aa .string=>ah
 | .sl e,aa (.slice i)=>(match T.T.ty i with|some u=>u.beq e|none=>aj)&&(match T.el id with|some j=>ao i j|none=>aj)
 | .rc n,aa (.struct fs)=>aOI T fs.toList (U0.fs n) 0&&(match cU P (fs.mapM λf=>do pure (f.offset,<-Go.sizeOf f.type))with|some pl=>aPI pl.toList (aC6 U0 (U0.fs n) 0)|none=>aj)
 | .rc n,_=>T.T.arr id
 |_,_=>aj
def Dl(x:Nat×Ty):Bool:=
 (match mB P x.1 with|some b=>(b==mW x.2)|none=>aj)&&
 (match iN P x.1 with|some n=>ao n (dW U0 x.2)|none=>aj)&&
 (match zeroCells P x.1 with|some z=>aD8 z (QA U0 x.2)|none=>aj)&&
 aOC P T x.1 x.2&&
 (match P.info? x.1 with
  |some i=>ao i.size (dW U0 x.2)&&ao i.bytes (T.T.by' x.1)&&aq 1 i.bytes&&(match i.zero with|some z=>ao z.cells.size i.size&&aD8 (ofVs z.cells.toList) (QA U0 x.2)&&z.cells.toList.all bZ|none=>aj)
  |none=>aj)
def a1s(id:Nat):Bool:=
 (match mB P id with|some b=> !b|none=>aj)&&(match iN P id with|some n=>ao n 1|none=>aj)&&(match zeroCells P id with|some z=>aD8 z [.v .nilFunc]|none=>aj)
variable{P T}
def aAM: ∀{fs:au Field} {ts:au Ty} {o:Nat},aOI T fs ts o=ah->fs.length=ts.length/\∀i f,fs[i]?=aa f->T.T.ty f.type=ts[i]?/\f.offset=o+fD U0 (ts.take i)
 |[],[],o,_=>⟨rfl,λi f h=>by simp at h⟩
 |f::fs,t::ts,o,h=>by
  simp only[aOI,aC,dZ,aD]at h;obtain⟨⟨h1,h2⟩,h3⟩:=h;obtain⟨g1,g2⟩:=aAM h3;refine⟨by rw[aM,aM,g1],λi f' hf=>?_⟩
  cases i with
  |zero=>
   simp only[aU,aA]at hf;subst hf;refine⟨?_,by rw[h2];simp[fD]⟩
   cases hu:T.T.ty f.type with
   |none=>rw[hu]at h1;cases h1
   |some u=>rw[hu]at h1;rw[Ty.beq_eq h1];rfl
  |succ i=>
   rw[aT]at hf;obtain⟨k1,k2⟩:=g2 i f' hf;refine⟨by rw[k1,aT],by rw[k2,List.take_succ_cons,fD,Nat.add_assoc]⟩
 |[],_::_,_,h=>by cases h
 |_::_,[],_,h=>by cases h
def aOL(P:az)(T:TP U0.D)(id:aw):Bool:=match T.T.ty id with
 |some (.rc n)=>(match P.underlying id with
  |some (.array len e)=>(match U0.fs n with
   |te::_=>(match iN P e with|some z=>ao z (dW U0 te)|none=>aj)&&ao (U0.fs n).length len&&(U0.fs n).all λt=>t.beq te
   |[]=>aj)
  |_=>aj)
 |_=>ah
def aFk{te:Ty}: ∀{l:au Ty},(l.all λt=>t.beq te)=ah->l=List.replicate l.length te
 |[],_=>rfl
 |t::l,h=>by
  simp only[aP,aC]at h;rw[aM,List.replicate_succ,<-aFk h.2,Ty.beq_eq h.1]
def aOK{P:az}{T:TP U0.D}{id:aw}{n:Nat}(h:aOL P T id=ah)(ht:T.T.ty id=aa (.rc n)): ∃len e te,P.underlying id=aa (.array len e)/\iN P e=aa (dW U0 te)/\U0.fs n=List.replicate len te:=by
 unfold aOL at h;rw[ht]at h;simp only at h;split at h
 .rename_i len e hu;split at h
  .rename_i te l hf;simp only[aC]at h;obtain⟨⟨h1,h2⟩,h3⟩:=h;refine⟨len,e,te,hu,?_,?_⟩
   .split at h1
    .rename_i z hz;rw[hz,aE h1]
    .cases h1
   .have:=aFk h3;rw[aE h2]at this;exact this
  .cases h
 .cases h
def a75{l:au (Nat×Ty)}(hl:T.T.ty=R5 l)(h:l.all (Dl P T)=ah)(gt: ∀id,T.T.fn id=ah->a1s P id=ah)(wm: ∀id,T.T.arr id=ah->∀fs,P.underlying id≠aa (.struct fs))(px: ∀id,T.T.arr id=ah->aOL P T id=ah)
    (heq: ∀id n f,T.T.ty id=aa (.rc n)->U0.eq n=aa f->∀(x y:U0.D n) (a b:a8),
      pJ P .eql id a b (.agg (U0.en n x)) (.agg (U0.en n y))=aa (.v (.bool (f x y)))/\pJ P .neq id a b (.agg (U0.en n x)) (.agg (U0.en n y))=aa (.v (.bool (!f x y)))):tR P U0 T:=by
 have one: ∀id t,T.T.ty id=aa t->Dl P T (id,t)=ah:=λid t ht=>bK.1 h _ (CP (by rw[<-hl];exact ht))
 have un: ∀id t,T.T.ty id=aa t->aOC P T id t=ah:=λid t ht=>by
  have:=one id t ht;simp only[Dl,aC]at this;exact this.1.2
 refine⟨λid t ht=>?_,λid t ht=>?_,λid t ht=>?_,λid t ht=>?_,λid hf=>?_,λid t ht=>?_,λid n ht ha=>?_,λid n ht ha=>?_,heq⟩
 .have:=one id t ht;simp only[Dl,aC]at this;have h1:=this.1.1.1.1;split at h1
  .rename_i b hb;rw[hb];rw[eq_of_beq h1]
  .cases h1
 .have:=one id t ht;simp only[Dl,aC]at this;have h1:=this.1.1.1.2;split at h1
  .rename_i b hb;rw[hb];rw[aE h1]
  .cases h1
 .have h1:=un id t ht;unfold aOC at h1;split at h1
  .rename_i k j hj;rw[bL h1];exact hj
  .rename_i hj;exact hj
  .rename_i hj;exact hj
  .rename_i e i hj;simp only[aC]at h1;obtain⟨h2,h3⟩:=h1;refine⟨i,hj,?_,?_⟩
   .split at h2
    .rename_i u hu;rw[hu,Ty.beq_eq h2]
    .cases h2
   .split at h3
    .rename_i j hj2;rw[hj2,aE h3]
    .cases h3
  .rename_i n fs hj;simp only[aC]at h1;obtain⟨g1,g2⟩:=aAM h1.1;intro _;refine⟨fs,hj,by simpa using g1,λi f hf=>?_⟩
   obtain⟨k1,k2⟩:=g2 i f (by rw[Array.getElem?_toList];exact hf)
   exact⟨k1,by rw[k2,ir];rfl⟩
  .rename_i n _ _;intro ha;rw[h1]at ha;cases ha
  .cases h1
 .have:=one id t ht;simp only[Dl,aC]at this;have h1:=this.1.1.2;split at h1
  .rename_i b hb;rw[hb,Mr h1]
  .cases h1
 .have h1:=gt id hf;simp only[a1s,aC]at h1;obtain⟨⟨h1,h2⟩,h3⟩:=h1;refine⟨?_,?_,?_⟩
  .split at h1
   .rename_i b hb;rw[hb];simpa using h1
   .cases h1
  .split at h2
   .rename_i b hb;rw[hb,aE h2]
   .cases h2
  .split at h3
   .rename_i b hb;rw[hb,Mr h3]
   .cases h3
 .have:=one id t ht;simp only[Dl,aC]at this;have h1:=this.2;split at h1
  .rename_i i hi;simp only[aC]at h1;obtain⟨⟨⟨h1,h2⟩,h3⟩,h4⟩:=h1;split at h4
   .rename_i z hz;simp only[aC]at h4;exact⟨i,z,hi,aE h1,aE h2,by rwa [Nat.ble_eq]at h3,hz,aE h4.1.1,Mr h4.1.2,h4.2⟩
   .cases h4
  .cases h1
 .have h1:=un id _ ht;unfold aOC at h1;split at h1
  .rename_i e _;cases e
  .rename_i e _;cases e
  .rename_i e _;cases e
  .rename_i e _;cases e
  .rename_i n' fs e hj;cases e;simp only[aC]at h1;have h2:=h1.2;split at h2
   .rename_i pl dm;exact⟨fs,pl,hj,dm,aBk h2⟩
   .cases h2
  .rename_i e _ _;rw[h1]at ha;cases ha
  .cases h1
 .exact aOK (px id ha) ht
end
section
variable{P:az}{t:aw}
def a4a(s u:au UInt8):((⟨s.toArray⟩:ByteArray)==⟨u.toArray⟩)=ak (s=u):=by
 show(s.toArray==u.toArray)=_;by_cases h:s=u
 .subst h;simp
 .simp[h]
def Bs{d:Nat}{t:aw}{s u:au UInt8}(h:P.underlying t=aa .string):cU P (Op.equalIn (d+1) t (jN s) (jN u))=aa (ak (s=u)):=by
 rw[Op.equalIn.eq_2,bT,cC,h,<-a4a];rfl
def aNL{d:Nat}{ft:aw}{fs:Array Field}{f g:Field}(ht:P.underlying t=aa (.struct fs))(hp:P.stoodInHeld t=aj)(hs:P.underlying ft=aa .string)(hz:mB P ft=aa aj)
    (hf : fs.toList = [f, g]) (h1 : f.name ≠ "_") (h2 : g.name ≠ "_") (e1 : f.type = ft) (e2 : g.type = ft) (o1 : f.offset = 0) (o2 : g.offset = 1) (s u : G.Y) :
    cU P (Op.equalIn (d+1+1) t (.agg #[jN s.package,jN s.name]) (.agg #[jN u.package,jN u.name]))=aa (ak (s=u)):=by
 rw[DL ht hp,hf];have hpt: ∀(a b:av) (k:Nat) (v:av), #[a,b][k]?=aa v->cU P (part ft #[a,b] k)=aa v:=by
  intro a b k v hk;unfold part;rw[bT];have hagg:cU P (Go.isAgg ft)=aa aj:=by
   simp only[Go.isAgg,bT,cC];unfold mB at hz;cases hu:P.underlying ft with
   |none=>rw[hu]at hz;cases hz
   |some d=>
    rw[hu]at hz;simp only[aK,aA]at hz;cases d<;>first|rfl|simp at hz
  rw[hagg];simp only[aL,im,bP,hk,cB]
 have h0:=λ(x y:av)=>hpt x y 0 x (by simp)
 have h3:=λ(x y:av)=>hpt x y 1 y (by simp)
 simp only[Op.eqFields,h1,h2,e1,e2,o1,o2,ne_eq,not_false_eq_true,bQ,bT,h0,h3,aL];rw[Bs hs,aL];cases s with|mk sp sn=>
 cases u with|mk up un=>
 simp only[G.Y.mk.injEq]at*;by_cases c1:sp=up
 .simp only[c1,bN,bE,im,bP,bT,h3,aL];rw[Bs hs,aL];by_cases c2:sn=un<;>simp[c2,cB]
 .simp[c1,cB]
def aXc{ft:aw}{fs:Array Field}{f g:Field}(ht:P.underlying t=aa (.struct fs))(hp:P.stoodInHeld t=aj)(hs:P.underlying ft=aa .string)(hz:mB P ft=aa aj)
    (hf : fs.toList = [f, g]) (h1 : f.name ≠ "_") (h2 : g.name ≠ "_") (e1 : f.type = ft) (e2 : g.type = ft) (o1 : f.offset = 0) (o2 : g.offset = 1) (s u : G.Y) :
    cU P (Op.equal t (.agg #[jN s.package,jN s.name]) (.agg #[jN u.package,jN u.name]))=aa (ak (s=u)):=by
 unfold Op.equal;rw[show Op.maxDepth=9998+1+1 from rfl];exact aNL ht hp hs hz hf h1 h2 e1 e2 o1 o2 s u
def Rb{ft:aw}{fs:Array Field}{f g:Field}(ht:P.underlying t=aa (.struct fs))(hp:P.stoodInHeld t=aj)(hs:P.underlying ft=aa .string)(hz:mB P ft=aa aj)(hg:P.eqGuardType P.depth t=aj)
    (hf : fs.toList = [f, g]) (h1 : f.name ≠ "_") (h2 : g.name ≠ "_") (e1 : f.type = ft) (e2 : g.type = ft) (o1 : f.offset = 0) (o2 : g.offset = 1) (s u : G.Y) (a b : a8) :
    pJ P .eql t a b (.agg (G.eGY s)) (.agg (G.eGY u))=aa (.v (.bool (ak (s=u))))/\pJ P .neq t a b (.agg (G.eGY s)) (.agg (G.eGY u))=aa (.v (.bool (!decide (s=u)))):=by
 have he:=aXc ht hp hs hz hf h1 h2 e1 e2 o1 o2 s u;have kt: ∀op,pJ P op t a b (.agg (G.eGY s)) (.agg (G.eGY u))=(iX P op t a b (.agg #[jN s.package,jN s.name]) (.agg #[jN u.package,jN u.name])).map CF:=λop=>by
  simp only[pJ,G.eGY,aR,aEE,aCG,sN,aK,iX,jN,dP,bZ,aP,List.all_nil,n8,aI]
 have hg1: ∀op,op=BinOp.eql∨op= .neq->cU P (eqGuard op t a b (.agg #[jN s.package,jN s.name]) (.agg #[jN u.package,jN u.name]))=aa ():=by
  intro op qb;have hprog:cU P program=aa P:=rfl;rcases qb with rfl|rfl<;>simp only[eqGuard,bE,im,bP,bT,hprog,aL,hg,Bool.not_false,bQ,cB]
 constructor
 .rw[kt,aI4 (by simp[jN,bZ]) (by simp[jN,bZ]) (hg1 _ (.inl rfl)) he];rfl
 .rw[kt,aI3 (by simp[jN,bZ]) (by simp[jN,bZ]) (hg1 _ (.inr rfl)) he];rfl
end
end Go.TV
namespace Go.TV
open Go.AI Go.PI Go.Proofs
set_option maxRecDepth 20000
def tyL:au (Nat×Ty):=[(2,i6),(3,i6),(4,.bool),(5,(.int .u8)),(6,(.int .u8)),(9,.str),(10,.str),(11,.str),(12,(.int .u64)),(21,(.int .i32)),(22,(.sl (.int .u8))),(24,(zS 15)),(26,(.int .u32)),(28,(.rc 0)),(29,(.rc 0)),(30,(zS 3)),(32,(zS 17)),(39,(.rc 1)),(40,(.rc 1)),(41,(zS 2)),(42,(.rc 2)),(43,(.rc 2)),(44,(.rc 3)),(45,(.rc 3)),(51,(.sl (zS 4))),(53,(zS 1)),(54,(.rc 4)),(55,(.rc 4)),(56,(zS 4)),(57,(.rc 5)),(58,(.rc 5)),(59,(.rc 6)),(60,(.rc 6)),(61,(.sl (zS 12))),(62,(zS 7)),(63,(.rc 8)),(64,(.rc 8)),(65,(zS 14)),(66,(.int .u64)),(67,(.rc 15)),(68,(.rc 15)),(69,(zS 16)),(72,(.rc 16)),(73,(.rc 16)),(74,i6),(75,(zS 13)),(76,(.rc 14)),(77,(.rc 14)),(78,i6),(87,(.sl .str)),(88,(.rc 17)),(89,(.rc 17)),(131,(.rc 18)),(132,(.rc 18)),(138,(.sl i6)),(142,(.rc 19)),(143,(.rc 19)),(144,(.rc 20)),(145,(.rc 20)),(148,(zS 5)),(159,(zS 9)),(162,(.rc 9)),(163,(.rc 9)),(164,(.rc 13)),(180,(zS 21)),(184,(.rc 22)),(185,(.rc 22)),(186,(.rc 21)),(187,(.rc 21)),(193,(.rc 23)),(194,(.rc 23)),(197,(zS 24)),(199,(.rc 24)),(200,(.rc 24)),(204,(.sl i6)),(214,(.int .u64)),(286,(.int .u8)),(287,(.int .u8)),(290,(.int .i32)),(291,(.int .i32)),(294,(zS 12)),(295,(.rc 7)),(296,(.rc 7)),(298,(zS 3)),(299,(zS 10)),(300,(zS 11)),(301,(.rc 12)),(302,(.rc 12)),(303,(.sl (zS 9))),(304,(.rc 10)),(305,(.rc 10)),(306,(.rc 11)),(307,(.rc 11))]
def byL:au (Nat×Nat):=[(2,8),(3,8),(4,1),(5,1),(6,1),(9,16),(10,16),(11,16),(12,8),(21,4),(22,24),(24,24),(26,4),(28,32),(29,32),(30,24),(32,24),(39,32),(40,32),(41,24),(42,112),(43,112),(44,176),(45,176),(51,24),(53,24),(54,592),(55,592),(56,24),(57,40),(58,40),(59,240),(60,240),(61,24),(62,24),(63,56),(64,56),(65,24),(66,8),(67,568),(68,568),(69,24),(72,200),(73,200),(74,8),(75,24),(76,544),(77,544),(78,8),(87,24),(88,144),(89,144),(131,32),(132,32),(138,24),(142,360),(143,360),(144,16),(145,16),(148,24),(159,24),(162,208),(163,208),(164,64),(180,24),(184,72),(185,72),(186,64),(187,64),(193,56),(194,56),(197,24),(199,24),(200,24),(204,24),(214,8),(286,1),(287,1),(290,4),(291,4),(294,24),(295,152),(296,152),(298,24),(299,24),(300,24),(301,552),(302,552),(303,24),(304,48),(305,48),(306,232),(307,232)]
def elL:au (Nat×Nat):=[(22,5),(24,68),(30,45),(32,89),(41,43),(51,56),(53,40),(56,55),(61,294),(62,296),(65,77),(69,73),(75,164),(87,9),(138,74),(148,58),(159,163),(180,187),(197,200),(204,3),(294,302),(298,45),(299,305),(300,307),(303,159)]
def fnL:au Nat:=[1,23,25,31,33,35,36,37,38,46,47,48,49,50,52,70,71,80,81,82,83,84,85,86,90,92,93,94,95,96,97,98,99,100,101,103,104,105,106,107,108,109,110,112,113,114,115,116,117,119,120,121,122,123,124,125,126,127,129,134,135,136,137,139,140,141,147,149,150,152,154,156,157,158,161,165,167,168,169,170,172,173,174,175,176,177,179,182,188,190,191,195,196,198,202,203,206,207,209,210,211,212,213,215,217,219,220,221,222,224,226,227,228,229,230,231,232,233,234,236,237,238,239,241,242,243,244,246,247,248,250,252,253,254,255,256,257,258,259,260,261,262,263,264,266,267,269,270,271,272,275,276,277,285,288]
def arL:au Nat:=[164]
def tt0:TT:=⟨R5 tyL,λi=>(aH1 byL i).getD 0,λi=>eM i fnL,λi=>eM i arL⟩
def bGN(o:HU)(sig:Nat->f9 Tf):TP U0.D:=⟨tt0,aH1 elL,sig,o⟩
def aW1(o:HU)(sig:Nat->f9 Tf):tyL.all (Dl f4 (bGN o sig))=ah:=by kernel_rfl
def a30:fnL.all (a1s f4)=ah:=by kernel_rfl
def bDo(P:az)(i:Nat):Bool:=match P.underlying i with|some (.struct _)=>ah|_=>aj
def a5j:arL.all (λi=> !bDo f4 i)=ah:=by kernel_rfl
def aQ4(o:HU)(sig:Nat->f9 Tf):arL.all (aOL f4 (bGN o sig))=ah:=by kernel_rfl
def aXd:(tyL.all λx=>match x.2 with| .rc n=>(match U0.eq n with|some _=>eM x.1 [39,40]|none=>ah)|_=>ah)=ah:=by kernel_rfl
def bHW(o:HU)(sig:Nat->f9 Tf):tR f4 U0 (bGN o sig):=by
 refine a75 (l:=tyL) rfl (aW1 o sig) (λid h=>?_) (λid h fs e=>?_) (λid h=>bK.1 (aQ4 o sig) _ (kZ.1 h)) (λid n f h1 h2=>?_)
 .exact bK.1 a30 _ (kZ.1 h)
 .have:=bK.1 a5j _ (kZ.1 h);simp only[bDo,e]at this;cases this
 .have h3:=bK.1 aXd _ (CP h1);simp only[h2]at h3;have hn:n=1:=by
   match n,f,h2 with
   |0,f,h2=>first|rfl|cases h2
   |1,f,h2=>first|rfl|cases h2
   |2,f,h2=>first|rfl|cases h2
   |3,f,h2=>first|rfl|cases h2
   |4,f,h2=>first|rfl|cases h2
   |5,f,h2=>first|rfl|cases h2
   |6,f,h2=>first|rfl|cases h2
   |7,f,h2=>first|rfl|cases h2
   |8,f,h2=>first|rfl|cases h2
   |9,f,h2=>first|rfl|cases h2
   |10,f,h2=>first|rfl|cases h2
   |11,f,h2=>first|rfl|cases h2
   |12,f,h2=>first|rfl|cases h2
   |13,f,h2=>first|rfl|cases h2
   |14,f,h2=>first|rfl|cases h2
   |15,f,h2=>first|rfl|cases h2
   |16,f,h2=>first|rfl|cases h2
   |17,f,h2=>first|rfl|cases h2
   |18,f,h2=>first|rfl|cases h2
   |19,f,h2=>first|rfl|cases h2
   |20,f,h2=>first|rfl|cases h2
   |21,f,h2=>first|rfl|cases h2
   |22,f,h2=>first|rfl|cases h2
   |23,f,h2=>first|rfl|cases h2
   |k+24,f,h2=>first|rfl|cases h2
  subst hn;cases h2;intro x y a b;have hm:=kZ.1 h3;simp only[List.mem_cons,List.not_mem_nil,or_false]at hm;rcases hm with rfl|rfl
  .exact Rb (ft:=9) Tryz.underlying39 (by kernel_rfl) (by kernel_rfl) (by kernel_rfl) (by kernel_rfl) rfl (by decide) (by decide) rfl rfl rfl rfl x y a b
  .exact Rb (ft:=9) Tryz.underlying40 (by kernel_rfl) (by kernel_rfl) (by kernel_rfl) (by kernel_rfl) rfl (by decide) (by decide) rfl rfl rfl rfl x y a b
end Go.TV
namespace Go.TV
open Go.AI Go.PI
def aNl:TC->au Nat->TC
 |c,[]=>c
 | .seq a _,0::l=>aNl a l
 | .seq _ b,_::l=>aNl b l
 | .cond _ a _,0::l=>aNl a l
 | .cond _ _ b,_::l=>aNl b l
 | .block _ c,_::l=>aNl c l
 | .loop _ c,_::l=>aNl c l
 | .scope c,_::l=>aNl c l
 | .cut _ c,_::l=>aNl c l
 | .ice _ c,_::l=>aNl c l
 |c,_=>c
abbrev nO:=au (TV U0.D)
abbrev Rt:=f9 nO
abbrev cG:=rM U0.D
abbrev Kt:=TK U0.D nO
structure Cu where
 D:DT U0 nO
 E:DT U0 nO
def xX(ct:Cut){f g:TS U0.D->TM U0.D->Rt}(h: ∀S M,f S M=g S M)(d:nO):qJ U0 ct f d=qJ U0 ct g d:=by
 have:f=g:=by funext S M;exact h S M
 rw[this]
end Go.TV
namespace Go.TV
open Go.AI
def dg(l:au Int):Prop:= ∀x∈l,0<=x/\x<=9
def vl:au Int->Int
 |[]=>0
 |x::l=>x+10*vl l
def pL(l:au Int):Prop:=l=[]∨0<vl l/\∀l' x,l=l'++ [x]->x≠0
def pO:dg []:=λx h=>by cases h
def dE{x:Int}{l:au Int}:dg (x::l)↔(0<=x/\x<=9)/\dg l:=by simp[dg]
def UI{a b:au Int}:dg (a++b)↔dg a/\dg b:=by
 constructor
 .exact λh=>⟨λx hx=>h x (List.mem_append_left _ hx),λx hx=>h x (List.mem_append_right _ hx)⟩
 .rintro⟨h1,h2⟩ x hx;rcases List.mem_append.1 hx with hx|hx
  .exact h1 x hx
  .exact h2 x hx
def kQ: ∀{l:au Int},dg l->0<=vl l
 |[],_=>oc _
 |x::l,h=>by have h':=dE.1 h;have:=kQ h'.2;simp only[vl];omega
def IB:Nat->Int
 |0=>1
 |n+1=>10*IB n
def T6: ∀n,0<IB n
 |0=>by decide
 |n+1=>by have:=T6 n;simp only[IB];omega
def YU: ∀{l:au Int},dg l->vl l<IB l.length
 |[],_=>by decide
 |x::l,h=>by have h':=dE.1 h;have:=YU h'.2;simp only[vl,aM,IB];omega
def aEt: ∀(a b:au Int),vl (a++b)=vl a+IB a.length*vl b
 |[],b=>by simp[vl,IB]
 |x::a,b=>by simp only[aY,vl,aEt a b,aM,IB];rw[Int.mul_add,Int.mul_assoc];omega
def kJ:au Int->au Int
 |[]=>[]
 |x::l=>match kJ l with
  |[]=>if x=0 then []else [x]
  |y::t=>x::y::t
def Cr: ∀l:au Int,vl (kJ l)=vl l
 |[]=>rfl
 |x::l=>by
  have ih:=Cr l;simp only[kJ];cases h:kJ l with
  |nil=>rw[h]at ih;simp only[vl]at ih;by_cases e:x=0<;>simp[e,vl,<-ih]
  |cons y t=>rw[h]at ih;simp only[vl]at ih⊢;omega
def uA: ∀{l:au Int},dg l->dg (kJ l)
 |[],_=>pO
 |x::l,h=>by
  have h':=dE.1 h;have ih:=uA h'.2;simp only[kJ];cases e:kJ l with
  |nil=>by_cases e:x=0<;>simp[e,dg];omega
  |cons y t=>rw[e]at ih;exact dE.2 ⟨h'.1,ih⟩
def tY: ∀l:au Int,(kJ l).length<=l.length
 |[]=>aS _
 |x::l=>by
  have ih:=tY l;simp only[kJ];cases e:kJ l with
  |nil=>by_cases e:x=0<;>simp[e]
  |cons y t=>rw[e]at ih;simp only[aM]at ih⊢;omega
def ZI: ∀{l:au Int},dg l->(kJ l=[]↔vl l=0)
 |[],_=>by simp[kJ,vl]
 |x::l,h=>by
  have h':=dE.1 h;have ih:=ZI h'.2;have n:=kQ h'.2;simp only[kJ,vl];cases e:kJ l with
  |nil=>have:=ih.1 e;by_cases e:x=0<;>simp[e]<;>omega
  |cons y t=>
   have:vl l≠0:=λh=>by rw[ih.2 h]at e;cases e
   simp;omega
def aGS{x y:Int}{l:au Int}(h:pL (y::l))(hx:0<=x):pL (x::y::l):=by
 rcases h with h|h
 .cases h
 refine .inr ⟨by have:=h.1;simp only[vl]at this⊢;omega,λl' z e=>?_⟩
 cases l' with
 |nil=>cases e
 |cons a l'=>simp only[aY,List.cons.injEq]at e;exact h.2 l' z e.2
def tX: ∀{l:au Int},dg l->pL (kJ l)
 |[],_=> .inl rfl
 |x::l,h=>by
  have h':=dE.1 h;have ih:=tX h'.2;simp only[kJ];cases e:kJ l with
  |nil=>
   by_cases e:x=0
   .simp[e,pL]
   .rw[bI e];refine .inr ⟨by simp only[vl];omega,λl' z e'=>?_⟩
    cases l' with
    |nil=>simp only[aW,List.cons.injEq,and_true]at e';omega
    |cons a l'=>simp at e'
  |cons y t=>rw[e]at ih;exact aGS ih h'.1.1
def FC{x y:Int}{l:au Int}(h:pL (x::y::l))(hd:dg (y::l)):pL (y::l):=by
 rcases h with h|h
 .cases h
 have h2: ∀l' z,y::l=l'++ [z]->z≠0:=λl' z e=>h.2 (x::l') z (by rw[e];rfl)
 refine .inr ⟨?_,h2⟩;have n:=kQ hd;by_cases e:vl (y::l)=0
 .exfalso;have: ∀(l:au Int),dg l->vl l=0->∀z∈l,z=0:=by
   intro l;induction l with
   |nil=>intro _ _ z hz;cases hz
   |cons a l ih=>
    intro hd e z hz;have kz:=dE.1 hd;have:=kQ kz.2;simp only[vl]at e;rcases List.mem_cons.1 hz with rfl|hz
    .omega
    .exact ih kz.2 (by omega) z hz
  have hl:(y::l)=(y::l).dropLast++ [(y::l).getLast (by simp)]:=(List.dropLast_concat_getLast _).symm
  exact h2 _ _ hl (this _ hd e _ (List.getLast_mem _))
 .omega
def Ts: ∀{l:au Int},dg l->pL l->kJ l=l
 |[],_,_=>rfl
 |[x],hd,h=>by
  rcases h with h|h
  .cases h
  have:=h.2 [] x rfl;simp[kJ,this]
 |x::y::l,hd,h=>by
  have kz:=dE.1 hd;have ih:=Ts kz.2 (FC h kz.2);rw[kJ,ih]
def aGR: ∀{l:au Int},dg l->pL l->l≠ []->IB l.length<=10*vl l
 |[],_,_,h=>absurd rfl h
 |[x],hd,h,_=>by
  rcases h with h|h
  .cases h
  have:=h.1;simp only[vl,aM,aX,IB]at this⊢;omega
 |x::y::l,hd,h,_=>by
  have kz:=dE.1 hd;have ih:=aGR kz.2 (FC h kz.2) (by simp)
  have h3:IB (x::y::l).length=10*IB (y::l).length:=rfl;have h4:vl (x::y::l)=x+10*vl (y::l):=rfl;omega
def aAz{a b:Nat}(h:a<=b):IB a<=IB b:=by
 induction b with
 |zero=>have:a=0:=(by omega);subst this;exact oc _
 |succ b ih=>
  by_cases e:a=b+1
  .subst e;exact oc _
  .have:=ih (by omega);have:=T6 b;simp only[IB];omega
def Um{a b:au Int}(ha:dg a)(hb:dg b)(nb:pL b)(h:a.length<b.length):vl a<vl b:=by
 have h1:=YU ha;have h2:=aGR hb nb (λe=>by subst e;simp at h)
 have h3:IB (a.length+1)<=IB b.length:=aAz h;simp only[IB]at h3;omega
def xB:au Int->au Int->Int
 |x::a,y::b=>if xB a b=0 then(if x<y then-1 else if y<x then 1 else 0)else xB a b
 |_,_=>0
def qV(a b:au Int):Int:=if a.length=b.length then xB a b else if a.length<b.length then-1 else 1
def aAH: ∀{a b:au Int},dg a->dg b->a.length=b.length->(xB a b= -1/\vl a<vl b)∨(xB a b=0/\vl a=vl b)∨(xB a b=1/\vl b<vl a)
 |[],[],_,_,_=> .inr (.inl ⟨rfl,rfl⟩)
 |[],_::_,_,_,h=>by simp at h
 |_::_,[],_,_,h=>by simp at h
 |x::a,y::b,ha,hb,h=>by
  have cp:=dE.1 ha;have bm:=dE.1 hb;have ih:=aAH cp.2 bm.2 (by simpa using h)
  simp only[xB,vl];rcases ih with⟨i1,i2⟩|⟨i1,i2⟩|⟨i1,i2⟩
  .rw[i1];left;refine⟨rfl,?_⟩;omega
  .rw[i1,bJ rfl];by_cases e:x<y
   .rw[bJ e];left;refine⟨rfl,?_⟩;omega
   .rw[bI e];by_cases e':y<x
    .rw[bJ e'];right;right;refine⟨rfl,?_⟩;omega
    .rw[bI e'];right;left;refine⟨rfl,?_⟩;omega
  .rw[i1];right;right;refine⟨rfl,?_⟩;omega
def aOy{a b:au Int}(ha:dg a)(hb:dg b)(na:pL a)(nb:pL b):(qV a b= -1/\vl a<vl b)∨(qV a b=0/\vl a=vl b)∨(qV a b=1/\vl b<vl a):=by
 unfold qV;by_cases e:a.length=b.length
 .rw[bJ e];exact aAH ha hb e
 .rw[bI e];by_cases e':a.length<b.length
  .rw[bJ e'];exact .inl ⟨rfl,Um ha hb nb e'⟩
  .rw[bI e'];exact .inr (.inr ⟨rfl,Um hb ha na (by omega)⟩)
def uK{a b:au Int}(ha:dg a)(hb:dg b)(na:pL a)(nb:pL b):0<=qV a b↔vl b<=vl a:=by
 rcases aOy ha hb na nb with⟨h1,h2⟩|⟨h1,h2⟩|⟨h1,h2⟩<;>omega
def Fp{a b:au Int}(h:0<=qV a b):b.length<=a.length:=by
 unfold qV at h;by_cases e:a.length=b.length
 .omega
 .rw[bI e]at h;by_cases e':a.length<b.length
  .rw[bJ e']at h;omega
  .omega
def hz:au Int->Int
 |[]=>0
 |x::_=>x
def bEc: ∀b:au Int,vl b=hz b+10*vl b.tail
 |[]=>rfl
 |x::b=>rfl
def bEd: ∀{b:au Int},dg b->(0<=hz b/\hz b<=9)/\dg b.tail
 |[],h=>⟨⟨oc _,by decide⟩,h⟩
 |x::b,h=>dE.1 h
def aAU:au Int->au Int->Int->au Int
 |[],_,_=>[]
 |x::a,b,c=>if x-c-hz b<0 then(x-c-hz b+10)::aAU a b.tail 1 else(x-c-hz b)::aAU a b.tail 0
def Uh: ∀{a b:au Int} {c:Int},dg a->dg b->(c=0∨c=1)->b.length<=a.length->vl b+c<=vl a->vl (aAU a b c)=vl a-vl b-c/\dg (aAU a b c)
 |[],[],c,_,_,hc,_,h=>by simp only[aAU,vl]at h⊢;exact⟨by omega,pO⟩
 |[],_::_,c,_,_,_,h,_=>by simp at h
 |x::a,b,c,ha,hb,hc,hl,h=>by
  have cp:=dE.1 ha;have bm:=bEd hb;have v:=bEc b;have fe:b.tail.length<=a.length:=by rw[List.length_tail];simp only[aM]at hl;omega
  simp only[aAU,vl]at h⊢;generalize hz b=y at bm v⊢;by_cases e:x-c-y<0
  .rw[bJ e];have ih:=Uh (a:=a) (b:=b.tail) (c:=1) cp.2 bm.2 (.inr rfl) fe (by omega)
   simp only[vl];exact⟨by omega,dE.2 ⟨by omega,ih.2⟩⟩
  .rw[bI e];have ih:=Uh (a:=a) (b:=b.tail) (c:=0) cp.2 bm.2 (.inl rfl) fe (by omega)
   simp only[vl];exact⟨by omega,dE.2 ⟨by omega,ih.2⟩⟩
def aAT: ∀(a b:au Int) (c:Int),(aAU a b c).length=a.length
 |[],_,_=>rfl
 |x::a,b,c=>by simp only[aAU];split<;>simp[aAT a]
def DR(a b:au Int):au Int:=kJ (aAU a b 0)
def FF{a b:au Int}(ha:dg a)(hb:dg b)(hl:b.length<=a.length)(h:vl b<=vl a):vl (DR a b)=vl a-vl b/\dg (DR a b)/\pL (DR a b):=by
 have h1:=Uh (c:=0) ha hb (.inl rfl) hl (by omega)
 unfold DR;exact⟨by rw[Cr];omega,uA h1.2,tX h1.2⟩
def zB:au Int->au Int->Int->au Int
 |[],[],c=>if 0<c then [c]else []
 |x::a,[],c=>((c+x)%10)::zB a [] ((c+x)/10)
 |[],y::b,c=>((c+y)%10)::zB [] b ((c+y)/10)
 |x::a,y::b,c=>((c+x+y)%10)::zB a b ((c+x+y)/10)
def Fk: ∀{a b:au Int} {c:Int},dg a->dg b->0<=c->c<=1->vl (zB a b c)=vl a+vl b+c/\dg (zB a b c)
 |[],[],c,_,_,h0,h1=>by
  simp only[zB];by_cases e:0<c
  .rw[bJ e];exact⟨by simp[vl],dE.2 ⟨by omega,pO⟩⟩
  .rw[bI e];exact⟨by simp only[vl];omega,pO⟩
 |x::a,[],c,ha,hb,h0,h1=>by
  have cp:=dE.1 ha;have ih:=Fk (a:=a) (b:=[]) (c:=(c+x)/10) cp.2 pO (by omega) (by omega)
  simp only[zB,vl]at ih⊢;exact⟨by omega,dE.2 ⟨by omega,ih.2⟩⟩
 |[],y::b,c,ha,hb,h0,h1=>by
  have bm:=dE.1 hb;have ih:=Fk (a:=[]) (b:=b) (c:=(c+y)/10) pO bm.2 (by omega) (by omega)
  simp only[zB,vl]at ih⊢;exact⟨by omega,dE.2 ⟨by omega,ih.2⟩⟩
 |x::a,y::b,c,ha,hb,h0,h1=>by
  have cp:=dE.1 ha;have bm:=dE.1 hb;have ih:=Fk (a:=a) (b:=b) (c:=(c+x+y)/10) cp.2 bm.2 (by omega) (by omega)
  simp only[zB,vl]at ih⊢;exact⟨by omega,dE.2 ⟨by omega,ih.2⟩⟩
def uI: ∀(a b:au Int) (c:Int),(zB a b c).length<=max a.length b.length+1
 |[],[],c=>by simp only[zB];split<;>simp
 |x::a,[],c=>by have:=uI a [] ((c+x)/10);simp only[zB,aM,aX]at this⊢;omega
 |[],y::b,c=>by have:=uI [] b ((c+y)/10);simp only[zB,aM,aX]at this⊢;omega
 |x::a,y::b,c=>by have:=uI a b ((c+x+y)/10);simp only[zB,aM]at this⊢;omega
def JS(x:Int):au Int->au Int->Int->au Int
 |_,[],_=>[]
 |[],o::out,c=>if 0<c then((o+c)%10)::JS x [] out ((o+c)/10)else o::out
 |y::b,o::out,c=>((o+c+x*y)%10)::JS x b out ((o+c+x*y)/10)
def aG4(x:Int): ∀out:au Int,JS x [] out 0=out
 |[]=>rfl
 |o::out=>by simp[JS]
def BK(x:Int): ∀(b out:au Int) (c:Int),(JS x b out c).length=out.length
 |_,[],_=>by simp[JS]
 |[],o::out,c=>by simp only[JS];split<;>simp[BK x [] out]
 |y::b,o::out,c=>by simp only[JS,aM,BK x b out]
def aSs{x y:Int}(hx:0<=x/\x<=9)(hy:0<=y/\y<=9):0<=x*y/\x*y<=81:=by
 refine⟨Int.mul_nonneg hx.1 hy.1,?_⟩;have h1:x*y<=9*y:=Int.mul_le_mul_of_nonneg_right hx.2 hy.1;omega
def Ug{x:Int}(hx:0<=x/\x<=9): ∀{b out:au Int} {c:Int},dg b->dg out->0<=c->c<=9->b.length<out.length->(∀o∈out.drop b.length,o=0)->
    vl (JS x b out c)=vl out+x*vl b+c/\dg (JS x b out c)/\∀o∈(JS x b out c).drop (b.length+1),o=0
 |_,[],c,_,_,_,_,h,_=>by simp at h
 |[],o::out,c,hb,ho,h0,h1,hl,hz=>by
  have gk:=dE.1 ho;have o0:o=0:=hz o (by simp)
  subst o0;simp only[JS];by_cases e:0<c
  .rw[bJ e,show(0+c)/10=0 by omega,aG4]
   refine⟨by simp only[vl,Int.mul_zero];omega,dE.2 ⟨by omega,gk.2⟩,λz kf=>hz z ?_⟩
   simp only[aX,ir,List.drop_succ_cons,List.drop_zero]at kf⊢;exact aG _ kf
  .rw[bI e];refine⟨by simp only[vl,Int.mul_zero];omega,ho,λz kf=>hz z ?_⟩
   simp only[aX,ir,List.drop_succ_cons,List.drop_zero]at kf⊢;exact aG _ kf
 |y::b,o::out,c,hb,ho,h0,h1,hl,hz=>by
  have gk:=dE.1 ho;have bm:=dE.1 hb;have p:=aSs hx bm.1;simp only[aM,Nat.add_lt_add_iff_right]at hl;have ih:=Ug hx (b:=b) (out:=out) (c:=(o+c+x*y)/10) bm.2 gk.2 (by omega) (by omega) hl (λz h=>hz z (by simpa using h))
  simp only[JS,vl];refine⟨?_,dE.2 ⟨by omega,ih.2.1⟩,λz h=>ih.2.2 z (by simpa using h)⟩
  rw[ih.1,Int.mul_add x y,show x*(10*vl b)=10*(x*vl b) by rw[Int.mul_left_comm]]
  generalize x*vl b=u;generalize x*y=v at p⊢;omega
def aD2:au Int->au Int->au Int->au Int
 |[],_,out=>out
 |x::a,b,out=>match JS x b out 0 with
  |[]=>[]
  |o::t=>o::aD2 a b t
def aEF: ∀{a b out:au Int},dg a->dg b->dg out->a.length+b.length<out.length->(∀o∈out.drop b.length,o=0)->
    vl (aD2 a b out)=vl out+vl a*vl b/\dg (aD2 a b out)
 |[],b,out,_,_,ho,_,_=>by simp only[aD2,vl,Int.zero_mul,Int.add_zero];exact⟨trivial,ho⟩
 |x::a,b,out,ha,hb,ho,hl,hz=>by
  have cp:=dE.1 ha;simp only[aM]at hl;have h1:=Ug cp.1 (b:=b) (out:=out) (c:=0) hb ho (by omega) (by omega) (by omega) hz
  have h2:=BK x b out 0;simp only[aD2];cases e:JS x b out 0 with
  |nil=>rw[e]at h2;simp at h2;omega
  |cons o t=>
   rw[e]at h1 h2;simp only[aM]at h2;have h3:=dE.1 h1.2.1;have ih:=aEF (a:=a) (b:=b) (out:=t) cp.2 hb h3.2 (by omega) (λz h=>h1.2.2 z (by simpa using h))
   refine⟨?_,dE.2 ⟨h3.1,ih.2⟩⟩;have h4:=h1.1;simp only[vl]at h4⊢;rw[ih.1,Int.add_mul,show 10*vl a*vl b=10*(vl a*vl b) by rw[Int.mul_assoc]]
   generalize x*vl b=u at h4⊢;generalize vl a*vl b=v;omega
def ZK: ∀(a b out:au Int),(aD2 a b out).length<=out.length
 |[],b,out=>aS _
 |x::a,b,out=>by
  have h2:=BK x b out 0;simp only[aD2];cases e:JS x b out 0 with
  |nil=>simp
  |cons o t=>rw[e]at h2;have:=ZK a b t;simp only[aM]at h2⊢;omega
def aD1(a b:au Int):au Int:=kJ (aD2 a b (List.replicate (a.length+b.length+1) 0))
def a7G: ∀n,vl (List.replicate n (0:Int))=0
 |0=>rfl
 |n+1=>by rw[List.replicate_succ,vl,a7G n];rfl
def ED{a b:au Int}(ha:dg a)(hb:dg b):vl (aD1 a b)=vl a*vl b/\dg (aD1 a b)/\pL (aD1 a b)/\(aD1 a b).length<=a.length+b.length+1:=by
 have hz:dg (List.replicate (a.length+b.length+1) (0:Int)):=λx hx=>by have:=List.eq_of_mem_replicate hx;omega
 have h:=aEF (out:=List.replicate (a.length+b.length+1) 0) ha hb hz (by simp) (λo ho=>List.eq_of_mem_replicate (List.mem_of_mem_drop ho))
 rw[a7G,Int.zero_add]at h;unfold aD1;refine⟨by rw[Cr,h.1],uA h.2,tX h.2,?_⟩
 have h1:=tY (aD2 a b (List.replicate (a.length+b.length+1) 0));have h2:=ZK a b (List.replicate (a.length+b.length+1) 0);simp only[List.length_replicate]at h2;omega
def IG(b:au Int):Nat->au Int->Int->au Int×Int
 |0,r,k=>(r,k)
 |m+1,r,k=>if 0<=qV r b then IG b m (DR r b) (k+1)else(r,k)
def aAO{a b:au Int}(ha:dg a)(hb:dg b)(na:pL a)(h:vl a<=vl b):a.length<=b.length:=by
 by_cases e:b.length<a.length
 .have:=Um hb ha na e;omega
 .omega
def a1j{b:au Int}(hb:dg b)(nb:pL b)(pb:0<vl b): ∀(m:Nat) (r:au Int) (k:Int),dg r->pL r->vl r<(m:Int)*vl b->
    vl r=((IG b m r k).2-k)*vl b+vl (IG b m r k).1/\vl (IG b m r k).1<vl b/\dg (IG b m r k).1/\pL (IG b m r k).1/\k<=(IG b m r k).2/\(IG b m r k).2<k+m:=by
 intro m;induction m with
 |zero=>intro r k hr _ h;have:=kQ hr;simp at h;omega
 |succ m ih=>
  intro r k hr nr h;have n:=kQ hr;have hm:((m+1:Nat):Int)*vl b=(m:Int)*vl b+vl b:=by rw[Int.natCast_succ,Int.add_mul,Int.one_mul]
  rw[hm]at h;simp only[IG];by_cases e:0<=qV r b
  .rw[bJ e];have hl:=Fp e;have hge:=(uK hr hb nr nb).1 e;have h1:=FF hr hb hl hge;have i:=ih (DR r b) (k+1) h1.2.1 h1.2.2 (by rw[h1.1];omega)
   refine⟨?_,i.2.1,i.2.2.1,i.2.2.2.1,by omega,by omega⟩
   have i1:=i.1;rw[h1.1]at i1;have:((IG b m (DR r b) (k+1)).2-k)*vl b=((IG b m (DR r b) (k+1)).2-(k+1))*vl b+vl b:=by
    rw[show(IG b m (DR r b) (k+1)).2-k=((IG b m (DR r b) (k+1)).2-(k+1))+1 by omega,Int.add_mul,Int.one_mul]
   omega
  .rw[bI e];have hlt:vl r<vl b:=by
    by_cases e':vl b<=vl r
    .exact absurd ((uK hr hb nr nb).2 e') e
    .omega
   exact⟨by simp,hlt,hr,nr,oc _,by omega⟩
def pY(b:au Int):au Int->au Int×au Int
 |[]=>([],[])
 |x::a=>((IG b 10 (kJ (x::(pY b a).2)) 0).2::(pY b a).1,(IG b 10 (kJ (x::(pY b a).2)) 0).1)
def wY{b:au Int}(hb:dg b)(nb:pL b)(pb:0<vl b): ∀{a:au Int},dg a->
    vl a=vl (pY b a).1*vl b+vl (pY b a).2/\vl (pY b a).2<vl b/\dg (pY b a).2/\pL (pY b a).2/\dg (pY b a).1/\(pY b a).1.length=a.length
 |[],_=>⟨by simp[pY,vl],by simpa [pY,vl]using pb,pO,.inl rfl,pO,rfl⟩
 |x::a,h=>by
  have h':=dE.1 h;have ih:=wY hb nb pb h'.2;have hx:dg (x::(pY b a).2):=dE.2 ⟨h'.1,ih.2.2.1⟩;have hv:=Cr (x::(pY b a).2);simp only[vl]at hv;have h1:=a1j hb nb pb 10 (kJ (x::(pY b a).2)) 0 (uA hx) (tX hx) (by rw[hv];omega)
  simp only[pY,vl];refine⟨?_,h1.2.1,h1.2.2.1,h1.2.2.2.1,dE.2 ⟨by omega,ih.2.2.2.2.1⟩,by simp[ih.2.2.2.2.2]⟩
  have e1:=h1.1;have e2:=ih.1;rw[hv,Int.sub_zero]at e1;rw[Int.add_mul,show 10*vl (pY b a).1*vl b=10*(vl (pY b a).1*vl b) by rw[Int.mul_assoc]]
  omega
def LF{a b:au Int}(hb:dg b)(nb:pL b)(pb:0<vl b)(ha:dg a):(pY b a).2.length<=b.length:=
 aAO (wY hb nb pb ha).2.2.1 hb (wY hb nb pb ha).2.2.2.1 (by have:=(wY hb nb pb ha).2.1;omega)
def oK(a b:au Int):au Int×au Int:=(kJ (pY b a).1,(pY b a).2)
def aD7:Nat->au Int->au Int->au Int
 |0,d,_=>d
 |m+1,d,e=>match e with
  |[]=>d
  |_::_=>aD7 m e (oK d e).2
def rD{e:au Int}(ne:pL e)(h:e≠ []):0<vl e:=by
 rcases ne with ne|ne
 .exact absurd ne h
 .exact ne.1
def a3Y: ∀(m:Nat) (d e:au Int),dg d->dg e->pL d->pL e->(vl e<(m:Int))->(d≠ []∨e≠ [])->
    dg (aD7 m d e)/\pL (aD7 m d e)/\aD7 m d e≠ []/\(aD7 m d e).length<=max d.length e.length:=by
 intro m;induction m with
 |zero=>intro d e hd he nd ne h _;have:=kQ he;simp at h;omega
 |succ m ih=>
  intro d e hd he nd ne h hh;cases e with
  |nil=>exact⟨hd,nd,by simpa [aD7]using hh,by simp only[aD7];omega⟩
  |cons x e=>
   have pb:=rD ne (by simp)
   have o:=wY he ne pb hd;have ol:=LF he ne pb hd;have i:=ih (x::e) (pY (x::e) d).2 he o.2.2.1 ne o.2.2.2.1 (by omega) (.inl (by simp))
   refine⟨i.1,i.2.1,i.2.2.1,?_⟩;have:=i.2.2.2;simp only[aD7,oK];omega
end Go.TV
namespace Go.Rf
open Go.AI Go.Proofs
noncomputable section
def jF(d:f9 Nat)(op:Op)(t:aw):ic:={dst:=d,op:=op,type:=t,pos:= "",after:= #[],guard:=ae}
def sE(S:ia)(k j:Nat)(v:av):Slots.at (Tr.set S k v) j=if j=k then v else S.at j:=by
 unfold Slots.at;rw[Tr.get_set];split<;>rfl
def at_store(S:ia)(k j:Nat)(v:av):Slots.at (S.store (aa k) v) j=if j=k then v else S.at j:=sE S k j v
def CI:Tryz.prog.toTables.follows .mixedOrders=ah:=by kernel_rfl
def bBr:Array ic:= #[jF (aa 70) (.load 45 (.tmp 3)) 45,jF (aa 71) (.move (.tmp 0)) 30,
 jF (aa 72) (.call {callee:= .builtin .len,args:= #[.tmp 71],argTypes:= #[30]}) 3,jF (aa 73) (.move (.const (.int .i64 0))) 3]
def bBq:Array ic:= #[jF (aa 74) (.binOp .lss 3 (.tmp 73) (.tmp 72) 3) 4]
def bBp:Array ic:= #[jF (aa 75) (.indexAddr 30 (.tmp 71) (.tmp 73)) 0,jF (aa 76) (.load 45 (.tmp 75)) 45,
 jF (aa 85) (.alloc 45) 0,jF ae (.store 45 (.tmp 85) (.tmp 76)) 0]
def bBo:Array ic:= #[jF (aa 77) (.call {callee:= .value (.func 118),args:= #[.tmp 76,.tmp 70],argTypes:= #[45,45]}) 170,
 jF (aa 78) (.extract (.tmp 77) 0) 74,jF (aa 79) (.extract (.tmp 77) 1) 45,jF (aa 80) (.extract (.tmp 77) 2) 4,
 jF (aa 86) (.alloc 45) 0,jF ae (.store 45 (.tmp 86) (.tmp 79)) 0]
def a1m:Array ic:= #[jF (aa 81) (.call {callee:= .value (.func 35),args:= #[.tmp 76],argTypes:= #[45]}) 45,
 jF (aa 87) (.build 143 #[(0,.tmp 78),(1,.tmp 79),(2,.tmp 81)]) 143,
 jF (aa 90) (.alloc 143) 0,jF ae (.store 143 (.tmp 90) (.tmp 87)) 0,
 jF (aa 82) (.load 74 (.tmp 5)) 74,jF (aa 91) (.fieldAddr 143 (.tmp 90) 0) 0,jF (aa 92) (.load 74 (.tmp 91)) 74,
 jF (aa 83) (.binOp .and 74 (.tmp 82) (.tmp 92) 74) 74,jF ae (.store 74 (.tmp 5) (.tmp 83)) 0]
def aGw:Array ic:= #[jF (aa 84) (.binOp .add 3 (.tmp 73) (.const (.int .i64 1)) 3) 3,jF (aa 73) (.move (.tmp 84)) 3]
def a4S:Code:= .seq (.region 51 bBq aj) (.seq (.cond (.tmp 74) .skip (.exit 5)) (.seq (.region 52 bBp aj) (.seq (.region 53 bBo aj)
 (.seq (.cond (.tmp 80) (.region 54 a1m aj) .skip) (.region 55 aGw aj)))))
def bE5:Code:= .seq (.region 50 bBr aj) (.block 5 (.loop a4S))
def bJG:Array ic:= #[jF (aa 67) (.load 74 (.tmp 5)) 74,jF (aa 4) (.move (.tmp 67)) 74]
def a6I:Code:= .seq (.region 56 bJG aj) .ret
def ZN:Code->Code
 | .seq a (.seq b (.seq c _))=> .seq a (.seq b (.seq c (.seq bE5 a6I)))
 |c=>c
noncomputable def aCB:Code:=Tryz.f39.body.getD .skip
def tyF:Func:={Tryz.f39 with body:=aa (ZN aCB),ntmps:=93}
def cdP:az:={f4 with funcs:=⟨Tryz.prog.funcs.toList.set 39 tyF⟩}
section
variable{call:FuncId->Array av->St->f9 (av×St)}
def dV{P:az}{ops:Array ic}{base i:Nat}{o:ic}{rest:au ic}{S:ia}{H:St}{r:ia×St}(hg:o.guard=ae)(h:lF P call ops base (o::rest) i S H=aa r):
    ∃v H1,vZ P call base i o S H=aa (v,H1)/\lF P call ops base rest (i+1) (S.store o.dst v) H1=aa r:=by
 unfold lF wanted at h;rw[hg,aI]at h;split at h
 .rename_i v H1 e;exact⟨v,H1,e,h⟩
 .cases h
def gV(S:ia)(v:av):S.store ae v=S:=rfl
def fQ{P:az}{id:Nat}{ops:Array ic}{L:Nat}{S S':ia}{H H':St}{fl:Fl}(h:eJ P call L (.region id ops aj) S H=aa (fl,S',H')):
    fl= .normal/\lF P call ops H.next ops.toList 0 S {H with next:=H.next+ops.size}=aa (S',H'):=by
 simp only[eJ,aF]at h;obtain⟨⟨a,b⟩,h,e⟩:=h;cases e;exact⟨rfl,h⟩
def lE{P:az}{ops:Array ic}{base i:Nat}{S S':ia}{H H':St}(h:lF P call ops base [] i S H=aa (S',H')):S'=S/\H'=H:=by
 simp only[lF,aA,aB]at h;exact⟨h.1.symm,h.2.symm⟩
def kL{P:az}{a b:Code}{L:Nat}{S S':ia}{H H':St}{fl:Fl}(h:eJ P call L (.seq a b) S H=aa (fl,S',H')):
    (∃S1 H1,eJ P call L a S H=aa (.normal,S1,H1)/\eJ P call L b S1 H1=aa (fl,S',H'))∨(fl≠ .normal/\eJ P call L a S H=aa (fl,S',H')):=by
 simp only[eJ]at h;cases hx:eJ P call L a S H with
 |none=>rw[hx]at h;cases h
 |some r=>
  obtain⟨f1,S1,H1⟩:=r;rw[hx]at h;cases f1 with
  |normal=>exact .inl ⟨S1,H1,rfl,h⟩
  |exit n=>cases h;exact .inr ⟨(λe=>by cases e),rfl⟩
  |ret=>cases h;exact .inr ⟨(λe=>by cases e),rfl⟩
def up(H:St)(n:Nat):St:={H with next:=H.next+n}
variable{P:az}{S:ia}{H H1:St}{b i:Nat}{v:av}{d:f9 Nat}{ty:aw}
def yH{t:aw}{a:a8}(h:vZ P call b i (jF d (.load t a) ty) S H=aa (v,H1)):iM P H t (ev S a)=aa v/\H1=H:=by
 simp only[vZ,jF,cY,mA,aF,aB]at h;obtain⟨x,h1,rfl,rfl⟩:=h;exact⟨h1,rfl⟩
def Cl{x:a8}(h:vZ P call b i (jF d (.move x) ty) S H=aa (v,H1)):v=ev S x/\H1=H:=by
 simp only[vZ,jF,cY,oF,gN,aF,aB,aA]at h;obtain⟨x,h1,rfl,rfl⟩:=h;exact⟨h1.symm,rfl⟩
def OD{x:a8}{k:Nat}(h:vZ P call b i (jF d (.extract x k) ty) S H=aa (v,H1)):(∃vs:Array av,ev S x= .tuple vs/\vs[k]?=aa v)/\H1=H:=by
 simp only[vZ,jF,cY,oF,gN,aF,aB]at h;obtain⟨y,h1,rfl,rfl⟩:=h;split at h1
 .rename_i v' e;cases h1;split at e
  .rename_i vs e2;exact⟨⟨vs,e2,e⟩,rfl⟩
  .cases e
 .cases h1
def aQ7{t:aw}{x:a8}(h:vZ P call b i (jF d (.call {callee:= .builtin .len,args:= #[x],argTypes:= #[t]}) ty) S H=aa (v,H1)):VD P t (ev S x)=aa v/\H1=H:=by
 simp only[vZ,jF,cY,oF,gN,qA,aF,aB]at h;obtain⟨y,h1,rfl,rfl⟩:=h;split at h1
 .rename_i v' e;cases h1;exact⟨e,rfl⟩
 .cases h1
def aQ8{t:aw}{x y:a8}(h:vZ P call b i (jF d (.indexAddr t x y) ty) S H=aa (v,H1)):kH P t (ev S x) (ev S y)=aa v/\H1=H:=by
 simp only[vZ,jF,cY,oF,gN,aF,aB]at h;obtain⟨y,h1,rfl,rfl⟩:=h;split at h1
 .rename_i v' e;cases h1;exact⟨e,rfl⟩
 .cases h1
def OE{op:BinOp}{t t2:aw}{x y:a8}(h:vZ P call b i (jF d (.binOp op t x y t2) ty) S H=aa (v,H1)):gN P (ev S) (jF d (.binOp op t x y t2) ty)=aa v/\H1=H:=by
 simp only[vZ,jF,cY,oF,aF,aB]at h;obtain⟨y,h1,rfl,rfl⟩:=h;split at h1
 .rename_i v' e;cases h1;exact⟨e,rfl⟩
 .cases h1
def Ah{t:aw}{x y:a8}(h:vZ P call b i (jF d (.store t x y) ty) S H=aa (v,H1)):jU P H t (ev S x) (ev S y)=aa H1/\v=undef:=by
 simp only[vZ,jF,cY,yL,aF,aB]at h;obtain⟨y,h1,rfl,rfl⟩:=h;exact⟨h1,rfl⟩
def SA{g:FuncId}{args:Array a8}{ts:Array aw}(h:vZ P call b i (jF d (.call {callee:= .value (.func g),args:=args,argTypes:=ts}) ty) S H=aa (v,H1)):call g (args.map (ev S)) H=aa (v,H1):=by
 simp only[vZ,jF,cY,yL,Cm,ev]at h;simpa using h
def Kw{t:aw}(h:vZ P call b i (jF d (.alloc t) ty) S H=aa (v,H1)): ∃z,v= .pointer (aa ⟨b+i,0,ae⟩)/\H1=H.put (b+i) (.cells z boxMeta):=by
 simp only[vZ,jF,cY,gK,aF,Prod.exists]at h;obtain⟨a,ob,h1,h2⟩:=h;cases h2;split at h1
 .simp only[cond_eq_ite]at h1;split at h1
  .cases h1;exact⟨_,rfl,rfl⟩
  .cases h1
 .cases h1
def Kq{t:aw}{k n:Nat}{z:au av}{x:av}{H H1:St}(hz:iN P t=aa n)(h:jU P (H.put k (.cells z boxMeta)) t (.pointer (aa ⟨k,0,ae⟩)) x=aa H1):
    x.cells.size=n/\x.cells.toList.all one=ah/\∃z',H1=(H.put k (.cells z boxMeta)).put k (.cells z' boxMeta):=by
 have e:(H.put k (.cells z boxMeta)).row k=aa (z,boxMeta):=by
  unfold St.row;rw[St.get_put,bJ rfl];rfl
 unfold jU at h;simp only[e,hz]at h;simp only[cond_eq_ite]at h;split at h
 .rename_i hc;simp only[aC,dZ,aD]at hc;exact⟨hc.1.1.2,hc.2,_,(Option.some.inj h).symm⟩
 .cases h
def ZU{w0:W0}{Y:Mp}{w:World}{k:Nat}{z z':au av}(S:Sim w0 P Y H w)(h:Y k=ae):Sim w0 P Y ((H.put k (.cells z boxMeta)).put k (.cells z' boxMeta)) w:=
 (S.put_new h (λcs m g v e e2=>by cases e;cases e2)).put_new h (λcs m g v e e2=>by cases e;cases e2)
set_option maxRecDepth 20000
def aGB{L:Nat}{S S':ia}{H H':St}{fl:Fl}(h:eJ f4 call L (.region 50 bBr aj) S H=aa (fl,S',H')):
    fl= .normal/\H'=up H 4/\∃u a n c,iM f4 H' 45 (S.at 3)=aa u/\S.at 0= .slice a n c/\S'.at 70=u/\S'.at 71= .slice a n c/\S'.at 72= .int .i64 n/\S'.at 73= .int .i64 0/\S'.at 5=S.at 5:=by
 obtain⟨rfl,g⟩:=fQ h;clear h;obtain⟨v1,H1,h1,g⟩:=dV rfl g;obtain⟨v2,H2,h2,g⟩:=dV rfl g;obtain⟨v3,H3,h3,g⟩:=dV rfl g;obtain⟨v4,H4,h4,g⟩:=dV rfl g;obtain⟨rfl,rfl⟩:=lE g;clear g;obtain⟨k1,rfl⟩:=yH h1;obtain⟨rfl,rfl⟩:=Cl h2;obtain⟨k3,rfl⟩:=aQ7 h3;obtain⟨rfl,rfl⟩:=Cl h4;clear h1 h2 h3 h4;simp only[jF,ev,at_store,Nat.reduceEqDiff,bP,bQ]at k1 k3;have e0: ∃a n c,S.at 0= .slice a n c/\v3=goInt n:=by
  unfold VD at k3;rw[Tryz.underlying30]at k3;simp only at k3;split at k3
  .rename_i a n c e;cases k3;exact⟨a,n,c,e,rfl⟩
  .cases k3
 obtain⟨a,n,c,e0,rfl⟩:=e0;refine⟨rfl,rfl,v1,a,n,c,k1,e0,?_⟩;simp only[jF,ev,at_store,Nat.reduceEqDiff,bP,bQ,e0];exact⟨trivial,trivial,rfl,trivial,trivial⟩
def aO5{x y v:av}{n m:Int}{Z:a8->av}{a b:a8}{d:f9 Nat}{t2 ty:aw}(ha:Z a= .int .i64 n)(hb:Z b= .int .i64 m)(h:gN f4 Z (jF d (.binOp .lss 3 a b t2) ty)=aa v):v= .bool (ak (n<m)):=by
 simp only[gN,jF,ha,hb]at h;have e:aa (Value.bool (ak (n<m)))=aa v:=h;exact(Option.some.inj e).symm
def aRe{v:av}{n:Int}{Z:a8->av}{a:a8}{d:f9 Nat}{t2 ty:aw}(ha:Z a= .int .i64 n)(h:gN f4 Z (jF d (.binOp .add 3 a (.const (.int .i64 1)) t2) ty)=aa v)(hc:Z (.const (.int .i64 1))= .int .i64 1):v= .int .i64 (ez.wrap (n+1)):=by
 simp only[gN,jF,ha,hc]at h;have e:aa (Value.int .i64 (ez.wrap (n+1)))=aa v:=h;exact(Option.some.inj e).symm
def aGA{L:Nat}{S S':ia}{H H':St}{fl:Fl}{n i:Int}(a3U:S.at 73= .int .i64 i)(h72:S.at 72= .int .i64 n)(h:eJ f4 call L (.region 51 bBq aj) S H=aa (fl,S',H')):
    fl= .normal/\H'=up H 1/\S'.at 74= .bool (ak (i<n))/\∀k,k≠74->S'.at k=S.at k:=by
 obtain⟨rfl,g⟩:=fQ h;clear h;obtain⟨v1,H1,h1,g⟩:=dV rfl g;obtain⟨rfl,rfl⟩:=lE g;clear g;obtain⟨k1,rfl⟩:=OE h1;refine⟨rfl,rfl,?_,λk hk=>?_⟩
 .rw[aO5 (x:=v1) (y:=v1) (n:=i) (m:=n) a3U h72 k1];simp only[jF,at_store,bQ]
 .simp only[jF,at_store];rw[bI hk]
def aGv{L:Nat}{S S':ia}{H H':St}{fl:Fl}{i:Int}(a3U:S.at 73= .int .i64 i)(h:eJ f4 call L (.region 55 aGw aj) S H=aa (fl,S',H')):
    fl= .normal/\H'=up H 2/\S'.at 73= .int .i64 (ez.wrap (i+1))/\∀k,k≠84->k≠73->S'.at k=S.at k:=by
 obtain⟨rfl,g⟩:=fQ h;clear h;obtain⟨v1,H1,h1,g⟩:=dV rfl g;obtain⟨v2,H2,h2,g⟩:=dV rfl g;obtain⟨rfl,rfl⟩:=lE g;clear g;obtain⟨k1,rfl⟩:=OE h1;obtain⟨rfl,rfl⟩:=Cl h2;have e:=aRe (n:=i) a3U k1 rfl;refine⟨rfl,rfl,?_,λk hk hk2=>?_⟩
 .simp only[jF,at_store,ev,bQ];exact e
 .simp only[jF,at_store,ev];rw[bI hk2,bI hk]
def RH{H:St}{p v:av}(h:iM f4 H 45 p=aa v): ∃l:au av,v= .agg l.toArray/\l.length=11:=by
 unfold iM at h;split at h
 .rename_i id off;have e1:mB f4 45=aa ah:=by kernel_rfl
  have e2:iN f4 45=aa 11:=by kernel_rfl
  rw[e1,e2]at h;split at h
  .rename_i cs m e;simp only[aF]at h;obtain⟨l,hl,rfl⟩:=h;refine⟨l,rfl,?_⟩;unfold cut at hl;simp only[cond_eq_ite]at hl;split at hl
   .rename_i hh;cases hl;exact aE hh
   .cases hl
  .cases h
 .cases h
def aGz{L:Nat}{S S':ia}{H H':St}{fl:Fl}{i:Int}{a:f9 Addr}{n c:Nat}(h71:S.at 71= .slice a n c)(a3U:S.at 73= .int .i64 i)(h:eJ f4 call L (.region 52 bBp aj) S H=aa (fl,S',H')):
    fl= .normal/\0<=i/\i<n/\∃(id off:Nat) (l z z':au av),a=aa ⟨id,off,ae⟩/\iM f4 (up H 4) 45 (.pointer (aa ⟨id,off+i.toNat*11,ae⟩))=aa (.agg l.toArray)/\l.length=11/\l.all one=ah/\
      S'.at 76= .agg l.toArray/\(∀k,k<75->S'.at k=S.at k)/\H'=((up H 4).put (H.next+2) (.cells z boxMeta)).put (H.next+2) (.cells z' boxMeta):=by
 obtain⟨rfl,g⟩:=fQ h;clear h;obtain⟨v1,H1,h1,g⟩:=dV rfl g;obtain⟨v2,H2,h2,g⟩:=dV rfl g;obtain⟨v3,H3,h3,g⟩:=dV rfl g;obtain⟨v4,H4,h4,g⟩:=dV rfl g;obtain⟨rfl,rfl⟩:=lE g;clear g;obtain⟨k1,rfl⟩:=aQ8 h1;obtain⟨k2,rfl⟩:=yH h2;obtain⟨z,rfl,rfl⟩:=Kw h3;obtain⟨k4,rfl⟩:=Ah h4;clear h1 h2 h3 h4;simp only[jF,ev,at_store,gV,Nat.reduceEqDiff,bP,bQ,ir,Nat.reduceAdd]at k1 k2 k4;rw[h71,a3U]at k1;have e1:0<=i/\i<n/\∃id off,a=aa ⟨id,off,ae⟩/\v1= .pointer (aa ⟨id,off+i.toNat*11,ae⟩):=by
  unfold kH at k1;rw[Tryz.underlying30]at k1;have e2:iN f4 45=aa 11:=by kernel_rfl
  simp only[e2]at k1;split at k1
  .rename_i id off len c' e;cases e;simp only[cond_eq_ite]at k1;split at k1
   .rename_i hr;cases k1;simp only[dJ,aC,aD]at hr;exact⟨hr.1,hr.2,id,off,rfl,rfl⟩
   .cases k1
  .cases k1
 obtain⟨b1,b2,id,off,rfl,rfl⟩:=e1;obtain⟨l,rfl,hl⟩:=RH k2;obtain⟨s1,s2,z',s3⟩:=Kq (n:=11) (by kernel_rfl) k4
 refine⟨rfl,b1,b2,id,off,l,z,z',rfl,k2,hl,by simpa [Value.cells]using s2,?_,λk hk=>?_,s3⟩
 .simp only[jF,at_store,gV,Nat.reduceEqDiff,bP,bQ]
 .simp only[jF,at_store,gV];rw[bI (by omega),bI (by omega),bI (by omega)]
def aGy{L:Nat}{S S':ia}{H H':St}{fl:Fl}(h:eJ f4 call L (.region 53 bBo aj) S H=aa (fl,S',H')):
    fl= .normal/\∃(vs:Array av) (H2:St) (s l bb:av) (z z':au av),call 118 #[S.at 76,S.at 70] (up H 6)=aa (.tuple vs,H2)/\vs[0]?=aa s/\vs[1]?=aa l/\vs[2]?=aa bb/\l.cells.size=11/\l.cells.toList.all one=ah/\
      S'.at 78=s/\S'.at 79=l/\S'.at 80=bb/\(∀k,k<77->S'.at k=S.at k)/\H'=(H2.put (H.next+4) (.cells z boxMeta)).put (H.next+4) (.cells z' boxMeta):=by
 obtain⟨rfl,g⟩:=fQ h;clear h;obtain⟨v1,H1,h1,g⟩:=dV rfl g;obtain⟨v2,H2,h2,g⟩:=dV rfl g;obtain⟨v3,H3,h3,g⟩:=dV rfl g;obtain⟨v4,H4,h4,g⟩:=dV rfl g;obtain⟨v5,H5,h5,g⟩:=dV rfl g;obtain⟨v6,H6,h6,g⟩:=dV rfl g;obtain⟨rfl,rfl⟩:=lE g;clear g;have k1:=SA h1;obtain⟨⟨vs,k2,k2'⟩,rfl⟩:=OD h2;obtain⟨⟨vs3,k3,k3'⟩,rfl⟩:=OD h3;obtain⟨⟨vs4,k4,k4'⟩,rfl⟩:=OD h4;obtain⟨z,rfl,rfl⟩:=Kw h5;obtain⟨k6,rfl⟩:=Ah h6;clear h1 h2 h3 h4 h5 h6;simp only[jF,ev,at_store,gV,Nat.reduceEqDiff,bP,bQ,ir,Nat.reduceAdd]at k2 k3 k4 k6;subst k2;cases k3;cases k4;obtain⟨s1,s2,z',s3⟩:=Kq (n:=11) (by kernel_rfl) k6
 refine⟨rfl,vs,_,v2,v3,v4,z,z',(by simp only[List.map_toArray,aO,List.map_nil,ev]at k1;exact k1),k2',k3',k4',s1,s2,?_,?_,?_,λk hk=>?_,s3⟩
 .simp only[jF,at_store,gV,Nat.reduceEqDiff,bP,bQ]
 .simp only[jF,at_store,gV,Nat.reduceEqDiff,bP,bQ]
 .simp only[jF,at_store,gV,Nat.reduceEqDiff,bP,bQ]
 .simp only[jF,at_store,gV];rw[bI (by omega),bI (by omega),bI (by omega),bI (by omega),bI (by omega)]
noncomputable def a5q(x y:av):f9 av:=gN f4 (λo=>match o with| .tmp 0=>x|_=>y) (jF ae (.binOp .and 74 (.tmp 0) (.tmp 1) 74) 74)
def VB{t:aw}(h:vZ P call b i (jF d (.alloc t) ty) S H=aa (v,H1)): ∃z,v= .pointer (aa ⟨b+i,0,ae⟩)/\H1=H.put (b+i) (.cells z boxMeta)/\∀(Z:a8->av) (o:ic),o.op= .alloc t->gK P Z o (b+i)=aa (v,.cells z boxMeta):=by
 simp only[vZ,jF,cY,gK,aF,Prod.exists]at h;obtain⟨a,ob,h1,h2⟩:=h;cases h2;split at h1
 .rename_i zv hz;simp only[cond_eq_ite]at h1;split at h1
  .rename_i hh;cases h1;refine⟨_,rfl,rfl,λZ o ho=>?_⟩
   unfold gK;rw[ho];simp only[hz,cond_eq_ite];rw[bJ hh]
  .cases h1
 .cases h1
def aDI{t:aw}{ps:Array (Nat×a8)}(h:vZ P call b i (jF d (.build t ps) ty) S H=aa (v,H1)):Be P t (ps.map λ(i,x)=>(i,ev S x))=aa v/\H1=H:=by
 simp only[vZ,jF,cY,oF,gN,aF,aB]at h;obtain⟨y,h1,rfl,rfl⟩:=h;split at h1
 .rename_i v' e;cases h1;exact⟨e,rfl⟩
 .cases h1
def a5p{t:aw}{x:a8}{f:Nat}(h:vZ P call b i (jF d (.fieldAddr t x f) ty) S H=aa (v,H1)):gZ P t (ev S x) f=aa v/\H1=H:=by
 simp only[vZ,jF,cY,oF,gN,aF,aB]at h;obtain⟨y,h1,rfl,rfl⟩:=h;split at h1
 .rename_i v' e;cases h1;exact⟨e,rfl⟩
 .cases h1
structure bOS(b:Nat)(H2 H':St)(s l g vo:av)(fv:av)(z:List av)(H4:St)(x s2 y:av):Prop where
 bld:Be f4 143 #[(0,s),(1,l),(2,g)]=aa fv
 al: ∀(Z:a8->av) (o:ic),o.op= .alloc 143->gK f4 Z o b=aa (.pointer (aa ⟨b,0,ae⟩),.cells z boxMeta)
 st:jU f4 (H2.put b (.cells z boxMeta)) 143 (.pointer (aa ⟨b,0,ae⟩)) fv=aa H4
 ld:iM f4 H4 74 vo=aa x
 ls:iM f4 H4 74 (.pointer (aa ⟨b,0,ae⟩))=aa s2
 an:a5q x s2=aa y
 so:jU f4 H4 74 vo y=aa H'
def fa0{b:Nat}{v:av}(h:gZ f4 143 (.pointer (aa ⟨b,0,ae⟩)) 0=aa v):v= .pointer (aa ⟨b,0,ae⟩):=by
 have e:gZ f4 143 (.pointer (aa ⟨b,0,ae⟩)) 0=aa (.pointer (aa ⟨b,0,ae⟩)):=by
  unfold gZ;rw[Tryz.underlying143];have e2:iN f4 74=aa 1:=by kernel_rfl
  simp[e2];rfl
 rw[e]at h;exact(Option.some.inj h).symm
def aGx{L:Nat}{S S':ia}{H H':St}{fl:Fl}(h:eJ f4 call L (.region 54 a1m aj) S H=aa (fl,S',H')):
    fl= .normal/\∃(g:av) (H2:St) (fv:av) (z:au av) (H4:St) (x s2 y:av),call 35 #[S.at 76] (up H 9)=aa (g,H2)/\
      bOS (H.next+2) H2 H' (S.at 78) (S.at 79) g (S.at 5) fv z H4 x s2 y/\(∀k,k<81->S'.at k=S.at k):=by
 obtain⟨rfl,g⟩:=fQ h;clear h;obtain⟨v1,H1,h1,g⟩:=dV rfl g;obtain⟨v2,H2,h2,g⟩:=dV rfl g;obtain⟨v3,H3,h3,g⟩:=dV rfl g;obtain⟨v4,H4,h4,g⟩:=dV rfl g;obtain⟨v5,H5,h5,g⟩:=dV rfl g;obtain⟨v6,H6,h6,g⟩:=dV rfl g;obtain⟨v7,H7,h7,g⟩:=dV rfl g;obtain⟨v8,H8,h8,g⟩:=dV rfl g;obtain⟨v9,H9,h9,g⟩:=dV rfl g;obtain⟨rfl,rfl⟩:=lE g;clear g;have k1:=SA h1;obtain⟨k2,rfl⟩:=aDI h2;obtain⟨z,rfl,rfl,k3⟩:=VB h3;obtain⟨k4,rfl⟩:=Ah h4;obtain⟨k5,rfl⟩:=yH h5;obtain⟨k6,rfl⟩:=a5p h6;obtain⟨k7,rfl⟩:=yH h7;obtain⟨k8,rfl⟩:=OE h8;obtain⟨k9,rfl⟩:=Ah h9;clear h1 h2 h3 h4 h5 h6 h7 h8 h9;simp only[jF,ev,at_store,gV,Nat.reduceEqDiff,bP,bQ,ir,Nat.reduceAdd,List.map_toArray,aO,List.map_nil]at k2 k3 k4 k5 k6 k7 k9;have e6:=fa0 k6;subst e6;refine⟨rfl,v1,_,v2,z,_,v5,v7,v8,(by simp only[List.map_toArray,aO,List.map_nil,ev]at k1;exact k1),⟨k2,k3,k4,k5,k7,?_,k9⟩,λk hk=>?_⟩
 .simp only[gN,jF,ev,at_store,gV,Nat.reduceEqDiff,bP,bQ]at k8;exact k8
 .simp only[jF,at_store,gV];rw[bI (by omega),bI (by omega),bI (by omega),bI (by omega),bI (by omega),bI (by omega),bI (by omega)]
def aQM{L:Nat}{S S':ia}{H H':St}{fl:Fl}(h:eJ f4 call L a6I S H=aa (fl,S',H')):fl= .ret/\H'=up H 2/\∃x,iM f4 H' 74 (S.at 5)=aa x/\S'.at 4=x:=by
 unfold a6I at h;rcases kL h with⟨S1,H1,e1,e2⟩|⟨bi,e1⟩
 rotate_left
 .exact absurd (fQ e1).1 bi
 simp only[eJ,aA,aB]at e2;obtain⟨rfl,rfl,rfl⟩:=e2;obtain⟨-,g⟩:=fQ e1;obtain⟨v1,H2,h1,g⟩:=dV rfl g;obtain⟨v2,H3,h2,g⟩:=dV rfl g;obtain⟨rfl,rfl⟩:=lE g;obtain⟨k1,rfl⟩:=yH h1;obtain⟨rfl,rfl⟩:=Cl h2;refine⟨rfl,rfl,v1,k1,?_⟩;simp only[jF,ev,at_store,bQ]
end
end
end Go.Rf
namespace Go.TV
open Go.AI Go.PI Go.Proofs
set_option maxRecDepth 20000
noncomputable section
def nT:au Ty:=[i6,.bool,(.rc 2),.str,(.rc 3),(.sl i6),(zS 3),(zS 2),(.rc 1),(zS 15),(.rc 20),(.rc 0),(zS 17),(.rc 21),(zS 1),(.sl (.int .u8)),(zS 9),(.rc 23),(.rc 22),(.rc 4),(.int .u8),(.sl .str),(.rc 15),(.rc 6),(zS 5),(.int .u32),(zS 4),(.rc 5),(zS 16),(.rc 18),(zS 24),(.int .u64),(.sl (zS 4)),(zS 21)]
def nz:Nat->Nat->au Nat
 |0,_=>[]
 |f+1,n=>bif Nat.blt (n%16) 14 then(n%16)::nz f (n/16)else bif ao (n%16) 14 then(n/16%256+14)::nz f (n/4096)else(n/16%4096+270)::nz f (n/65536)
def nA{N:Type}(d:N):au N->Nat->N
 |[],_=>d
 |x::_,0=>x
 |_::l,k+1=>nA d l k
abbrev nP(N:Type):=au Nat->N×au Nat
def nK:nP Nat
 |[]=>(0,[])
 |x::l=>(x,l)
def nB:nP Bool:=λl=>match nK l with|(k,l)=>(ao k 1,l)
def nR{N:Type}(p:nP N):Nat->nP (au N)
 |0,l=>([],l)
 |k+1,l=>match p l with|(x,l)=>match nR p k l with|(r,l)=>(x::r,l)
def nL{N:Type}(p:nP N):nP (au N):=λl=>match nK l with|(k,l)=>nR p k l
def nM{N W:Type}(f:N->W)(p:nP N):nP W:=λl=>match p l with|(x,l)=>(f x,l)
def nQ{N W:Type}(p:nP N)(q:nP W):nP (N×W):=λl=>match p l with|(x,l)=>match q l with|(y,l)=>((x,y),l)
def nY:nP Ty:=nM (nA .bool nT) nK
def nS:nP Sh:=λl=>match l with
 |0::l=>nM (λx=> .lc x.1 x.2.1 x.2.2) (nQ nK (nQ nK (nL nK))) l
 |1::l=>nM (λk=> .lc k 0 []) nK l
 |2::l=>nM (λx=> .cl x.1 x.2) (nQ nK (nL nK)) l
 |3::l=>nM .rw nK l
 |4::l=>nM .row nY l
 |5::l=>(.nl,l)
 |6::l=>(.nf,l)
 |7::l=>nM .ep nY l
 |8::l=>nM .tup (nL nY) l
 |9::l=>(.no,l)
 |k::l=>(.val (nA .bool nT (k-10)),l)
 |[]=>(.no,[])
def nW:nP kA:=λl=>match l with
 |0::l=>([],l)
 |1::l=>([(0,ah)],l)
 |_::l=>nL (nQ nK nB) l
 |[]=>([],[])
def nV:nP Cut:=nM (λx=>⟨x.1,x.2⟩) (nQ (nL (nQ nK (nQ nS nW))) (nL (nQ nK (nQ nS nW))))
def nC(f n:Nat):Cut:=(nV (nz f n)).1
def nG(cs:au Cut):Nat->nP aKP
 |0,l=>(.n,l)
 |f+1,l=>match l with
  |0::l=>(.n,l)
  |1::l=>nM (λx=> .r x.1 x.2.1 x.2.2) (nQ (nL nK) (nQ (nL (nQ nK nK)) (nL (nQ nK (nQ nK (nL nK)))))) l
  |2::l=>nM (λx=> .s x.1 x.2) (nQ (nG cs f) (nG cs f)) l
  |3::l=>nM (λx=> .c x.1 x.2) (nQ (nG cs f) (nG cs f)) l
  |4::l=>nM .b (nG cs f) l
  |5::l=>nM (λx=> .l (nA ⟨[],[]⟩ cs x.1) x.2) (nQ nK (nG cs f)) l
  |6::l=>nM .o (nG cs f) l
  |7::l=>nM (λx=> .d (nA ⟨[],[]⟩ cs x.1) x.2) (nQ nK (nG cs f)) l
  |8::l=>nM (λx=> .i x.1 x.2) (nQ (nL nK) (nG cs f)) l
  |9::l=>nM (.s .n) (nG cs f) l
  |10::l=>nM (.r [] []) (nL (nQ nK (nQ nK (nL nK)))) l
  |12::l=>nM (λx=> .l x.1 x.2) (nQ nV (nG cs f)) l
  |13::l=>nM (λx=> .d x.1 x.2) (nQ nV (nG cs f)) l
  |_::l=>nM (λx=> .r x.1 [] x.2) (nQ (nL nK) (nL (nQ nK (nQ nK (nL nK))))) l
  |[]=>(.n,[])
def nI(cs:au Cut)(f n:Nat):cS:=match nQ (nQ nK (nQ (nL (nQ nS nB)) (nQ (nL (nQ nS nW)) (nQ (nL nW) (nQ (nL nY) nB))))) (nG cs 300) (nz f n)with|(x,_)=>⟨⟨x.1.1,x.1.2.1,x.1.2.2.1,x.1.2.2.2.1,x.1.2.2.2.2.1,x.1.2.2.2.2.2⟩,x.2⟩
def aIu:Cut:=nC 11 0xbe100be00b0be3
def aIt:Cut:=nC 21 0x7e73e1102e7108e8105e5073e160b23e5
def Kh:Cut:=nC 17 0xac102eb102e7108e8105e55
def aIs:Cut:=nC 20 0x102eb102e7108e8105e50ac0b31e6
def aIr:Cut:=nC 20 0x102eb102e7108e8105e50ac0b53e6
def ii0:cS:=⟨⟨3,[(.val (.sl (.int .u8)),aj),(.val (.sl (.int .u8)),aj)],[],[],[.bool],aj⟩,(.s .n (.s (.s (.r [] [] [(0,(1,[]))]) .n) (.s (.s .n (.d aIu .n)) (.s (.r [1] [] [(0,(2,[]))]) (.s .n (.s (.r [2,3] [] [(2,(3,[129]))]) (.s (.r [4] [] [(3,(4,[135]))]) (.s (.s (.r [3] [] [(3,(5,[]))]) (.s .n (.d aIt .n))) (.s (.s (.r [1] [] [(1,(6,[]))]) .n) (.s (.r [3,4] [] [(3,(7,[129]))]) (.s (.s .n (.b (.l Kh (.s (.s .n (.d aIs .n)) (.s (.b (.s (.r [6] [] [(6,(8,[]))]) (.s (.r [5] [] [(5,(9,[]))]) (.s .n (.d aIr .n))))) .n))))) .n)))))))))))⟩
def bE2:Cut:=nC 5 0xb01
def bOp:cS:=⟨⟨4,[],[],[],[.bool],aj⟩,(.s .n (.s (.r [] [] [(1,(10,[])),(0,(10,[]))]) (.s (.r [2,6,7,13,18,19] [] [(24,(9,[])),(19,(9,[])),(18,(11,[])),(13,(11,[])),(7,(9,[])),(6,(11,[])),(2,(11,[]))]) (.d bE2 .n))))⟩
def Si:Cut:=nC 14 0x105e3015e00a511ce44
def Kg:Cut:=nC 14 0x105e30a7118e6015e04
def aIq:Cut:=nC 14 0x105e3118e6015e00a74
def Uz:cS:=nI [Si,Kg,aIq] 92 0x102b20270402b00d00d1b22001e51a2942915492000e0111b20001e02b429054920d0111b20c0111b2001b219100015e15
def Ke:Cut:=nC 24 0x7e01102e90ab00100a3005e10aa6
def aIp:Cut:=nC 31 0xe62e007e0200100a3005e10aa0ab062e1c102e97
def aD5:cS:=nI [Ke,aIp] 127 0x102b200402b170007e00104e20b4341b390104e10105e3006e40b6461b390104e10b3231b3940102e11a220103e3131b2429054920102e31a2001b2001b216101007e10a0a005e00146
def Sg:Cut:=nC 21 0x7e01108e30a80010111e60a75
def aPs:cS:=nI [Sg] 53 0x102b20001e20105e42802b9429905492001b2001b21c101007e100117
def Kc:Cut:=nC 17 0xb80a9008e2002e1005e05
def aIo:Cut:=nC 17 0xb8008e2002e1005e00a95
def aHp:cS:=nI [Kc,aIo] 37 0x170086161b24290549299011200008e002e005e38
def Sf:Cut:=nC 14 0xa7002e0002e50a64
def aPr:cS:=nI [Sf] 31 0x94141b29429905492901100002e19
def bKz:cS:=nI [] 86 0x102b20109e40103e70ba0bd0b02e0b04e007e06e0b08e80be08e04e02eda7640ab20104e11a2008e112103b2001b216101007e1002e005e0013a
def bKt:cS:=nI [] 35 0xbe100ce22a200ae313203b29011200008e000e005e3b
def aIn:Cut:=nC 12 0xe59e1059e13002e02
def aIm:Cut:=nC 15 0xe59e1059e13002e00b37e3
def aIl:Cut:=nC 12 0xe59e1059e13002e02
def aIk:Cut:=nC 15 0xe59e1059e13002e00b40e3
def aIj:Cut:=nC 12 0xe59e1059e13002e02
def RO:cS:=nI [aIn,aIm,aIl,aIk,aIj] 158 0x15e21202b247000015e5151b239014e21a23379227001790013e21a220011e2010e3231b203010e2121b2012e21a229300fe11a220011e2010e3231b220010e2121b220700095151b2300fe11a220000de200ee42a2392900100000e002e2c
def bKU:cS:=nI [] 20 0x1e1016e22a29041000d1d
def bKT:cS:=nI [] 22 0x17e21212b2904100102e0d200e
def Gx:Cut:=nC 11 0x105e10a3003e23
def L7:cS:=nI [Gx] 57 0x1ae101be22702b20019e6196104b42905492018e0111b2001b2001b219100001e
def bKS:cS:=nI [] 302 0xb501de60bc0b01e0b03e01de04e0b0ae0b0ee0b10e0b14e01ee16e0b18e01fe19e0b1be01de1ce0b22e01ee25e01ee28e0b2ae01fe2be0b2de01de2ee0b34e01ee37e01ee3ae0b3ce007e3de0b3fe01de40e0b46e01ee4ae0b4ce01fe4de0b4fe01de50e0b55e01ee58e01fe59e0b5be01de5ce01de61e0b67e0b6be01ee6ee01ee70e0b74e0b78e020e79e0b7ce0b7fe021e81e0b83e01ee85e0b87e01fe89e0b8be0b8de01de8ee01fe94e01ee96e01fe99e01ee9be0b9de01de9ee32ea1e9ee9de9be96e8ee8de8be87e85e83e7fe7ce78e74e70e6ee6be67e61e5ce5be58e55e50e4fe4ce4ae46e40e3fe3ce3ae37e34e2ee2de2ae28e25e22e1ce1be18e16e14e10e0ee0ae04e03e01ec6529eb201ce21a20b2121b20b20b52522b20a00a10a23a2001b2112e100002e
def bKR:cS:=nI [] 340 0xb30b50b80bd0b01e0b04e0b08e01fe0ae0b0ce0b0fe0b11e0b16e0b1be0b1de0b1fe0b24e0b28e0b2ae0b30e0b32e0b37e0b39e0b3be0b3fe0b42e0b45e0b47e0b49e0b4de0b4fe0b53e007e54e0b56e0b58e0b5ce0b5fe0b61e0b65e0b68e0b6ae0b6ee0b71e0b74e0b76e0b79e0b7be0b7fe0b81e023e84e024e8ae0b8de0b90e0b92e0b94e0b99e024e9ce0ba0e0ba3e0ba6e0ba8e0bace0baee0bb1e0bb3e0bb6e0bb8e0bbae0bbfe0bc3e021ec4e0bc8e0bcae007ecce01eecfe0bd1e3ded4ed1ecfecaec8ec3ebfebaeb8eb6eb3eb1eaeeacea8ea6ea3ea0e9ce99e94e92e90e8de8ae81e7fe7be79e76e74e71e6ee6ae68e65e61e5fe5ce58e56e53e4fe4de49e47e45e42e3fe3be39e37e32e30e2ae28e24e1fe1de1be16e11e0fe0ce08e04e01ed85339eb2001e01a2022e21a20a00a10a20a34a2001b210ee100003e
def bKQ:cS:=nI [] 10 0x81000d104e
def Vq:Cut:=nC 15 0x7e010a100100b04e3
def RQ:cS:=nI [Vq] 22 0x792900101007e10a001206e
def Vp:Cut:=nC 40 0x1a192200e5ce000e5de007e0305ce1605de170a2005e100100ad0b00e7
def RP:cS:=nI [Vp] 133 0x104e10109e60b80ba4a8634b23900109e50b727523b23900104e10b30b53532b23900109e50b70b9397524b23900b2121b2307940102e11a220109e3131b2904101007e10a005e001307e
def a3Q:cS:=nI [] 25 0x102e10a42a2904101007e1001108e
def Vo:Cut:=nC 28 0x1612c5ae007e0205ae140a100100a50b03e5
def Vn:Cut:=nC 25 0x1612c5ae007e0205ae140a100100a54
def Vm:Cut:=nC 28 0x1612c5ae007e0205ae140a100100a06e0b0de5
def Vl:Cut:=nC 25 0x1612c5ae007e0205ae140a100100b2ee4
def Gw:Cut:=nC 31 0x1612c5ae007e0205ae14103e60a80a100100a76
def uV:cS:=nI [Vo,Vn,Vm,Vl,Gw] 194 0x105e402ae52a20105e31a20002be11102b200105e41702b429454920102e11a2001b233790026e01a2390026e01a23900102e1029e32a23900102e1001e4028e53a2390027e01a2390027e01a23900102e1026e32a232790025e01a239000be01a23949217007920102e11a2902101007e10a00120ae
def bKP:cS:=nI [] 10 0x41000c109e
def a3P:cS:=nI [] 20 0x26e1006e22a29041000a10be
def Gv:Cut:=nC 11 0x102e30a4002e03
def L6:cS:=nI [Gv] 44 0x102b2002ce516503b42905492001b2001b216100002e10ce
def Vk:Cut:=nC 33 0x1a192200e5ce007e0205ce160a2005e100100a70b08e6
def Vj:Cut:=nC 30 0x1a192200e5ce007e0205ce160a2005e100100a75
def Vi:Cut:=nC 34 0x1a192200e5ce004e5ee007e0305ce1605ee180a2005e100105
def Gu:Cut:=nC 43 0x1a192200e5ce004e5ee007e0305ce16102ed05ee180a00e0a2005e100100ab8
def Ao:cS:=nI [Vk,Vj,Vi,Gu] 142 0x24e21212b200109e518503b42935492001b2030e2121b2270102e4001e72a0102e402fe72a30102e11a202de002ee12322b229000105e1006e22a23900104e11a2394217007920102e11a2904101007e10a005e00130de
def a3O:cS:=nI [] 31 0x69e131e31322b299900023000a008e000e005e40ee
def a3N:cS:=nI [] 18 0x1ae0028e12a2902100010e
def Vh:Cut:=nC 19 0xc59e0c58e2059e13058e120b21e3
def Gt:Cut:=nC 19 0xc59e0c58e20a5059e13058e123
def DY:cS:=nI [Vh,Gt] 34 0xcea1a242915492007929011000c0c20fe
def Vg:Cut:=nC 5 0xb21
def Uy:cS:=nI [Vg] 14 0x799011000c112e
def a3M:cS:=nI [] 10 0x1000b111e
def Vf:Cut:=nC 5 0xb61
def Ux:cS:=nI [Vf] 18 0x799011000a0d000e313e
def Gs:Cut:=nC 18 0xe59e10a9059e13002e70a84
def L5:cS:=nI [Gs] 31 0x13e21a29429905492901100000e002e214e
def a3L:cS:=nI [] 27 0x33e2121b20032e11a22904100000e115e
def a3K:cS:=nI [] 21 0x33e3131b2904100000e000e216e
def Ve:Cut:=nC 5 0xb41
def Uw:cS:=nI [Ve] 26 0x7034e03e035e0ae20ae1b2901100000e000e217e
def a3J:cS:=nI [] 19 0x36e11a299010200004e118e
def Vd:Cut:=nC 19 0xa5be000e59e205be15002e0059e133
def Vc:Cut:=nC 22 0xa5be000e59e205be15002e0059e130b04e4
def CV:Cut:=nC 21 0xa5be105be150a3be000e38e002e39e0a3ae5
def Vb:Cut:=nC 25 0xa5be000e59e205be15002e0059e130a60b1de5
def Va:Cut:=nC 21 0xa5be105be15000e38e002e39e0a3ae0a3be5
def Gr:Cut:=nC 33 0xa5be000e59e00483e305be15002e0059e13083e380a22e0a21e6
def qW:cS:=nI [Vc,Vb,Gr,Vd,CV,Va] 93 0x570011e01a32039e01a299945492370003ae312be313221025492021b23179038e21a230700fe81a2037e21a39429900100000e002e219e
def bKO:cS:=nI [] 10 0x4100004e11ae
def bKN:cS:=nI [] 25 0x1ae1024e32322b2904100102e0d21be
def a3I:cS:=nI [] 36 0x102b203be003ce103de2374324b2001b20710001ce
def a4N:Cut:=nC 64 0x10fe10ee10de10ce109e108e107e106e105e104e1714c212e5ae116e115e10be10ae12520fe5de205ae1405de17005e0003e50aa003e86
def a4M:Cut:=nC 57 0x10fe10ee10de10ce109e108e107e106e105e104e1714c212e5ae116e115e12320fe5de205ae1405de17116eb005e0003e55
def a4L:Cut:=nC 44 0x10fe10ee10de10ce109e108e107e106e105e104e1714c212e5ae12120fe5de205ae1405de172
def bKM:cS:=nI [a4N,a4M,a4L] 113 0x27003fe313103b39040e11102b2217003fe3131b39040e1111b2203fe8181b2021b20011b4290549203ee317543b2025e4006e52a203ee115323b29008e1000c005e21de
def a3H:cS:=nI [] 10 0x81000d11ee
def a4K:Cut:=nC 11 0x10ae10a3003e23
def a4J:Cut:=nC 11 0x10ae10a7111e63
def bKL:cS:=nI [a4K,a4J] 81 0x102b2001ae51802b42915492011b200702b03ee418653b242905492018e0111b2041e0111b2001b2100e10001fe
def bKK:cS:=nI [] 41 0x1fe2020e30b5020e701fe80ba0bc7ca53b2904100000e000e220e
def a4I:Cut:=nC 40 0x116e115e10be10ae100e1d12720fe5ee12120fe5fe205ee1805fe190aa111e14
def bKJ:cS:=nI [a4I] 42 0x1e6111b42905492001e1020e22a29005e100000e000e111e0d421e
def bKI:cS:=nI [] 25 0x1e1024e32322b2904100102e0d222e
def bKH:cS:=nI [] 18 0xbe0006e12a2904100023e
def bKG:cS:=nI [] 18 0x25e0006e12a2904100024e
def bKF:cS:=nI [] 24 0x1fe20b4241b2904100000e000e225e
def bKE:cS:=nI [] 21 0xb3131b2904100000e000e226e
def bKD:cS:=nI [] 92 0x17e2024e7042ea042eb042ec5722b2042e2024e7017e93972b2024e5017e72752b2024e4024e92942b201ae0016e101ae2016e301ae4016e56a2904100004e127e
def bKC:cS:=nI [] 12 0x4100102e004e228e
def a3G:cS:=nI [] 18 0x1ae0028e12a290210002ee
def a3F:cS:=nI [] 20 0x43e1027e22a29021000a137e
def a3E:cS:=nI [] 19 0x44e21a29021000d0d238e
def a3D:cS:=nI [] 10 0x2100004e139e
def a3C:cS:=nI [] 10 0x21000d13ae
def a3B:cS:=nI [] 12 0x21000c0c23ce
def a4H:Cut:=nC 25 0x1612c58e0c59e2058e12059e130a4003e04
def bKB:cS:=nI [a4H] 31 0x2ae51a4290549200be01a2902100003e13be
def CU:Cut:=nC 18 0xe59e1102e0059e130b50a64
def U9:Cut:=nC 21 0xe59e1102e0059e130b50a60b01e5
def U8:Cut:=nC 12 0xe59e1102e0059e132
def Gq:Cut:=nC 15 0xe59e1102e00a7059e133
def U7:Cut:=nC 5 0x102e01
def tI:cS:=nI [CU,U9,U8,Gq,U7] 76 0x102b2470002ce617603b42935493922700402b3920045e51a4201792054929011b216100000e102e23de
def a3A:cS:=nI [] 18 0x11b2001b2107e10003ee
def a3z:cS:=nI [] 18 0x11b2001b2107e10003fe
def bKA:cS:=nI [] 10 0x81000d140e
def a3y:cS:=nI [] 30 0x47e21202b29046e11a29010200004e005e241e
def U6:Cut:=nC 42 0x1612c5ce00fe64e000e5ae019e0405ce16064e100e001005ae140bd008e20b51e7
def Gp:Cut:=nC 45 0x1612c5ce00fe64e000e5ae019e0405ce16103e04e064e100e001005ae140bd0a05e008e28
def DX:cS:=nI [U6,Gp] 174 0x4ce60131e727653b20004be31322b239200402b90131e7171b242915492001b2000131e61652b2000131e61652b2304ae11a2290131e6161b23049e11a2200792047e6161b2046e21a299030e6161b29900048e31302b2394929002201019e1008e000e001342e
def U5:Cut:=nC 5 0xb61
def Uv:cS:=nI [U5] 18 0x799011000a0d000e343e
def a3x:cS:=nI [] 22 0x4de31322b2904100102e0d244e
def CT:Cut:=nC 16 0xc59e0c58e2059e13058e122
def U4:Cut:=nC 19 0xc59e0c58e2059e13058e120b22e3
def Gn:Cut:=nC 25 0xc59e0c58e2059e13058e120a50a2ae0a29e5
def A9:cS:=nI [CT,U4,Gn] 42 0x34ea1a29429925492990179240549011000c0c245e
def Gm:Cut:=nC 19 0xa03e0017e22002e1002e01e0a02e5
def L4:cS:=nI [Gm] 37 0x13e31a29942990549299011000017e2002e002e346e
def a3w:cS:=nI [] 11 0x10200004e147e
def U3:Cut:=nC 12 0xc57e10b3057e112
def CS:Cut:=nC 9 0xc57e1057e111
def U2:Cut:=nC 15 0xc57e10b3057e110b08e3
def U1:Cut:=nC 12 0xc57e1057e110b2be2
def vY:cS:=nI [U3,U2,CS,U1] 66 0xde11a220037922542390390000de11a242390017903942079394929001000c148e
def UZ:Cut:=nC 8 0xd80bb2
def UY:Cut:=nC 5 0xb06e1
def IL:cS:=nI [UZ,UY] 28 0x1790307903949299010200004e149e
def a3v:cS:=nI [] 70 0x4fe51a20013e51a22000fe11a220004ee21a23904fe21a220004ee11a23013e21a2290140300000e000e268e
def a4G:Cut:=nC 18 0x4e58e1001e1058e120a50b64
def a4F:Cut:=nC 18 0x4e58e1001e1058e120a50b08e4
def bKy:cS:=nI [a4G,a4F] 50 0x6ee151e414323b2021b201792070050e11a22038e11a2900100001e004e24ae
def a3u:cS:=nI [] 18 0x21b2001b210ae10004de
def a3t:cS:=nI [] 8 0x310004ee
def CR:Cut:=nC 19 0x6e5de00ee73e205de17103eb073e1a3
def UX:Cut:=nC 25 0x6e5de00ee73e205de17073e1a103eb0ac0b3ce5
def DW:cS:=nI [CR,UX] 115 0x202b20402b00053e1121b23055e11a2200011b239273e154e11a200053e1121b23179929490542001b2900011b2392052e116323b2001b20a72000d0d114e34ce
def a4E:Cut:=nC 12 0xc57e1103e4057e112
def bKx:cS:=nI [a4E] 62 0x102b200001b23057e11a2200702b240056e11a220542001b2011b21172000c14fe
def bKw:cS:=nI [] 33 0x59e11a22964e158e21a2990042000c016e005e350e
def a4D:Cut:=nC 21 0x1612c5ae105ae140a60d1003e04
def a4C:Cut:=nC 27 0x1612c5ae105ae140d1003e00a6003e70b18e6
def bKv:cS:=nI [a4D,a4C] 42 0x1701aec1a203ee418653b24290549290122000d003e251e
def a4B:Cut:=nC 11 0x10ae20a311ae13
def bKu:cS:=nI [a4B] 49 0x102b2001ae61902b42905492001b205ae0111b2001b2100e100052e
def bKs:cS:=nI [] 24 0x5be2017e4241b2904100000e000e253e
def a3s:cS:=nI [] 17 0x5ce11a29031000a15ee
def a3r:cS:=nI [] 81 0x60e4060e6265434b205fe216432106b205fe21643205b205ee205de3281b205de1161b2905de1161b290332000d0d25fe
def UW:Cut:=nC 5 0xb41
def Uu:cS:=nI [UW] 26 0x700ce03e061e0ae20ae1b2901100000e000e234e
def Gl:Cut:=nC 15 0x4e57e10a511ae4057e113
def L3:cS:=nI [Gl] 27 0x549205ae0111b299010200004e159e
def a3q:cS:=nI [] 29 0x63e41a29062e2121b290105e200004e005e235e
def Gk:Cut:=nC 25 0x1612c5ae004e59e205ae140a6008e0059e134
def L2:cS:=nI [Gk] 20 0x54929012200004e008e260e
def UV:Cut:=nC 5 0xb61
def Ut:cS:=nI [UV] 23 0x701ae71a29011000a0d000e32ce
def UU:Cut:=nC 5 0xb21
def Us:cS:=nI [UU] 14 0x799011000c161e
def UT:Cut:=nC 19 0x1612c5ae0c5ee205ae1405ee182
def Ur:cS:=nI [UT] 58 0x66e11a22070057e31a29065e81a39064e51a39492999046e11a29002200103e004e262e
def CQ:Cut:=nC 14 0x108e50a6003e100ae04
def US:Cut:=nC 17 0x108e5003e100ae00a60b02e5
def DV:cS:=nI [CQ,US] 46 0x102b200c02b420179205492001b2001b21c100003e00ae263e
def a3p:cS:=nI [] 12 0x4100102e004e264e
def a3o:cS:=nI [] 19 0x33e2121b2904100000e17ee
def UR:Cut:=nC 31 0x1a192200e5be000e58e000e59e305be15058e12059e130b06e4
def UQ:Cut:=nC 34 0x1a192200e5be000e58e000e59e305be15058e12059e130a70b1ce5
def UP:Cut:=nC 52 0x1a192200e5be000e58e000e59e000e60e000e61e000e5fe605be15058e12059e13060e1a061e1b05fe190b3ae7
def UO:Cut:=nC 45 0x1a192200e5be000e58e000e5fe000e60e000e59e505be15058e1205fe19060e1a059e130b4de6
def UN:Cut:=nC 21 0x1a192200e5be000e58e205be15058e122
def UM:Cut:=nC 24 0x1a192200e5be000e58e205be15058e120b43e3
def UL:Cut:=nC 38 0x1a192200e5be000e58e000e5fe000e60e405be15058e1205fe19060e1a0b58e5
def pV:cS:=nI [UR,UQ,UP,UM,UO,UL,UN] 126 0x67000037e2012e52a2357013e2069e52a200037e21a2347013e2069e52a2239037013e2013e62a2027013e2013e62a2239492067e0068e12a299017013ed1a2014e21a220079290140300000e000e27fe
def a4A:Cut:=nC 5 0xb21
def bKr:cS:=nI [a4A] 14 0x79901100004e165e
def a4z:Cut:=nC 25 0x4010a90aa0a30032001e10d06
def a4y:Cut:=nC 25 0x4010a90a30032001e10d00aa6
def bKq:cS:=nI [a4z,a4y] 61 0x1700151e6161b93942905492900016ae21212b239290010100410a003001e0d466e
def Gj:Cut:=nC 18 0x6e59e111de4059e130d00a54
def RN:cS:=nI [Gj] 91 0x402b200011b239206ce21a2000702b239200053e2131b239206be21a240549001b200053e0111b2392001b20a13e2000d169e
def bKp:cS:=nI [] 12 0xa1000a0a26ae
def UK:Cut:=nC 52 0x6e5be1612c5ae1612c5de009e5ce00ee0505be1505ae140a1001005de1705ce160a0ae0b11e8
def UJ:Cut:=nC 46 0x6e5be1612c5ae009e5ce1612c5de00ee0505be1505ae1405ce1605de170d800106
def IK:cS:=nI [UK,UJ] 136 0x16de31a20001ae0028e102be4341b290154e31a2392900053e31a239200028e11a200053e41a239206ee7171b217999390029e21a29390390053e31a230790053e31a2394929990a220100ee10a00126be
def a3n:cS:=nI [] 17 0x6fe11a29001000c16ce
def NT:Cut:=nC 5 0xb21
def FT:cS:=nI [NT] 14 0x799011000c16de
def aHJ:cS:=nI [] 20 0xbe100ce22a29011000c16ee
def aQK:Cut:=nC 37 0x1a192200e5ce0c5ae00de0305ce16001000ce205ae140a0fe0b10e6
def aQJ:Cut:=nC 37 0x1a192200e5ce0c5ae00de0305ce16001000ce205ae14003ea0b3be6
def aQI:Cut:=nC 34 0x1a192200e5ce0c64e00de0305ce1600ce2064e100e00100b71e5
def aQH:Cut:=nC 44 0x1a192200e5ce004e62e0c5ae00de0405ce16062e1c001000ce2003ed05ae140b86e7
def aQG:Cut:=nC 40 0x1a192200e5ce004e62e00de0305ce16102e09e062e1c00100a0ae00ce2003ed7
def bEa:cS:=nI [aQK,aQJ,aQI,aQH,aQG] 272 0x24e21212b2990178e21a200402b90158e6161b242945492001b2000158e31322b29077e5151b200174e11a22337076e31a2075e5151b22000158e31322b20270174e51a2203ee317543b29073e1111b2301ae01a200172e313213b2301ae01a20006e31a29301ae01a2492081b20179203ee115323b200016e21a20071e31302b2200006e11a23070e21a22390006e11a23079492900420100de100ce0c00136fe
def aQF:Cut:=nC 5 0xb21
def bD9:cS:=nI [aQF] 25 0x7079e107ae507bea3a2901100000e170e
def aHI:cS:=nI [] 18 0xce1b2001b2110e100071e
def bD8:cS:=nI [] 18 0xbe0006e12a290410002de
def bD7:cS:=nI [] 17 0x7ce11a29031000a175e
def NS:Cut:=nC 8 0xd00b00e2
def NR:Cut:=nC 11 0xb40d00a53
def Ch:Cut:=nC 17 0x101e60b40a70d00a55
def rK:cS:=nI [NS,NR,Ch] 63 0x312b200802b42925492001b21799900011b230707de11a22011b20512000d176e
def Cg:Cut:=nC 8 0x1e6001e82
def BU:cS:=nI [Cg] 64 0x60e11102b2032104b05fe217643206b249054205de1161b205de1161b29031000d0d277e
def Af:Cut:=nC 22 0x461e1001e7061e360a8001e1001e05
def Cf:Cut:=nC 22 0x461e1001e7061e36001e1001e00a85
def tK:cS:=nI [Af,Cf] 87 0x7ee111ae114321051200080e213203b24007fe2121b2215407ee71872b242905492001b2031b20102b2055200001e001e278e
def NQ:Cut:=nC 8 0x10be5001e12
def Cd:Cut:=nC 11 0x10be50a6001e13
def xS:cS:=nI [NQ,Cd] 54 0x902b429154920700302b392001b2907ee112103b2903100001e0b279e
def Cc:Cut:=nC 11 0xa5002e1002e03
def BT:cS:=nI [Cc] 30 0x45e81a2429054929901100002e002e25ae
def Ae:Cut:=nC 15 0x4e59e10a7059e13005e03
def Cb:Cut:=nC 21 0x4e59e1059e13005e00a70a9016e85
def tJ:cS:=nI [Ae,Cb] 37 0x1549063e4151b24290549290100300004e005e25be
def NP:Cut:=nC 12 0x12e57e1057e110b52
def Dv:cS:=nI [NP] 35 0x1b2000212b23079492011b200ce100012e15ce
def NO:Cut:=nC 35 0x1612c5ae0c59e0c5be305ae14059e130dc05be150d00bd6
def Du:cS:=nI [NO] 199 0x29e31a200029e01a2392088e11a2390087e1026e32a2390029e31a2390029e31a2390027e11a2086e41a2390027e21a2390027e21a2390085e11a2390084e11a2390083e1082e22a2390082e31a2390082e31a2390082e31a2390082e31a23900000be01a23056e11a223079492081e11a29021000c0d27ae
def NN:Cut:=nC 22 0x1612c5ce004e5de205ce1605de170b2be3
def BS:cS:=nI [NN] 147 0x26e51a20000be01a239208de21a2390087e1087e3029e53a2390028e11a20000be01a230708cea1a22087e1087e32a239008be2082e32a239008ae21a2390089e21a239002ae21a239000ce2082e32a2394929021000c0c0d37be
def NM:Cut:=nC 5 0xb21
def FQ:cS:=nI [NM] 22 0x7055e108ee52a29011000c17ce
def bD6:cS:=nI [] 20 0x8fe1090e22a29021000a1a5e
def aHH:cS:=nI [] 17 0x91e11a29041000c1a4e
def NL:Cut:=nC 5 0xb21
def FP:cS:=nI [NL] 31 0x700de6092ea034eb067e02e034e03e5a2901100000e1a6e
def aQE:Cut:=nC 19 0x40100310d70d00b84
def aQD:Cut:=nC 19 0x40100310d70d00b22e4
def aQC:Cut:=nC 16 0x40100310d70b4ce3
def aQB:Cut:=nC 9 0x4010b5ce1
def aQA:Cut:=nC 9 0x4010b6fe1
def bD5:cS:=nI [aQE,aQD,aQC,aQB,aQA] 87 0x47923903900379239032790390390390036e21a2317903903900193e21212b2307949290010100410030d27de
def Ad:Cut:=nC 8 0xa10d02
def Ac:Cut:=nC 8 0xa10d02
def Ca:Cut:=nC 11 0xa10d00a63
def NK:Cut:=nC 11 0xa10d00b13e3
def nJ:cS:=nI [Ad,Ac,NK,Ca] 74 0x95e21a203095e21a2039449354993095e21a20027921543903094e31a2449054290102000a0d280e
def NJ:Cut:=nC 36 0x6e5ce009e5ae006e5ee009e5de405ce1605ae1405ee180a105de170b33e6
def NI:Cut:=nC 33 0x6e5ce009e5ae006e5ee009e5de405ce1605ae1405ee180a105de175
def NH:Cut:=nC 33 0x6e5ce009e5ae006e5ee009e5de405ce1605ae1405ee180aa05de175
def NG:Cut:=nC 39 0x6e5ce009e5ae006e5ee009e5de405ce1605ae1405ee180aa05de170a10b95e7
def NF:Cut:=nC 33 0x6e5ce009e5ae006e5ee009e5de405ce1605ae1405ee180a105de175
def nH:cS:=nI [NJ,NF,NI,NG,NH] 182 0x47097e11a9900053e31a233709de209de72a209ce109ce3044e43a2900053e31a2309ce11a22390394209be11a20009ae41a23095e21a229099e21a200053e31a23098e11a20270097e11a392096e31a29390170053e21a30792096e31a29390390390394929990a0d3000a0d281e
def Ab:Cut:=nC 39 0x6e5be1612c5ae0c5de00ee0405be1505ae1405de17103e600100a16
def NE:Cut:=nC 42 0x6e5be1612c5ae0c5de00ee0405be1505ae1405de1700100a1103e60b1de7
def ND:Cut:=nC 36 0x6e5be1612c5ae0c5de00ee0405be1505ae1405de17103e600105
def B9:Cut:=nC 35 0x6e5be1612c5ae0c5de00ee0405be1505ae1405de170ad103e65
def nF:cS:=nI [Ab,NE,ND,B9] 105 0x2ae51a429354929270402b90154e21a2000053e31a20053e31a2390394992990154e21a293179249054200be01a2001b290a220100ee10a001283e
def NC:Cut:=nC 25 0x4e5ce017e5ee205ce160d20d105ee180b0de5
def B8:Cut:=nC 25 0x4e5ce017e5ee205ce160d20d10aa05ee185
def vV:cS:=nI [NC,B8] 37 0x1549200792909ee21202b290082000d0d014e382e
def NB:Cut:=nC 15 0xc58e10a1058e120bd3
def Dt:cS:=nI [NB] 31 0x6fe81a2906fe61a2007929001000a0c284e
def aQz:Cut:=nC 5 0xb21
def bD4:cS:=nI [aQz] 25 0x708ce101ae401ae93a2901100004e185e
def aQy:Cut:=nC 27 0x1a192200e5ae004e59e205ae140a600ce0059e134
def bD3:cS:=nI [aQy] 20 0x54929014200004e00ce273e
def aQx:Cut:=nC 39 0x1a192200e5ce00de0205ce1600ce210ceb003e100100ac00ae8003e98
def bD2:cS:=nI [aQx] 72 0x158e71742b200902b90158e6161b242905492001b2909fe3198544b29900420100de100ce003e001386e
def aQw:Cut:=nC 21 0x1612c58e1058e12003e0103e40a64
def aQv:Cut:=nC 24 0x1612c58e1058e12003e0103e40a60b1de5
def bD1:cS:=nI [aQw,aQv] 68 0x2be402be70a0ec0a0e00e400ec744b290017903ee418653b242905492903ee317543b299012200003e187e
def bD0:cS:=nI [] 14 0x110100de1001188e
def Aa:Cut:=nC 29 0x100e1d123213e5ae004e59e205ae140a6005e0059e134
def NA:Cut:=nC 32 0x100e1d123213e5ae004e59e205ae14005e0059e130a60b0ee5
def vU:cS:=nI [Aa,NA] 27 0x1794290549290109e200004e005e289e
def aQu:Cut:=nC 5 0xb81
def bDZ:cS:=nI [aQu] 19 0x794929901100004e18ae
def aQt:Cut:=nC 28 0x1612c5ae0c59e205ae14005e0059e13003e70b17e5
def aQs:Cut:=nC 28 0x1612c5ae013e63e205ae14063e1d005e00a00e003ea5
def aQr:Cut:=nC 31 0x1612c5ae013e63e205ae14063e1d005e00a00e003ea0b4ae6
def aQq:Cut:=nC 28 0x1612c5ae013e63e205ae14001203e01e063e1d005e04
def bDY:cS:=nI [aQt,aQs,aQr,aQq] 106 0x4ce600ae7276504b237002be417403b392071b20279217999075e2121b2000a1e31322b23076e11a22081b20079203ee115323b2900123000c005e28be
def aQp:Cut:=nC 19 0x4e59e00de02059e1300100a63
def bDX:cS:=nI [aQp] 32 0x30e5151b2005492901020100de1004e00128ce
def bDW:cS:=nI [] 17 0xa2e11a2900100000e18de
def bDV:cS:=nI [] 17 0xa3e11a2900100000e18ee
def aQo:Cut:=nC 5 0xb21
def aQn:Cut:=nC 5 0xb21
def aQm:Cut:=nC 12 0xe57e1057e110b2be2
def aQl:Cut:=nC 12 0xe57e10a4057e112
def bDU:cS:=nI [aQo,aQn,aQm,aQl] 72 0x7be51a24293549202708ce51a2239017066e71a239007070e41a23949200ce31a2901100000e18fe
def bDT:cS:=nI [] 17 0xa4e11a29031000a190e
def M9:Cut:=nC 11 0xd00a30b00e3
def M8:Cut:=nC 8 0xd00a32
def M7:Cut:=nC 11 0xd00a30b0ae3
def zZ:Cut:=nC 8 0xa40d02
def M6:Cut:=nC 11 0xd00a40b1be3
def lX:cS:=nI [M9,M8,M7,zZ,M6] 38 0x47942935492027921700792999011000d191e
def zY:Cut:=nC 8 0xa3001e02
def M5:Cut:=nC 11 0xa3001e00b01e3
def vT:cS:=nI [zY,M5] 31 0x31b200179205429001b205100001e192e
def B7:Cut:=nC 11 0xa5001e1001e03
def BR:cS:=nI [B7] 20 0x54929900100001e001e293e
def zX:Cut:=nC 17 0x101e50a7001e10a6001e05
def M4:Cut:=nC 17 0x1e1001e00a70a8101e55
def MZ:Cut:=nC 20 0x1e10a6001e00a70a8101e56
def rJ:cS:=nI [zX,M4,MZ] 55 0x7ee112103b200402b27991799429054929001b2001b205100001e001e294e
def aHG:cS:=nI [] 18 0x26e01a299021000c195e
def aHF:cS:=nI [] 28 0xbe01a200025e01a23929021000b196e
def MY:Cut:=nC 5 0xb21
def FO:cS:=nI [MY] 14 0x799011000c197e
def aHE:cS:=nI [] 26 0xa5e2027e52a2081e11a29021000c198e
def aHD:cS:=nI [] 23 0x27e41a2081e11a29021000c199e
def MX:Cut:=nC 20 0x1eb0b8001ea0b6001e90b1be6
def MW:Cut:=nC 14 0x1eb0b8001ea0b64
def AD:cS:=nI [MX,MW] 99 0x60e4060e7276434b2170080e2132104b0a6e213203b23079205fe217643206b200060e21212b239205de1161b205de1161b290332000d0d29ae
def aHC:cS:=nI [] 10 0x31000c19be
def MV:Cut:=nC 8 0xa40b0ae2
def Ds:cS:=nI [MV] 31 0x7920a7e21a20083e11a2290106e2000c19ce
def aHB:cS:=nI [] 40 0xa8e40a8e90a9ea0a8e01e027e02e5a2081e1081e32a29021000c0c29de
def aHA:cS:=nI [] 34 0xa8e40a8e9027ea3a2081e1081e32a29021000c0c29ee
def aHz:cS:=nI [] 25 0x81e1081e30aae43a29011000c0c29fe
def aHy:cS:=nI [] 17 0xabe11a2901100004e1a0e
def MU:Cut:=nC 19 0xc58e0c59e2058e12059e130b01e3
def MT:Cut:=nC 8 0xa60b14e2
def xQ:cS:=nI [MU,MT] 35 0x17920a7e21a2007083e51a2290102000c0c2a1e
def MS:Cut:=nC 5 0xb21
def MQ:Cut:=nC 5 0xb21
def MP:Cut:=nC 5 0xb21
def MO:Cut:=nC 5 0xb21
def rI:cS:=nI [MS,MQ,MP,MO] 67 0x3708ee0de08ee14e2a2390279390170abe21a23900709de0ce09de11e2a2044e41a23949299011000c1a2e
def bDS:cS:=nI [] 17 0x5ce11a29031000a1c6e
def bDR:cS:=nI [] 10 0x21000d1c5e
def aHx:cS:=nI [] 10 0x41000c1c4e
def aHw:cS:=nI [] 15 0xace11a29021000c7e
def aQk:Cut:=nC 9 0x4010b0ce1
def aQj:Cut:=nC 15 0x4010a70a50b2de3
def aQi:Cut:=nC 12 0x4010a80b3ae2
def bDQ:cS:=nI [aQk,aQj,aQi] 176 0xaee10b0e22a23900aee10b0e20aee40b1e54a293900aee10b1e32a2000aee10b0e32a23923900b0e10b1e32a2000b0e11a2327920aee10aee32a2017920ade31a23900ade40afe52a23900070aee10aee32a2030aee10aee32a2420ade31a2394920ade31a290010100410030d2a3e
def MN:Cut:=nC 5 0xb21
def FN:cS:=nI [MN] 14 0x79901100010e1a7e
def MM:Cut:=nC 5 0xb81
def FM:cS:=nI [MM] 20 0x79901100010e010e0a0d4a8e
def aQh:Cut:=nC 21 0x6e5ee10a10d010be905ee18010e25
def aQg:Cut:=nC 24 0x6e5ee10d005ee18010e20a110be90b30e6
def bDP:cS:=nI [aQh,aQg] 74 0x702b20053e21a231790053e31a23900602b2390390053e31a23944054001b290a03300010e0a0d3a9e
def ML:Cut:=nC 19 0x6e5ae009e58e205ae14058e120bd3
def Dr:cS:=nI [ML] 41 0x53e21a23070b2ed1a20053e21a2394290a1000b009e2aae
def MK:Cut:=nC 5 0xb21
def FL:cS:=nI [MK] 14 0x79901100010e1abe
def zW:Cut:=nC 8 0xa10d02
def MJ:Cut:=nC 11 0xa10d00b00e3
def vS:cS:=nI [zW,MJ] 28 0x17098e81a2205429001000a0d2ace
def aQf:Cut:=nC 33 0x6e60e009e5ee006e64e009e5be4060e1a05ee18064e100e0ad05be155
def bDO:cS:=nI [aQf] 82 0x97e31a29099e21a200053e31a23098e31a20070097e11a3929096e31a2390053e41a2394299990a0d3000a0d009e0d4ade
def MI:Cut:=nC 11 0xd00a50b01e3
def MH:Cut:=nC 8 0xd00a52
def zV:Cut:=nC 11 0xa60d00a53
def MG:Cut:=nC 14 0xa60d00a50b12e4
def MF:Cut:=nC 11 0xa60d00b27e3
def zU:Cut:=nC 11 0xa60d00a73
def ME:Cut:=nC 14 0xa60d00a70b39e4
def iT:cS:=nI [MI,MH,zV,MG,MF,zU,ME] 52 0x6794295549204792990037922542917007929901333000d1aee
def aQe:Cut:=nC 8 0xd00b32
def aQd:Cut:=nC 11 0xa40d00b33
def aQc:Cut:=nC 11 0xa40d00b33
def aQb:Cut:=nC 14 0xa40d00b30b09e4
def bDN:cS:=nI [aQe,aQd,aQc,aQb] 28 0x3792254217990799031000d1afe
def aHv:cS:=nI [] 19 0x5de1161b29001000d1b0e
def B6:Cut:=nC 21 0x111217e5ae105ae140a6014e00d14
def BQ:cS:=nI [B6] 20 0x54929010de2000d014e2b1e
def aQa:Cut:=nC 14 0x103e810ae70a9103e54
def aP9:Cut:=nC 20 0x103e50a9003ea103e810ae70b22e6
def aP8:Cut:=nC 11 0x103e810ae70ac3
def aP7:Cut:=nC 11 0x103e810ae70ad3
def bDM:cS:=nI [aQa,aP9,aP8,aP7] 150 0x32104b20000102b230b3e7171b2429354920000102b23070e41a24292549200602b0702b2000102b23179203ee418653b242905492001b2001b2000102b239203ee115323b20212b200700e3000c1b2e
def bDL:cS:=nI [] 28 0xb4e102be302ae43322b2902100003e0d2b3e
def aP6:Cut:=nC 27 0x1612c5ae105ae14003e10d00a60db0b0ce6
def aP5:Cut:=nC 27 0x1612c5ae105ae14003e10d00a60db0b2de6
def aP4:Cut:=nC 24 0x1612c5ae105ae14003e10d0003e70b64e5
def aP3:Cut:=nC 12 0x1612c5ae105ae141
def aP2:Cut:=nC 24 0x1612c5ae105ae14003e10d00a60ba6e5
def bDK:cS:=nI [aP6,aP5,aP4,aP2,aP3] 317 0x47000a0e70a0e92972b2000a0e7171b2392000a0e70a0e92972b239293379000a0e70a0e92972b239000a0e4141b239239000a0e70a0e92972b239000a0e4141b23923900b6e21212b23900b6e21212b23900b5e90a0eb2b92b20279203ee317543b20000be01a23923900b5e90a0eb2b92b2000b5e600be70a0e93962b2392900082e21a2392317900b5e60a0e82862b2000b5e60a0e82862b239290000be01a2392307900b5e60a0e82862b20000be01a23923949299012200003e0d2b4e
def aP1:Cut:=nC 14 0xa50a70a1002e64
def aP0:Cut:=nC 17 0xa50a1002e60a70b0ce5
def bDJ:cS:=nI [aP1,aP0] 51 0xa2e81a4201792054920b7e1121b2900055e31a23929001000a000e2b5e
def aPZ:Cut:=nC 14 0xa50a70a1002e64
def aPY:Cut:=nC 17 0xa50a1002e60a70b03e5
def bDI:cS:=nI [aPZ,aPY] 40 0xa3e71a4201792054920b7e1121b299001000a000e2b6e
def aPX:Cut:=nC 8 0xa00b03e2
def ii178:cS:=⟨⟨197,[(.val i6,aj),(.val i6,aj)],[],[],[.str],aj⟩,(.s .n (.s (.s .n (.c (.s (.s .n (.d aPX (.c (.s (.r [] [] [(1,(199,[]))]) .n) .n))) (.s .n (.s .n (.s .n (.d ⟨[],[]⟩ (.s .n (.s (.r [4] [] []) .n))))))) .n)) (.s (.r [6,7,9] [] [(5,(198,[]))]) .n)))⟩
def aHu:cS:=nI [] 28 0x60e31322b205de1161b29031000d1b8e
def zT:Cut:=nC 17 0x101e50a7001e1001e00a65
def MD:Cut:=nC 20 0x101e5001e1001e00a70a60b08e6
def MC:Cut:=nC 17 0x1e1001e00a70a8101e55
def MB:Cut:=nC 17 0x1e1001e00a70a8101e55
def oY:cS:=nI [zT,MD,MC,MB] 56 0x102b2000502b237927994201792054929001b2001b215100001e001e2b9e
def B5:Cut:=nC 14 0xa60b40a7001e54
def MA:Cut:=nC 5 0xa61
def xP:cS:=nI [B5,MA] 31 0x1790054929905de1161b290102000d1bae
def aHt:cS:=nI [] 43 0xbae5060e6265434b205de1161b205de1161b29031000d0d2bce
def aHs:cS:=nI [] 88 0x80e3060e4243214b200080e3060e4243214b2307fe2121b22000a6e3060e4243214b239205de1161b205de1161b29031000d0d2bbe
def Mz:Cut:=nC 19 0xc59e0c58e2059e13058e120b26e3
def Dq:cS:=nI [Mz] 105 0xaae81a290aae81a2007056e1056e52a22000bee41a23900bde41a23900a8e40a8e90bcea3a23940bbe11a220000bbe10bbe32a2230bbe10bbe32a229001000c0c2bde
def My:Cut:=nC 5 0xb21
def FK:cS:=nI [My] 19 0x70bfe21a2901100004e1bee
def aHr:cS:=nI [] 10 0x2100004e1d7e
def bDH:cS:=nI [] 10 0x1000a1bfe
def aPW:Cut:=nC 8 0xa30b42
def aPV:Cut:=nC 5 0xb71
def bDG:cS:=nI [aPW,aPV] 23 0x179030794929001000a1c0e
def aPU:Cut:=nC 16 0xa00a100d6e250b00e4
def bDF:cS:=nI [aPU] 95 0xaee10b0e20aee40b1e54a230aee10aee32a20000aee10b1e22a230aee10aee32a2230c0e20c0e52a203070c0e20c0e62a20390394299001000a0a2c1e
def bDE:cS:=nI [] 10 0x1000a1c2e
def bDD:cS:=nI [] 10 0x1000a1c3e
def bDC:cS:=nI [] 17 0xbfe11a29011000d1c8e
def aPT:Cut:=nC 15 0x4e59e10a5059e1300ae03
def bDB:cS:=nI [aPT] 19 0x5492901100004e00ae256e
def bDA:cS:=nI [] 20 0x1ae1028e22a29021000d1c9e
def bDz:cS:=nI [] 22 0xa0e21212b2902100003e0d2cae
def bDy:cS:=nI [] 67 0xb5e70a0e92972b2000a0e8181b2390026e20a0e7271b2390026e11a239492902100003e0a0d0d4cbe
def bDx:cS:=nI [] 31 0x212b200001b2392011b206100000e155e
def aPS:Cut:=nC 26 0x10bea0db00be00b40b301be10a20b0ee8
def aPR:Cut:=nC 23 0x10bea0db00be00b40b301be10a27
def bDw:cS:=nI [aPS,aPR] 76 0x402b239200d900d0000c4290000c4299939200d9991700792001b20301e2000b0b0a01be00be5cfe
def bDv:cS:=nI [] 10 0x31000a1cce
def zR:Cut:=nC 19 0x466e1066e350a6001e1001e04
def zQ:Cut:=nC 25 0x466e1066e35001e1001e00a60a80a76
def Mx:Cut:=nC 28 0x466e1066e35001e1001e00a60a80a70b10e7
def Mw:Cut:=nC 25 0x466e1066e35001e1001e00a60a80a96
def mL:cS:=nI [zR,zQ,Mx,Mw] 62 0x7ee1133e11210312000379942027921549942905492071b2001b205100001e001e2d0e
def aHq:cS:=nI [] 10 0x1000c1d1e
def Mv:Cut:=nC 17 0x1e8001e60b50b70b05e5
def Mu:Cut:=nC 14 0x1e8001e60b50b0be4
def AC:cS:=nI [Mv,Mu] 65 0x7fe212103b20007fe212103b23903179030794205de1161b205de1161b29001000d0d2d2e
def bDu:cS:=nI [] 12 0x1000d0d2d3e
def bDt:cS:=nI [] 30 0xbde41a2000bde41a2392900100004e004e2d4e
def Mt:Cut:=nC 8 0xd00b08e2
def zP:Cut:=nC 8 0xa30d02
def Ms:Cut:=nC 11 0xd00a30b23e3
def qH:cS:=nI [Mt,zP,Ms] 30 0x279942915492007929011000d1d5e
def bDs:cS:=nI [] 10 0x11000a1d6e
def insL:au (Nat×cS):=[(0,ii0),(1,bOp),(2,Uz),(3,aD5),(4,aPs),(5,aHp),(6,aPr),(7,bKz),(8,bKt),(9,RO),(10,bKU),(11,bKT),(12,L7),(13,bKS),(14,bKR),(15,bKQ),(16,RQ),(17,RP),(18,a3Q),(19,uV),(20,bKP),(21,a3P),(22,L6),(23,Ao),(24,a3O),(25,a3N),(26,DY),(27,Uy),(28,a3M),(29,Ux),(30,L5),(31,a3L),(32,a3K),(33,Uw),(34,a3J),(35,qW),(36,bKO),(37,bKN),(38,a3I),(39,bKM),(40,a3H),(41,bKL),(42,bKK),(43,bKJ),(44,bKI),(45,bKH),(46,bKG),(47,bKF),(48,bKE),(49,bKD),(50,bKC),(51,a3G),(52,a3F),(53,a3E),(54,a3D),(55,a3C),(56,a3B),(57,bKB),(58,tI),(59,a3A),(60,a3z),(61,bKA),(62,a3y),(63,DX),(64,Uv),(65,a3x),(66,A9),(67,L4),(68,a3w),(69,vY),(70,IL),(71,a3v),(72,bKy),(73,a3u),(74,a3t),(75,DW),(76,bKx),(77,bKw),(78,bKv),(79,bKu),(80,bKs),(81,a3s),(82,a3r),(83,Uu),(84,L3),(85,a3q),(86,L2),(87,Ut),(88,Us),(89,Ur),(90,DV),(91,a3p),(92,a3o),(93,pV),(94,bKr),(95,bKq),(96,RN),(97,bKp),(98,IK),(99,a3n),(100,FT),(101,aHJ),(102,bEa),(103,bD9),(104,aHI),(105,bD8),(106,bD7),(107,rK),(108,BU),(109,tK),(110,xS),(111,BT),(112,tJ),(113,Dv),(114,Du),(115,BS),(116,FQ),(117,bD6),(118,aHH),(119,FP),(120,bD5),(121,nJ),(122,nH),(123,nF),(124,vV),(125,Dt),(126,bD4),(127,bD3),(128,bD2),(129,bD1),(130,bD0),(131,vU),(132,bDZ),(133,bDY),(134,bDX),(135,bDW),(136,bDV),(137,bDU),(138,bDT),(139,lX),(140,vT),(141,BR),(142,rJ),(143,aHG),(144,aHF),(145,FO),(146,aHE),(147,aHD),(148,AD),(149,aHC),(150,Ds),(151,aHB),(152,aHA),(153,aHz),(154,aHy),(155,xQ),(156,rI),(157,bDS),(158,bDR),(159,aHx),(160,aHw),(161,bDQ),(162,FN),(163,FM),(164,bDP),(165,Dr),(166,FL),(167,vS),(168,bDO),(169,iT),(170,bDN),(171,aHv),(172,BQ),(173,bDM),(174,bDL),(175,bDK),(176,bDJ),(177,bDI),(178,ii178),(179,aHu),(180,oY),(181,xP),(182,aHt),(183,aHs),(184,Dq),(185,FK),(186,aHr),(187,bDH),(188,bDG),(189,bDF),(190,bDE),(191,bDD),(192,bDC),(193,bDB),(194,bDA),(195,bDz),(196,bDy),(197,bDx),(198,bDw),(199,bDv),(200,mL),(201,aHq),(202,AC),(203,bDu),(204,bDt),(205,qH),(206,bDs)]
def bKi(a:Int):f9 (au UInt8):=bif ak (a= -1)then aa [45,49]else bif ak (a= -2)then aa [45,50]else bif ak (a= -3)then aa [45,51]else bif ak (100<=a)&&ak (a<1000)then aa [UInt8.ofNat (48+a.toNat/100),UInt8.ofNat (48+a.toNat/10%10),UInt8.ofNat (48+a.toNat%10)]else ae
def orcI:HU:=⟨197,λa b=>bif ak (b=10)then bKi a else ae,4,ae⟩
def tpI:TP U0.D:=bGN orcI (K7 insL)
def cA(L n:Nat):cG:=yA U0 tpI (HX Go.Rf.cdP insL) L n
abbrev DE:G.Y:=⟨[],[]⟩
abbrev tT:G.O:=⟨0,[],[],DE,[],[]⟩
abbrev Tg:G.T:=⟨0,DE,tT,[]⟩
abbrev zqF:G.F:=⟨DE,[],0,Tg,Tg,Tg⟩
def bY:Nat->Nat->au UInt8
 |0,_=>[]
 |f+1,n=>UInt8.ofNat (n%128)::bY f (n/128)
def dT{a b:Nat}(h:a<b):ak ((a:Int)<(b:Int))=ah:=bG (by omega)
def dF{a b:Nat}(h: ¬a<b):ak ((a:Int)<(b:Int))=aj:=bH (by omega)
def pw:Nat->Nat->au Nat
 |0,_=>[]
 |f+1,n=>(n%2)::pw f (n/2)
def sK(m k:Nat)(h:k<=m): ∃q,m=q+k:=⟨m-k,by omega⟩
abbrev Nt:=nO->Rt
abbrev yR(n:Nat)(x:Den U0.D (.rc n)):TV U0.D:=⟨.rc n,x⟩
abbrev yS(n:Nat)(x:Den U0.D (.sl (.rc n))):TV U0.D:=⟨.sl (.rc n),x⟩
abbrev yI(x:Int):TV U0.D:=⟨.int .i64,x⟩
abbrev yB(x:Bool):TV U0.D:=⟨.bool,x⟩
abbrev yT(x:au UInt8):TV U0.D:=⟨.str,x⟩
section
variable(x:cS)(c:cG)(e:Cu)(L:Nat)(π:au Nat)(ct:Cut)
def cu:Cu:=⟨Dx U0 tpI c L,Ex U0 tpI c L⟩
def xW:TC:=jW x.sk (vE Go.Rf.cdP x.sig.f)
def xC:TC:=aNl (xW x) π
def xK:Kt:=aPE U0 tpI x.sig (JG Go.Rf.cdP x.sig.f)
def xT(K:Kt):Kt:=EF U0 (pP U0 tpI c e.D e.E (xC x π)) K
def xF(d:nO):Rt:=qJ U0 (cutOf x.sig) (λS M=>pP U0 tpI c e.D e.E (xW x) S M (xK x)) d
def xA(K:Kt)(d:nO):Rt:=qJ U0 ct (λS M=>pP U0 tpI c e.D e.E (xC x π) S M K) d
def xL(K:Kt)(n:Nat)(d:nO):Rt:=Dn U0 ct (λS M K=>gD U0 tpI c L (xC x π) S M K) K n d
def xD(K:Kt)(d:nO):Rt:=e.D ct (xC x π) d K
def xE(K:Kt)(d:nO):Rt:=e.E ct (xC x π) d K
def cI(K:Kt):xD x (cu c L) π ct K=xA x c (cu c L) π ct K:=funext λd=>xX ct (λS M=>(bLW (T:=tpI) (c:=c) (L:=L) (xC x π) S M K).symm) d
def fO(K:Kt)(n:Nat):xL x c L π ct K (n+1)=xA x c (cu c L) π ct (iL U0 ct (xL x c L π ct K n) K):=funext λd=>xX ct (λS M=>(bLW (T:=tpI) (c:=c) (L:=L) (xC x π) S M _).symm) d
end
def zN: ∀{l:au (Nat×cS)} {i:Nat} {x:cS},tP l i=aa x->(i,x)∈l
 |a::l,i,x,h=>by
  simp only[tP]at h;cases hb:ao a.1 i with
  |true=>
   rw[hb]at h;simp only[aI,aA]at h;have:=aE hb;subst this;subst h;exact aH ..
  |false=>rw[hb]at h;exact aG _ (zN h)
def a3S:(insL.all λx=>aOG orcI x.2.sig&&aq x.2.sig.bx.length 100&&II x.2.sig.bx.length x.2.sig.bx)=ah:=by kernel_rfl
def cg{i:Nat}{x:cS}(hx:tP insL i=aa x)(hf:(ao x.sig.f orcI.n||ao x.sig.f orcI.m)=aj)(L n:Nat)(d:nO):cA L (n+1) i d=xF x (cA L n) (cu (cA L n) L) d:=by
 have hs:tpI.sig i=aa x.sig:=by show K7 insL i=_;unfold K7;rw[hx];rfl
 have hg:HX Go.Rf.cdP insL i=aa (jW x.sk (vE Go.Rf.cdP x.sig.f),JG Go.Rf.cdP x.sig.f):=by simp only[HX,hx]
 have hb:(aOG tpI.orc x.sig&&aq x.sig.bx.length 100&&II x.sig.bx.length x.sig.bx)=ah:=bK.1 a3S _ (zN hx);have ho:aOz U0 tpI.orc x.sig d=ae:=by
  rw[Bool.or_eq_false_iff]at hf;show aOz U0 orcI x.sig d=ae;unfold aOz;rw[hf.1,hf.2];rfl
 show yA U0 tpI (HX Go.Rf.cdP insL) L (n+1) i d=_;simp only[yA,hs,hg,hb,aI,ho];exact(xX _ (λS M=>bLW _ _ _ _) d).symm
def kT(n:Nt):au UInt8->Rt:=λx0=>n [yT x0]
def sI(n:Nt):Bool->Int->au UInt8->Rt:=λx0 x1 x2=>n [yB x0,yI x1,yT x2]
def Pe(n:Nt):Int->au UInt8->Rt:=λx0 x1=>n [yI x0,yT x1]
def eN(n:Nt):au UInt8->Int->Rt:=λx0 x1=>n [yT x0,yI x1]
def mS(n:Nt):au Int->au Int->Rt:=λx0 x1=>n [⟨.sl i6,x0⟩,⟨.sl i6,x1⟩]
def C5(n:Nt):au Int->Int->Int->au Int->au Int->Rt:=λx0 x1 x2 x3 x4=>n [⟨.sl i6,x0⟩,yI x1,yI x2,⟨.sl i6,x3⟩,⟨.sl i6,x4⟩]
def fG(n:Nt):G.O->Rt:=λx0=>n [yR 2 x0]
def dX(n:Nt):Bool->Rt:=λx0=>n [yB x0]
def sH(n:Nt):au UInt8->au UInt8->Rt:=λx0 x1=>n [yT x0,yT x1]
def Pb(n:Nt):Bool->Int->Rt:=λx0 x1=>n [yB x0,yI x1]
def iK(n:Nt):G.O->G.O->Rt:=λx0 x1=>n [yR 2 x0,yR 2 x1]
def qS(n:Nt):G.Y->Rt:=λx0=>n [yR 1 x0]
def yV(n:Nt):Bool->G.O->G.O->Rt:=λx0 x1 x2=>n [yB x0,yR 2 x1,yR 2 x2]
def qR(n:Nt):Rt:=n []
def Pa(n:Nt):Int->Rt:=λx0=>n [⟨(.int .u8),x0⟩]
def C4(n:Nt):Bool->au UInt8->Int->Rt:=λx0 x1 x2=>n [yB x0,yT x1,yI x2]
def mR(n:Nt):Int->au UInt8->Int->Rt:=λx0 x1 x2=>n [yI x0,yT x1,yI x2]
def OZ(n:Nt):Bool->Int->au UInt8->Int->Rt:=λx0 x1 x2 x3=>n [yB x0,yI x1,yT x2,yI x3]
def G0(n:Nt):Int->Rt:=λx0=>n [yI x0]
def yQ(n:Nt):Int->Int->Int->au Int->au Int->au Int->Rt:=λx0 x1 x2 x3 x4 x5=>n [yI x0,yI x1,yI x2,⟨.sl i6,x3⟩,⟨.sl i6,x4⟩,⟨.sl i6,x5⟩]
def aBw(n:Nt):Int->G.P->Rt:=λx0 x1=>n [yI x0,yR 22 x1]
def Db(n:Nt):Bool->au UInt8->Rt:=λx0 x1=>n [yB x0,yT x1]
def Pk(n:Nt):au G.T->au G.T->Rt:=λx0 x1=>n [yS 3 x0,yS 3 x1]
def C9(n:Nt):au G.E->G.Y->Rt:=λx0 x1=>n [yS 15 x0,yR 1 x1]
def AL(n:Nt):G.T->G.T->Rt:=λx0 x1=>n [yR 3 x0,yR 3 x1]
def aBB(n:Nt):au G.A->au UInt8->au UInt8->Rt:=λx0 x1 x2=>n [yS 5 x0,yT x1,yT x2]
def Kz(n:Nt):G.T->au UInt8->Int->Rt:=λx0 x1 x2=>n [yR 3 x0,yT x1,yI x2]
def aBy(n:Nt):G.T->Rt:=λx0=>n [yR 3 x0]
def aBO(n:Nt):au G.E->Int->G.Z->Rt:=λx0 x1 x2=>n [yS 15 x0,yI x1,yR 0 x2]
def aKh(n:Nt):G.Z->Rt:=λx0=>n [yR 0 x0]
def aBN(n:Nt):Int->G.Z->Rt:=λx0 x1=>n [yI x0,yR 0 x1]
def aBM(n:Nt):Bool->Int->Int->G.Z->G.O->Rt:=λx0 x1 x2 x3 x4=>n [yB x0,yI x1,yI x2,yR 0 x3,yR 2 x4]
def KA(n:Nt):au G.T->Rt:=λx0=>n [yS 3 x0]
def pR(n:Nt):au G.T->G.T->Rt:=λx0 x1=>n [yS 3 x0,yR 3 x1]
def DB(n:Nt):Int->au G.T->au G.T->Int->Rt:=λx0 x1 x2 x3=>n [yI x0,yS 3 x1,yS 3 x2,yI x3]
def aBC(n:Nt):Bool->G.O->Rt:=λx0 x1=>n [yB x0,yR 2 x1]
def C7(n:Nt):Int->G.K->G.X->G.K->G.X->Rt:=λx0 x1 x2 x3 x4=>n [yI x0,yR 21 x1,yR 20 x2,yR 21 x3,yR 20 x4]
def aRl(n:Nt):Bool->Int->au G.E->au G.S->au G.T->au G.T->Rt:=λx0 x1 x2 x3 x4 x5=>n [yB x0,yI x1,yS 15 x2,yS 17 x3,yS 3 x4,yS 3 x5]
def aRi(n:Nt):Bool->au G.T->G.T->Rt:=λx0 x1 x2=>n [yB x0,yS 3 x1,yR 3 x2]
def fC(i:Nat):f9 cS:=match tP insL i with
  |some x=>bif ao x.sig.f orcI.n||ao x.sig.f orcI.m then ae else aa x
  |none=>ae
def cz{i:Nat}{x:cS}(h:fC i=aa x)(L n:Nat)(d:nO):cA L (n+1) i d=xF x (cA L n) (cu (cA L n) L) d:=by
  unfold fC at h
  split at h
  · rename_i y hy
    cases hb:ao y.sig.f orcI.n||ao y.sig.f orcI.m with
    |true=>rw[hb]at h;cases h
    |false=>rw[hb]at h;cases h;exact cg hy hb L n d
  · cases h
def eE{W:Type}(r:Rt)(K:G.O×Unit->f9 W):f9 W:=gO (D:=U0.D) [.rc 2] r K
def eP{W:Type}(r:Rt)(K:Bool×Unit->f9 W):f9 W:=gO (D:=U0.D) [.bool] r K
def jE{W:Type}(r:Rt)(K:G.T×Unit->f9 W):f9 W:=gO (D:=U0.D) [.rc 3] r K
def iO{W:Type}(r:Rt)(K:Int×Unit->f9 W):f9 W:=gO (D:=U0.D) [.int .i64] r K
def kN{W:Type}(r:Rt)(K:au UInt8×Unit->f9 W):f9 W:=gO (D:=U0.D) [.str] r K
def uQ{W:Type}(r:Rt)(K:G.X×Unit->f9 W):f9 W:=gO (D:=U0.D) [.rc 20] r K
def An{W:Type}(r:Rt)(K:Bool×au Int×Unit->f9 W):f9 W:=gO (D:=U0.D) [.bool,.sl (.int .i64)] r K
def uP{W:Type}(r:Rt)(K:G.T×G.Z×Unit->f9 W):f9 W:=gO (D:=U0.D) [.rc 3,.rc 0] r K
def xI{W:Type}(r:Rt)(K:Int×Bool×Unit->f9 W):f9 W:=gO (D:=U0.D) [.int .i64,.bool] r K
def Am{W:Type}(r:Rt)(K:Int×G.Z×Unit->f9 W):f9 W:=gO (D:=U0.D) [.int .i64,.rc 0] r K
def tE{W:Type}(r:Rt)(K:au Int×Unit->f9 W):f9 W:=gO (D:=U0.D) [.sl (.int .i64)] r K
def qF{W:Type}(r:Rt)(K:G.Y×Unit->f9 W):f9 W:=gO (D:=U0.D) [.rc 1] r K
def tD{W:Type}(r:Rt)(K:G.O×G.Z×Unit->f9 W):f9 W:=gO (D:=U0.D) [.rc 2,.rc 0] r K
def FB{W:Type}(r:Rt)(K:G.O×Int×G.W×Unit->f9 W):f9 W:=gO (D:=U0.D) [.rc 2,.int .i64,.rc 18] r K
def Rw{W:Type}(r:Rt)(K:G.O×G.X×G.P×Unit->f9 W):f9 W:=gO (D:=U0.D) [.rc 2,.rc 20,.rc 22] r K
def uM{P:G.O->Prop}(h: ∀k n d s t l,(∀o∈l,P o)->P ⟨k,n,d,s,t,l⟩): ∀o,P o:=λo=>
 G.O.rec (motive_1:=P) (motive_2:=λl=> ∀o∈l,P o) (λk n d s t l ih=>h k n d s t l ih) (λo ho=>by cases ho)
  (λo l h1 h2 x hx=>by
   cases hx with
   |head=>exact h1
   |tail _ hx=>exact h2 x hx) o
instance:DecidableEq G.O:=λa b=>Classical.propDecidable _
def bN9:au UInt8:=[108,105,115,112]
def bI1:au UInt8:=[117,115,101,114]
def sZ(s:G.Y):Bool:=(ak (s.package=bN9)||ak (s.package=bI1))&&aq 1 s.name.length&&aq s.name.length 20
def bJH(s:G.Y):Bool:=sZ s
def a6A(t:au UInt8):Bool:=aq t.length 10
def numL:au (au UInt8×au UInt8):=[([48],[49]),([49],[49]),([50],[49]),([51],[49]),([45,49],[49]),([45,50],[49]),([45,51],[49]),([49],[50]),([45,53],[51])]
def a1r(n d:au UInt8):Bool:=numL.any λp=>decide (n=p.1)&&ak (d=p.2)
def wS(s:G.Y):Nat:=bif sZ s then 0 else 1000000000
def Uc{w:au UInt8}(h1:1<=w.length)(h2:w.length<=20):sZ ⟨bI1,w⟩=ah:=by simp[sZ,Nat.ble_eq,h1,h2]
def a1p{w:au UInt8}(h1:1<=w.length)(h2:w.length<=20):sZ ⟨bN9,w⟩=ah:=by simp[sZ,Nat.ble_eq,h1,h2]
def bBu{w:au UInt8}(h1:1<=w.length)(h2:w.length<=20):bJH ⟨bI1,w⟩=ah:=Uc h1 h2
def a1q(k:Int)(n d:au UInt8)(s:G.Y)(t:au UInt8)(l:au G.O):Bool:=
 decide (k=0)&&n.isEmpty&&d.isEmpty&&ak (s=⟨[],[]⟩)&&t.isEmpty&&l.isEmpty||ak (k=1)&&a1r n d&&ak (s=⟨[],[]⟩)&&t.isEmpty&&l.isEmpty||ak (k=2)&&sZ s&&n.isEmpty&&d.isEmpty&&t.isEmpty&&l.isEmpty||
 decide (k=3)&&a6A t&&n.isEmpty&&d.isEmpty&&ak (s=⟨[],[]⟩)&&l.isEmpty||ak (k=4)&&n.isEmpty&&d.isEmpty&&ak (s=⟨[],[]⟩)&&t.isEmpty&&ak (l.length=2)
def Sy(k:Int)(n d:au UInt8)(s:G.Y)(t:au UInt8)(l:au G.O):Nat:=bif a1q k n d s t l then 0 else 1000000000
def a5c(s:G.Y):Sy 2 [] [] s [] []=wS s:=by
 unfold Sy a1q wS;cases sZ s<;>rfl
def a5d(w:au UInt8)(h:a6A w=ah):Sy 3 [] [] ⟨[],[]⟩ w []=0:=by
 unfold Sy a1q;rw[h];rfl
def yD(a b:G.O):Sy 4 [] [] ⟨[],[]⟩ [] [a,b]=0:=rfl
def Bd(o:G.O):Nat:=bif ak (o.kind=0)then 1000000000 else 0
def vG(n d:au UInt8)(s:G.Y)(t:au UInt8)(l:au G.O):Bd ⟨2,n,d,s,t,l⟩=0:=rfl
def a5e(n d:au UInt8)(s:G.Y)(t:au UInt8)(l:au G.O):Bd ⟨3,n,d,s,t,l⟩=0:=rfl
def yE(n d:au UInt8)(s:G.Y)(t:au UInt8)(l:au G.O):Bd ⟨4,n,d,s,t,l⟩=0:=rfl
mutual
def kY:G.O->Nat
 |⟨k,n,d,s,t,l⟩=>2+jD l+Sy k n d s t l
def jD:au G.O->Nat
 |[]=>0
 |o::l=>kY o+Bd o+jD l+1
end
def aGG{o:G.O}(h:kY o<1000000000):a1q o.kind o.num o.den o.sym o.text o.pair=ah:=by
 cases o with|mk k n d s t l=>
 simp only[kY,Sy]at h;cases e:a1q k n d s t l with
 |true=>exact e
 |false=>rw[e,aJ]at h;omega
def eV{k:Nat}(h:k<4000000000000000000):ez.wrap ((k:Int)+1)=((k+1:Nat):Int):=by
 unfold IntKind.wrap;simp[IntKind.bits,IntKind.signed];omega
def cH{N:Type}(l:au N)(k:Nat):dK l (k:Int)=l[k]?:=by
 unfold dK;have:ak (0<=(k:Int))=ah:=by simp
 rw[this];rfl
def eW{W:Type}{b:Bool}{K:Bool×Unit->f9 W}:eP (aa [yB b]) K=K (b,()):=rfl
def cR{N W:Type}{x:N}{K:N->f9 W}:ob (aa x) K=K x:=rfl
def bV{W:Type}{A B:f9 W}:bW ah A B=A:=rfl
def bS{W:Type}{A B:f9 W}:bW aj A B=B:=rfl
def cZ{N:Type}{l:au N}{k:Nat}{x:N}{r:au N}(h:l.drop k=x::r):l[k]?=aa x/\k<l.length/\l.drop (k+1)=r:=by
 refine⟨?_,?_,?_⟩
 .rw[<-List.head?_drop,h];rfl
 .have:=congrArg am h;simp at this;omega
 .rw[<-List.tail_drop,h];rfl
def cX{N:Type}{l:au N}{k:Nat}(h:l.drop k=[]): ¬k<l.length:=by
 have:=congrArg am h;simp at this;omega
def oo(a b:G.O):nO:=[yR 2 a,yR 2 b]
def bb(b:Bool):nO:=[yB b]
def aEj(a:G.O):Prop:=kY a<1000000000
def LH: ∀(l:au G.O),l.length<=jD l
 |[]=>aS _
 |o::l=>by have:=LH l;simp only[aM,jD];omega
def lB: ∀{l:au G.O} {x:G.O},x∈l->kY x<=jD l
 |o::l,x,h=>by
  simp only[jD];cases h with
  |head=>omega
  |tail _ h=>have:=lB h;omega
def tZ{P:G.T->Prop}(h: ∀k n v l,(∀o∈l,P o)->P ⟨k,n,v,l⟩): ∀o,P o:=λo=>
 G.T.rec (motive_1:=P) (motive_2:=λl=> ∀o∈l,P o) (λk n v l ih=>h k n v l ih) (λo ho=>by cases ho)
  (λo l h1 h2 x hx=>by
   cases hx with
   |head=>exact h1
   |tail _ hx=>exact h2 x hx) o
instance:DecidableEq G.T:=λa b=>Classical.propDecidable _
def Ro(k:Int)(n:G.Y)(v:G.O)(l:au G.T):Bool:=
 decide (k=1)&&bJH n&&ak (v.kind=0)&&l.isEmpty||ak (k=2)&&ak (n=⟨[],[]⟩)&&l.isEmpty&& !decide (v.kind=0)||ak (k=3)&&sZ n&&aq l.length 8&&ak (v.kind=0)
def OA(k:Int)(n:G.Y)(v:G.O)(l:au G.T):Nat:=bif Ro k n v l then 0 else 1000000000
mutual
def hJ:G.T->Nat
 |⟨k,n,v,l⟩=>4+kY v+fA l+OA k n v l
def fA:au G.T->Nat
 |[]=>0
 |o::l=>hJ o+fA l+1
end
def aAL{t:G.T}(h:hJ t<1000000000):Ro t.kind t.name t.value t.args=ah:=by
 cases t with|mk k n v l=>
 simp only[hJ,OA]at h;cases e:Ro k n v l with
 |true=>exact e
 |false=>rw[e,aJ]at h;omega
def mE: ∀(l:au G.T),l.length<=fA l
 |[]=>aS _
 |o::l=>by have:=mE l;simp only[aM,fA];omega
def fE: ∀{l:au G.T} {x:G.T},x∈l->hJ x<=fA l
 |o::l,x,h=>by
  simp only[fA];cases h with
  |head=>omega
  |tail _ h=>have:=fE h;omega
def aSz(a b:G.T):nO:=[yR 3 a,yR 3 b]
def bOm(a b:au G.T):nO:=[yS 3 a,yS 3 b]
def aNv(a:G.T):Prop:=hJ a<1000000000
def aGN{W:Type}{b:au G.T}{K:au G.T×Unit->f9 W}:gO (D:=U0.D) [.sl (.rc 3)] (aa [yS 3 b]) K=K (b,()):=rfl
def fN{W:Type}{A:f9 W}:lZ ah A=A:=rfl
def aEe{k:Nat}(h:k<4000000000000000000):ez.wrap (k:Int)=(k:Int):=by
 unfold IntKind.wrap;simp[IntKind.bits,IntKind.signed];omega
def bJX(a:au G.T)(t:G.T):nO:=[yS 3 a,yR 3 t]
def aNI(a:au G.T):nO:=[yS 3 a]
noncomputable section
variable(c:cG)(e:Cu)(L:Nat)
def E9(c:cG)(e:Cu):Kt:=xK lX
def aF2:Kt:=xT lX c e (pw 4 15) (E9 c e)
def aF1:Kt:=xT lX c e (pw 6 47) (E9 c e)
def a0v:Kt:=xT lX c e (pw 7 111) (E9 c e)
def Lt:Kt:=dM U0 0 (a0v c e)
def a0u(n4:Nt):Kt:=iL U0 zZ n4 (Lt c e)
def a0t(n4:Nt):Kt:=xT lX c e (pw 12 3247) (a0u c e n4)
def aF0(n4:Nt):Kt:=dM U0 1 (a0t c e n4)
def YE(c:cG)(b:Bool->Int->au UInt8->Rt)(a:au UInt8):Rt:=
 bW (ak (a=[48])) (aa [yB ah]) (bW (ak ((0:Int)<(am a:Int))) (ob (dK a 0) λd=>
 b (ak ((d.toNat:Int)=45)) 0 a) (b aj 0 a))
def Qa(c:cG)(a:Int->au UInt8->Rt)(d:Bool)(f:Int)(b:au UInt8):Rt:=
 bW d (a 1 b) (a f b)
def WM:=sI (xD lX e (pw 6 23) M9 (aF2 c e))
def YD(c:cG)(d:Bool->Int->au UInt8->Rt)(a:Int)(b:au UInt8):Rt:=
 bW (ak ((am b:Int)<=a)) (d ah a b) (ob (dK b a) λf=>
 d (ak ((f.toNat:Int)=48)) a b)
def WL:=Pe (xD lX e (pw 5 15) M8 (E9 c e))
def P9(c:cG)(a:au UInt8->Int->Rt)(b:Bool)(d:Int)(f:au UInt8):Rt:=
 bW b (aa [yB aj]) (a f d)
def WK:=sI (xD lX e (pw 8 79) M7 (aF1 c e))
def P8(c:cG)(d:Bool->Int->au UInt8->Rt)(a:au UInt8)(b:Int):Rt:=
 bW (ak (b<(am a:Int))) (ob (dK a b) λf=>
 bW (ak ((f.toNat:Int)<48)) (d ah b a) (ob (dK a b) λg=>
 d (ak ((57:Int)<(g.toNat:Int))) b a)) (aa [yB ah])
def aJV:=eN (xE lX e (pw 10 175) zZ (Lt c e))
def P7(c:cG)(a:au UInt8->Int->Rt)(b:Bool)(d:Int)(f:au UInt8):Rt:=
 bW b (aa [yB aj]) (a f (ez.wrap (d+1)))
def WJ(n4:Nt):=sI (xD lX e (pw 15 9391) M6 (aF0 c e n4))
def aYB:kT (xF lX c e)=YE c (WM c e):=by kernel_rfl
def aYA:sI (xA lX c e (pw 6 23) M9 (aF2 c e))=Qa c (WL c e):=by kernel_rfl
def aYz:Pe (xA lX c e (pw 5 15) M8 (E9 c e))=YD c (WK c e):=by kernel_rfl
def aYy:sI (xA lX c e (pw 8 79) M7 (aF1 c e))=P9 c (aJV c e):=by kernel_rfl
def aYx(n4:Nt):eN (xA lX c e (pw 10 175) zZ (iL U0 zZ n4 (Lt c e)))=P8 c (WJ c e n4):=by kernel_rfl
def aYw(n4:Nt):sI (xA lX c e (pw 15 9391) M6 (aF0 c e n4))=P7 c (eN n4):=by kernel_rfl
def PB(L:Nat)(n4:au UInt8->Int->Rt):Bool->Int->au UInt8->Rt:=P7 c n4
def a2T(n4:Nt):WJ c (cu c L) n4=PB c L (eN n4):=by rw[WJ,cI,aYw];rfl
def Bi(c:cG)(L:Nat):Nat->au UInt8->Int->Rt
 |0=>λ_ _=>ae
 |n+1=>P8 c (PB c L (Bi c L n))
def aWL(n:Nat):eN (xL lX c L (pw 10 175) zZ (Lt c (cu c L)) n)=Bi c L n:=by
 induction n with
 |zero=>rfl
 |succ n ih=>rw[fO,aYx];simp only[a2T,ih];rfl
def aWc:aJV c (cu c L)=Bi c L L:=aWL c L L
def PD:Bool->Int->au UInt8->Rt:=P9 c (Bi c L L)
def a2U:WK c (cu c L)=PD c L:=by rw[WK,cI,aYy];simp only[aWc];rfl
def PE:Int->au UInt8->Rt:=YD c (PD c L)
def a2V:WL c (cu c L)=PE c L:=by rw[WL,cI,aYz];simp only[a2U];rfl
def PF:Bool->Int->au UInt8->Rt:=Qa c (PE c L)
def a2W:WM c (cu c L)=PF c L:=by rw[WM,cI,aYA];simp only[a2V];rfl
def aR3:au UInt8->Rt:=YE c (PF c L)
def bMC:kT (xF lX c (cu c L))=aR3 c L:=by rw[aYB];simp only[a2W];rfl
def bFC(a:au UInt8)(L n:Nat):cA L (n+1) 139 [yT a]=aR3 (cA L n) L a:=by rw[<-bMC];exact cz (x:=lX) (by kernel_rfl) L n _
def a0s(c:cG)(e:Cu):Kt:=xK vT
def a0r:Kt:=xT vT c e [1,1,1] (a0s c e)
def Ls:Kt:=dM U0 0 (a0r c e)
def a0q(n1:Nt):Kt:=iL U0 zY n1 (Ls c e)
def aFZ(n1:Nt):Kt:=xT vT c e (pw 6 35) (a0q c e n1)
def YC(c:cG)(b:au Int->Int->Rt)(a:au Int):Rt:=
 b a (am a:Int)
def aKr(n:Nt):au Int->Rt:=λx0=>n [⟨.sl i6,x0⟩]
def P6(c:cG)(d:Bool->au Int->Int->Rt)(b:au Int)(a:Int):Rt:=
 bW (ak ((0:Int)<a)) (ob (dK b (ez.wrap (a-1))) λf=>
 d (ak (f=0)) b a) (d aj b a)
def G1(n:Nt):au Int->Int->Rt:=λx0 x1=>n [⟨.sl i6,x0⟩,yI x1]
def aJU:=G1 (xE vT e (pw 5 3) zY (Ls c e))
def HP(c:cG)(d:au Int->Int->Rt)(f:Bool)(a:au Int)(b:Int):Rt:=
 bW f (d a (ez.wrap (b-1))) (ob (slc a 0 b) λg=>
 aa [⟨.sl i6,g⟩])
def aKq(n:Nt):Bool->au Int->Int->Rt:=λx0 x1 x2=>n [yB x0,⟨.sl i6,x1⟩,yI x2]
def WI(n1:Nt):=aKq (xD vT e (pw 8 67) M5 (aFZ c e n1))
def aYv:aKr (xF vT c e)=YC c (aJU c e):=by kernel_rfl
def aYu(n1:Nt):G1 (xA vT c e (pw 5 3) zY (iL U0 zY n1 (Ls c e)))=P6 c (WI c e n1):=by kernel_rfl
def aYt(n1:Nt):aKq (xA vT c e (pw 8 67) M5 (aFZ c e n1))=HP c (G1 n1):=by kernel_rfl
def HC(L:Nat)(n1:au Int->Int->Rt):Bool->au Int->Int->Rt:=HP c n1
def a2S(n1:Nt):WI c (cu c L) n1=HC c L (G1 n1):=by rw[WI,cI,aYt];rfl
def Bh(c:cG)(L:Nat):Nat->au Int->Int->Rt
 |0=>λ_ _=>ae
 |n+1=>P6 c (HC c L (Bh c L n))
def aWK(n:Nat):G1 (xL vT c L (pw 5 3) zY (Ls c (cu c L)) n)=Bh c L n:=by
 induction n with
 |zero=>rfl
 |succ n ih=>rw[fO,aYu];simp only[a2S,ih];rfl
def aWb:aJU c (cu c L)=Bh c L L:=aWK c L L
def aR2:au Int->Rt:=YC c (Bh c L L)
def bMB:aKr (xF vT c (cu c L))=aR2 c L:=by rw[aYv];simp only[aWb];rfl
def bFB(a:au Int)(L n:Nat):cA L (n+1) 140 [⟨.sl i6,a⟩]=aR2 (cA L n) L a:=by rw[<-bMB];exact cz (x:=vT) (by kernel_rfl) L n _
def a0p(c:cG)(e:Cu):Kt:=xK BR
def a0o:Kt:=xT BR c e [1,1,1] (a0p c e)
def TQ:Kt:=dM U0 0 (a0o c e)
def YB(c:cG)(d:au Int->au Int->Int->Rt)(a:au Int)(b:au Int):Rt:=
 bW (!decide ((am a:Int)=(am b:Int))) (bW (ak ((am a:Int)<(am b:Int))) (aa [yI (-1)]) (aa [yI 1])) (d a b (ez.wrap ((am a:Int)-1)))
def P5(c:cG)(f:au Int->au Int->Int->Rt)(b:au Int)(d:au Int)(a:Int):Rt:=
 bW (ak ((0:Int)<=a)) (ob (dK b a) λg=>
 ob (dK d a) λh=>
 bW (ak (g<h)) (aa [yI (-1)]) (ob (dK b a) λi=>
 ob (dK d a) λj=>
 bW (ak (j<i)) (aa [yI 1]) (f b d (ez.wrap (a-1))))) (aa [yI 0])
def Pc(n:Nt):au Int->au Int->Int->Rt:=λx0 x1 x2=>n [⟨.sl i6,x0⟩,⟨.sl i6,x1⟩,yI x2]
def aJT:=Pc (xE BR e (pw 6 11) B7 (TQ c e))
def aYs:mS (xF BR c e)=YB c (aJT c e):=by kernel_rfl
def aYr(n1:Nt):Pc (xA BR c e (pw 6 11) B7 (iL U0 B7 n1 (TQ c e)))=P5 c (Pc n1):=by kernel_rfl
def Bg(c:cG)(L:Nat):Nat->au Int->au Int->Int->Rt
 |0=>λ_ _ _=>ae
 |n+1=>P5 c (Bg c L n)
def aWJ(n:Nat):Pc (xL BR c L (pw 6 11) B7 (TQ c (cu c L)) n)=Bg c L n:=by
 induction n with
 |zero=>rfl
 |succ n ih=>rw[fO,aYr];simp only[ih];rfl
def aWa:aJT c (cu c L)=Bg c L L:=aWJ c L L
def aR1:au Int->au Int->Rt:=YB c (Bg c L L)
def bMA:mS (xF BR c (cu c L))=aR1 c L:=by rw[aYs];simp only[aWa];rfl
def bFA(a:au Int)(b:au Int)(L n:Nat):cA L (n+1) 141 [⟨.sl i6,a⟩,⟨.sl i6,b⟩]=aR1 (cA L n) L a b:=by rw[<-bMA];exact cz (x:=BR) (by kernel_rfl) L n _
def a0n(c:cG)(e:Cu):Kt:=xK rJ
def a0m:Kt:=xT rJ c e (pw 4 15) (a0n c e)
def Lr:Kt:=dM U0 0 (a0m c e)
def a0l(n1:Nt):Kt:=iL U0 zX n1 (Lr c e)
def a0k(n1:Nt):Kt:=xT rJ c e (pw 9 407) (a0l c e n1)
def Lq(n1:Nt):Kt:=dM U0 1 (a0k c e n1)
def YA(c:cG)(a:au Int->Int->au Int->Int->au Int->Rt)(b:au Int)(d:au Int):Rt:=
 a b 0 d 0 ([]:au Int)
def P4(g:au Int->Int->Int->au Int->au Int->Rt)(b:au Int)(h:Int)(d:au Int)(a:Int)(f:au Int):Rt:=
 bW (ak (a<(am b:Int))) (ob (dK b a) λi=>
 bW (ak (a<(am d:Int))) (ob (dK d a) λj=>
 g f (ez.wrap ((ez.wrap (i-h))-j)) a b d) (g f (ez.wrap (i-h)) a b d)) (tE (c 140 [⟨.sl i6,f⟩]) λl=>
 aa [⟨.sl i6,l.1⟩])
def C6(n:Nt):au Int->Int->au Int->Int->au Int->Rt:=λx0 x1 x2 x3 x4=>n [⟨.sl i6,x0⟩,yI x1,⟨.sl i6,x2⟩,yI x3,⟨.sl i6,x4⟩]
def aJS:=C6 (xE rJ e (pw 7 23) zX (Lr c e))
def X9(c:cG)(b:au Int->Int->Int->au Int->Int->au Int->Rt)(d:au Int)(a:Int)(f:Int)(g:au Int)(h:au Int):Rt:=
 bW (ak (a<0)) (b d (ez.wrap (a+10)) f g 1 h) (b d a f g 0 h)
def WH(n1:Nt):=C5 (xD rJ e (pw 13 3223) M4 (Lq c e n1))
def P3(c:cG)(d:au Int->Int->au Int->Int->au Int->Rt)(a:au Int)(b:Int)(f:Int)(g:au Int)(h:Int)(i:au Int):Rt:=
 lZ (aq ((am a+am ([b]:au Int))*8) 1073741824)<|
 d g h i (ez.wrap (f+1)) (a++([b]:au Int))
def aKp(n:Nt):au Int->Int->Int->au Int->Int->au Int->Rt:=λx0 x1 x2 x3 x4 x5=>n [⟨.sl i6,x0⟩,yI x1,yI x2,⟨.sl i6,x3⟩,yI x4,⟨.sl i6,x5⟩]
def WG(n1:Nt):=aKp (xD rJ e (pw 16 27799) MZ (Lq c e n1))
def aYq:mS (xF rJ c e)=YA c (aJS c e):=by kernel_rfl
def aYp(n1:Nt):C6 (xA rJ c e (pw 7 23) zX (iL U0 zX n1 (Lr c e)))=P4 c (WH c e n1):=by kernel_rfl
def aYo(n1:Nt):C5 (xA rJ c e (pw 13 3223) M4 (Lq c e n1))=X9 c (WG c e n1):=by kernel_rfl
def aYn(n1:Nt):aKp (xA rJ c e (pw 16 27799) MZ (Lq c e n1))=P3 c (C6 n1):=by kernel_rfl
def Pz(L:Nat)(n1:au Int->Int->au Int->Int->au Int->Rt):au Int->Int->Int->au Int->Int->au Int->Rt:=P3 c n1
def a2Q(n1:Nt):WG c (cu c L) n1=Pz c L (C6 n1):=by rw[WG,cI,aYn];rfl
def PA(n1:au Int->Int->au Int->Int->au Int->Rt):au Int->Int->Int->au Int->au Int->Rt:=X9 c (Pz c L n1)
def a2R(n1:Nt):WH c (cu c L) n1=PA c L (C6 n1):=by rw[WH,cI,aYo];simp only[a2Q];rfl
def yP(c:cG)(L:Nat):Nat->au Int->Int->au Int->Int->au Int->Rt
 |0=>λ_ _ _ _ _=>ae
 |n+1=>P4 c (PA c L (yP c L n))
def aWI(n:Nat):C6 (xL rJ c L (pw 7 23) zX (Lr c (cu c L)) n)=yP c L n:=by
 induction n with
 |zero=>rfl
 |succ n ih=>rw[fO,aYp];simp only[a2R,ih];rfl
def aV9:aJS c (cu c L)=yP c L L:=aWI c L L
def aR0:au Int->au Int->Rt:=YA c (yP c L L)
def bMz:mS (xF rJ c (cu c L))=aR0 c L:=by rw[aYq];simp only[aV9];rfl
def bFz(a:au Int)(b:au Int)(L n:Nat):cA L (n+1) 142 [⟨.sl i6,a⟩,⟨.sl i6,b⟩]=aR0 (cA L n) L a b:=by rw[<-bMz];exact cz (x:=rJ) (by kernel_rfl) L n _
def aMQ(a:G.O):Rt:=
 bW (ak (a.kind=1)) (aa [yR 2 a]) (eE (c 52 [yI 0]) λb=>
 aa [yR 2 b.1])
def aRZ(L:Nat):G.O->Rt:=aMQ c
def bMy:fG (xF aHG c (cu c L))=aRZ c L:=by kernel_rfl
def bFy(a:G.O)(L n:Nat):cA L (n+1) 143 [yR 2 a]=aRZ (cA L n) L a:=by rw[<-bMy];exact cz (x:=aHG) (by kernel_rfl) L n _
def aMP(a:Bool):Rt:=
 bW a (eE (c 51 []) λb=>
 aa [yR 2 b.1]) (eE (c 25 []) λd=>
 aa [yR 2 d.1])
def aRY(L:Nat):Bool->Rt:=aMP c
def bMx:dX (xF aHF c (cu c L))=aRY c L:=by kernel_rfl
def bFx(a:Bool)(L n:Nat):cA L (n+1) 144 [yB a]=aRY (cA L n) L a:=by rw[<-bMx];exact cz (x:=aHF) (by kernel_rfl) L n _
def aFY(c:cG)(e:Cu):Kt:=xK FO
def X8(c:cG)(a:Bool->Rt)(b:G.O):Rt:=
 bW (ak (b.kind=1)) (a (ak (b.den=[49]))) (a aj)
def aMO(c:cG)(a:Bool):Rt:=
 aa [yB a]
def WF:=dX (xD FO e [1,1,0] MY (aFY c e))
def aYm:fG (xF FO c e)=X8 c (WF c e):=by kernel_rfl
def aYl:dX (xA FO c e [1,1,0] MY (aFY c e))=aMO c:=by kernel_rfl
def aLg(L:Nat):Bool->Rt:=aMO c
def a2P:WF c (cu c L)=aLg c L:=by rw[WF,cI,aYl];rfl
def aRX:G.O->Rt:=X8 c (aLg c L)
def bMw:fG (xF FO c (cu c L))=aRX c L:=by rw[aYm];simp only[a2P];rfl
def bFw(a:G.O)(L n:Nat):cA L (n+1) 145 [yR 2 a]=aRX (cA L n) L a:=by rw[<-bMw];exact cz (x:=FO) (by kernel_rfl) L n _
def aMN(b:G.O):Rt:=
 eE (c 143 [yR 2 b]) λa=>
 kN (c 179 [yT a.1.num]) λd=>
 eE (c 53 [yT d.1,yT a.1.den]) λf=>
 aa [yR 2 f.1]
def aRW(L:Nat):G.O->Rt:=aMN c
def bMv:fG (xF aHE c (cu c L))=aRW c L:=by kernel_rfl
def bFv(a:G.O)(L n:Nat):cA L (n+1) 146 [yR 2 a]=aRW (cA L n) L a:=by rw[<-bMv];exact cz (x:=aHE) (by kernel_rfl) L n _
def aMM(b:G.O):Rt:=
 eE (c 143 [yR 2 b]) λa=>
 eE (c 53 [yT a.1.den,yT a.1.num]) λd=>
 aa [yR 2 d.1]
def aRV(L:Nat):G.O->Rt:=aMM c
def bMu:fG (xF aHD c (cu c L))=aRV c L:=by kernel_rfl
def bFu(a:G.O)(L n:Nat):cA L (n+1) 147 [yR 2 a]=aRV (cA L n) L a:=by rw[<-bMu];exact cz (x:=aHD) (by kernel_rfl) L n _
def TO(c:cG)(e:Cu):Kt:=xK AD
def aFX:Kt:=xT AD c e (pw 6 63) (TO c e)
def X7(f:Bool->au Int->Bool->au Int->Bool->au Int->Rt)(g:au UInt8)(h:au UInt8):Rt:=
 An (c 107 [yT g]) λb=>
 An (c 107 [yT h]) λa=>
 bW (ak ((am a.2.1:Int)=0)) (kN (c 110 [yB b.1,⟨.sl i6,b.2.1⟩]) λi=>
 aa [yT [48],yT i.1]) (gO [.sl i6,.sl i6] (c 109 [⟨.sl i6,b.2.1⟩,⟨.sl i6,a.2.1⟩]) λ(d:au Int×au Int×Unit)=>
 bW (!(b.1==a.1)) (f (ak ((0:Int)<(am d.2.1:Int))) a.2.1 b.1 d.1 a.1 d.2.1) (f aj a.2.1 b.1 d.1 a.1 d.2.1))
def HO(a:Bool->au Int->Bool->au Int->Rt)(h:Bool)(i:au Int)(b:Bool)(d:au Int)(f:Bool)(g:au Int):Rt:=
 bW h (tE (c 180 [⟨.sl i6,d⟩,⟨.sl i6,([(1:Int)]:au Int)⟩]) λj=>
 tE (c 142 [⟨.sl i6,i⟩,⟨.sl i6,g⟩]) λl=>
 a b j.1 f l.1) (a b d f g)
def aKo(n:Nt):Bool->au Int->Bool->au Int->Bool->au Int->Rt:=λx0 x1 x2 x3 x4 x5=>n [yB x0,⟨.sl i6,x1⟩,yB x2,⟨.sl i6,x3⟩,yB x4,⟨.sl i6,x5⟩]
def WE:=aKo (xD AD e (pw 8 95) MX (aFX c e))
def HN(b:Bool)(d:au Int)(a:Bool)(f:au Int):Rt:=
 kN (c 110 [yB (!(b==a)),⟨.sl i6,d⟩]) λg=>
 kN (c 110 [yB a,⟨.sl i6,f⟩]) λh=>
 aa [yT g.1,yT h.1]
def aKn(n:Nt):Bool->au Int->Bool->au Int->Rt:=λx0 x1 x2 x3=>n [yB x0,⟨.sl i6,x1⟩,yB x2,⟨.sl i6,x3⟩]
def WD:=aKn (xD AD e (pw 7 63) MW (TO c e))
def aYk:sH (xF AD c e)=X7 c (WE c e):=by kernel_rfl
def aYj:aKo (xA AD c e (pw 8 95) MX (aFX c e))=HO c (WD c e):=by kernel_rfl
def aYi:aKn (xA AD c e (pw 7 63) MW (TO c e))=HN c:=by kernel_rfl
def HA(L:Nat):Bool->au Int->Bool->au Int->Rt:=HN c
def a2N:WD c (cu c L)=HA c L:=by rw[WD,cI,aYi];rfl
def HB:Bool->au Int->Bool->au Int->Bool->au Int->Rt:=HO c (HA c L)
def a2O:WE c (cu c L)=HB c L:=by rw[WE,cI,aYj];simp only[a2N];rfl
def aRU:au UInt8->au UInt8->Rt:=X7 c (HB c L)
def bMt:sH (xF AD c (cu c L))=aRU c L:=by rw[aYk];simp only[a2O];rfl
def bFt(a:au UInt8)(b:au UInt8)(L n:Nat):cA L (n+1) 148 [yT a,yT b]=aRU (cA L n) L a b:=by rw[<-bMt];exact cz (x:=AD) (by kernel_rfl) L n _
def aML(c:cG)(a:G.O):Rt:=
 bW (ak (a.kind=3)) (aa [yT a.text]) (aa [yT []])
def aRT(L:Nat):G.O->Rt:=aML c
def bMs:fG (xF aHC c (cu c L))=aRT c L:=by kernel_rfl
def bFs(a:G.O)(L n:Nat):cA L (n+1) 149 [yR 2 a]=aRT (cA L n) L a:=by rw[<-bMs];exact cz (x:=aHC) (by kernel_rfl) L n _
def a0j(c:cG)(e:Cu):Kt:=xK Ds
def aFW:Kt:=xT Ds c e (pw 4 15) (a0j c e)
def X6(b:Bool->Int->Rt)(d:G.O):Rt:=
 eP (c 145 [yR 2 d]) λf=>
 bW (!f.1) (aa [⟨(.int .u8),0⟩,yB aj]) (xI (c 181 [yT d.num]) λa=>
 bW (!a.2.1) (b ah a.1) (bW (ak (a.1<0)) (b ah a.1) (b (ak ((255:Int)<a.1)) a.1)))
def X5(c:cG)(a:Bool)(b:Int):Rt:=
 bW a (aa [⟨(.int .u8),0⟩,yB aj]) (aa [⟨(.int .u8),(IntKind.u8.wrap b)⟩,yB ah])
def WC:=Pb (xD Ds e (pw 6 23) MV (aFW c e))
def aYh:fG (xF Ds c e)=X6 c (WC c e):=by kernel_rfl
def aYg:Pb (xA Ds c e (pw 6 23) MV (aFW c e))=X5 c:=by kernel_rfl
def Xw(L:Nat):Bool->Int->Rt:=X5 c
def a2M:WC c (cu c L)=Xw c L:=by rw[WC,cI,aYg];rfl
def aRS:G.O->Rt:=X6 c (Xw c L)
def bMr:fG (xF Ds c (cu c L))=aRS c L:=by rw[aYh];simp only[a2M];rfl
def bFr(a:G.O)(L n:Nat):cA L (n+1) 150 [yR 2 a]=aRS (cA L n) L a:=by rw[<-bMr];exact cz (x:=Ds) (by kernel_rfl) L n _
def aMK(d:G.O)(f:G.O):Rt:=
 eE (c 143 [yR 2 d]) λa=>
 eE (c 143 [yR 2 f]) λb=>
 kN (c 182 [yT a.1.num,yT b.1.den]) λg=>
 kN (c 182 [yT b.1.num,yT a.1.den]) λh=>
 kN (c 183 [yT g.1,yT h.1]) λi=>
 kN (c 182 [yT a.1.den,yT b.1.den]) λj=>
 eE (c 53 [yT i.1,yT j.1]) λl=>
 aa [yR 2 l.1]
def aRR(L:Nat):G.O->G.O->Rt:=aMK c
def bMq:iK (xF aHB c (cu c L))=aRR c L:=by kernel_rfl
def bFq(a:G.O)(b:G.O)(L n:Nat):cA L (n+1) 151 [yR 2 a,yR 2 b]=aRR (cA L n) L a b:=by rw[<-bMq];exact cz (x:=aHB) (by kernel_rfl) L n _
def aMJ(d:G.O)(f:G.O):Rt:=
 eE (c 143 [yR 2 d]) λa=>
 eE (c 143 [yR 2 f]) λb=>
 kN (c 182 [yT a.1.num,yT b.1.num]) λg=>
 kN (c 182 [yT a.1.den,yT b.1.den]) λh=>
 eE (c 53 [yT g.1,yT h.1]) λi=>
 aa [yR 2 i.1]
def aRQ(L:Nat):G.O->G.O->Rt:=aMJ c
def bMp:iK (xF aHA c (cu c L))=aRQ c L:=by kernel_rfl
def bFp(a:G.O)(b:G.O)(L n:Nat):cA L (n+1) 152 [yR 2 a,yR 2 b]=aRQ (cA L n) L a b:=by rw[<-bMp];exact cz (x:=aHA) (by kernel_rfl) L n _
def aMI(a:G.O)(b:G.O):Rt:=
 eE (c 143 [yR 2 a]) λd=>
 eE (c 143 [yR 2 b]) λf=>
 iO (c 184 [yR 2 d.1,yR 2 f.1]) λg=>
 aa [yB (ak (g.1<0))]
def aRP(L:Nat):G.O->G.O->Rt:=aMI c
def bMo:iK (xF aHz c (cu c L))=aRP c L:=by kernel_rfl
def bFo(a:G.O)(b:G.O)(L n:Nat):cA L (n+1) 153 [yR 2 a,yR 2 b]=aRP (cA L n) L a b:=by rw[<-bMo];exact cz (x:=aHz) (by kernel_rfl) L n _
def aMH(a:G.Y):Rt:=
 eP (c 185 [yR 1 a]) λb=>
 aa [yB b.1]
def aRO(L:Nat):G.Y->Rt:=aMH c
def bMn:qS (xF aHy c (cu c L))=aRO c L:=by kernel_rfl
def bFn(a:G.Y)(L n:Nat):cA L (n+1) 154 [yR 1 a]=aRO (cA L n) L a:=by rw[<-bMn];exact cz (x:=aHy) (by kernel_rfl) L n _
def aFV(c:cG)(e:Cu):Kt:=xK xQ
def aFU:Kt:=xT xQ c e [1,1] (aFV c e)
def aFT:Kt:=xT xQ c e (pw 4 15) (aFV c e)
def X4(d:Bool->G.O->G.O->Rt)(a:G.O)(b:G.O):Rt:=
 bW (!decide (a.kind=3)) (d ah b a) (eP (c 145 [yR 2 b]) λf=>
 d (!f.1) b a)
def X3(b:Bool->Int->Rt)(d:Bool)(f:G.O)(g:G.O):Rt:=
 bW d (aa [yI 0,yB aj]) (xI (c 181 [yT f.num]) λa=>
 bW (!a.2.1) (b ah a.1) (bW (ak (a.1<0)) (b ah a.1) (b (ak ((am g.text:Int)<=a.1)) a.1)))
def WB:=yV (xD xQ e (pw 4 5) MU (aFU c e))
def X2(c:cG)(a:Bool)(b:Int):Rt:=
 bW a (aa [yI 0,yB aj]) (aa [yI b,yB ah])
def WA:=Pb (xD xQ e (pw 6 23) MT (aFT c e))
def aYf:iK (xF xQ c e)=X4 c (WB c e):=by kernel_rfl
def aYe:yV (xA xQ c e (pw 4 5) MU (aFU c e))=X3 c (WA c e):=by kernel_rfl
def aYd:Pb (xA xQ c e (pw 6 23) MT (aFT c e))=X2 c:=by kernel_rfl
def Xu(L:Nat):Bool->Int->Rt:=X2 c
def a2K:WA c (cu c L)=Xu c L:=by rw[WA,cI,aYd];rfl
def Xv:Bool->G.O->G.O->Rt:=X3 c (Xu c L)
def a2L:WB c (cu c L)=Xv c L:=by rw[WB,cI,aYe];simp only[a2K];rfl
def aRN:G.O->G.O->Rt:=X4 c (Xv c L)
def bMm:iK (xF xQ c (cu c L))=aRN c L:=by rw[aYf];simp only[a2L];rfl
def bFm(a:G.O)(b:G.O)(L n:Nat):cA L (n+1) 155 [yR 2 a,yR 2 b]=aRN (cA L n) L a b:=by rw[<-bMm];exact cz (x:=xQ) (by kernel_rfl) L n _
def a0i(c:cG)(e:Cu):Kt:=xK rI
def a0h:Kt:=xT rI c e [1,1,1] (a0i c e)
def wV:Kt:=dM U0 0 (a0h c e)
def P2(b:Bool->Rt)(f:Bool->Rt)(g:Bool->Rt)(d:Bool->Rt)(a:G.O):Rt:=
 bW (ak (a.kind=1)) (gO [.str,.str] (c 82 [yT a.num,yT a.den]) λ(h:au UInt8×au UInt8×Unit)=>
 bW (ak (a.sym=DE)) (bW (ak (a.text=[])) (bW (ak ((am a.pair:Int)=0)) (bW (ak (h.1=a.num)) (bW (ak (h.2.1=a.den)) (iO (c 171 [yT h.1]) λi=>
 bW (ak (i.1<=100)) (iO (c 171 [yT h.2.1]) λj=>
 b (ak (j.1<=100))) (b aj)) (b aj)) (b aj)) (b aj)) (b aj)) (b aj)) (bW (ak (a.kind=2)) (eP (c 185 [yR 1 a.sym]) λl=>
 bW l.1 (bW (ak (a.num=[])) (bW (ak (a.den=[])) (bW (ak (a.text=[])) (f (ak ((am a.pair:Int)=0))) (f aj)) (f aj)) (f aj)) (f aj)) (bW (ak (a.kind=3)) (bW (ak (a.sym=DE)) (bW (ak (a.num=[])) (bW (ak (a.den=[])) (bW (ak ((am a.text:Int)<=200)) (g (ak ((am a.pair:Int)=0))) (g aj)) (g aj)) (g aj)) (g aj)) (bW (ak (a.kind=4)) (bW (ak (a.sym=DE)) (bW (ak (a.num=[])) (bW (ak (a.den=[])) (bW (ak (a.text=[])) (bW (ak ((am a.pair:Int)=2)) (ob (dK a.pair 0) λm=>
 eP (c 156 [yR 2 m]) λo=>
 bW o.1 (ob (dK a.pair 1) λp=>
 eP (c 156 [yR 2 p]) λq=>
 d q.1) (d aj)) (d aj)) (d aj)) (d aj)) (d aj)) (d aj)) (aa [yB aj]))))
def P1(c:cG)(a:Bool):Rt:=
 aa [yB a]
def V9:=dX (xD rI e (pw 10 427) MS (wV c e))
def P0(c:cG)(a:Bool):Rt:=
 aa [yB a]
def V8:=dX (xD rI e (pw 11 747) MQ (wV c e))
def PZ(c:cG)(a:Bool):Rt:=
 aa [yB a]
def V7:=dX (xD rI e (pw 13 3051) MP (wV c e))
def PY(c:cG)(a:Bool):Rt:=
 aa [yB a]
def V6:=dX (xD rI e (pw 15 12267) MO (wV c e))
def aYc:fG (xF rI c e)=P2 c (V9 c e) (V8 c e) (V7 c e) (V6 c e):=by kernel_rfl
def aYb:dX (xA rI c e (pw 10 427) MS (wV c e))=P1 c:=by kernel_rfl
def aYa:dX (xA rI c e (pw 11 747) MQ (wV c e))=P0 c:=by kernel_rfl
def aX9:dX (xA rI c e (pw 13 3051) MP (wV c e))=PZ c:=by kernel_rfl
def aX8:dX (xA rI c e (pw 15 12267) MO (wV c e))=PY c:=by kernel_rfl
def Py(L:Nat):Bool->Rt:=P1 c
def a2J:V9 c (cu c L)=Py c L:=by rw[V9,cI,aYb];rfl
def Px(L:Nat):Bool->Rt:=P0 c
def a2I:V8 c (cu c L)=Px c L:=by rw[V8,cI,aYa];rfl
def Pw(L:Nat):Bool->Rt:=PZ c
def a2H:V7 c (cu c L)=Pw c L:=by rw[V7,cI,aX9];rfl
def Pv(L:Nat):Bool->Rt:=PY c
def a2G:V6 c (cu c L)=Pv c L:=by rw[V6,cI,aX8];rfl
def aLt:G.O->Rt:=P2 c (Py c L) (Px c L) (Pw c L) (Pv c L)
def bMl:fG (xF rI c (cu c L))=aLt c L:=by rw[aYc];simp only[a2J,a2I,a2H,a2G];rfl
def a4V(a:G.O)(L n:Nat):cA L (n+1) 156 [yR 2 a]=aLt (cA L n) L a:=by rw[<-bMl];exact cz (x:=rI) (by kernel_rfl) L n _
def a6l(c:cG)(a:G.O):Rt:=
 aa [yR 3 (G.T.mk 2 DE a ([]:au G.T))]
def bGu(L:Nat):G.O->Rt:=a6l c
def bMk:fG (xF aHx c (cu c L))=bGu c L:=by kernel_rfl
def bNe(a:G.O)(L n:Nat):cA L (n+1) 159 [yR 2 a]=bGu (cA L n) L a:=by rw[<-bMk];exact cz (x:=aHx) (by kernel_rfl) L n _
def aMG:Rt:=
 eE (c 186 [yR 1 (G.Y.mk [108,105,115,112] [116])]) λa=>
 aa [yR 2 a.1]
def a5Y(L:Nat):Rt:=aMG c
def bMj:qR (xF aHw c (cu c L))=a5Y c L:=by kernel_rfl
def bNd(L n:Nat):cA L (n+1) 160 []=a5Y (cA L n) L:=by rw[<-bMj];exact cz (x:=aHw) (by kernel_rfl) L n _
def aFS(c:cG)(e:Cu):Kt:=xK FN
def X1(c:cG)(a:Bool->Rt)(b:Int):Rt:=
 bW (ak (b=32)) (a ah) (bW (ak (b=9)) (a ah) (bW (ak (b=10)) (a ah) (a (ak (b=13)))))
def X0(c:cG)(a:Bool):Rt:=
 aa [yB a]
def V5:=dX (xD FN e [1,1,0] MN (aFS c e))
def aX7:Pa (xF FN c e)=X1 c (V5 c e):=by kernel_rfl
def aX6:dX (xA FN c e [1,1,0] MN (aFS c e))=X0 c:=by kernel_rfl
def Xt(L:Nat):Bool->Rt:=X0 c
def a2F:V5 c (cu c L)=Xt c L:=by rw[V5,cI,aX6];rfl
def a5X:Int->Rt:=X1 c (Xt c L)
def bMi:Pa (xF FN c (cu c L))=a5X c L:=by rw[aX7];simp only[a2F];rfl
def bNc(a:Int)(L n:Nat):cA L (n+1) 162 [⟨(.int .u8),a⟩]=a5X (cA L n) L a:=by rw[<-bMi];exact cz (x:=FN) (by kernel_rfl) L n _
def aFR(c:cG)(e:Cu):Kt:=xK FM
def XZ(c:cG)(a:Bool->Rt)(d:au UInt8)(b:Int)(f:Int)(g:Int):Rt:=
 bW (ak ((0:Int)<=b)) (bW (ak ((ez.wrap (b+1))<(am d:Int))) (ob (dK d b) λh=>
 bW (ak ((h.toNat:Int)=f)) (ob (dK d (ez.wrap (b+1))) λi=>
 a (ak ((i.toNat:Int)=g))) (a aj)) (a aj)) (a aj)
def aKm(n:Nt):au UInt8->Int->Int->Int->Rt:=λx0 x1 x2 x3=>n [yT x0,yI x1,⟨(.int .u8),x2⟩,⟨(.int .u8),x3⟩]
def XY(c:cG)(a:Bool):Rt:=
 aa [yB a]
def V4:=dX (xD FM e [1,1,0] MM (aFR c e))
def aX5:aKm (xF FM c e)=XZ c (V4 c e):=by kernel_rfl
def aX4:dX (xA FM c e [1,1,0] MM (aFR c e))=XY c:=by kernel_rfl
def Xs(L:Nat):Bool->Rt:=XY c
def a2E:V4 c (cu c L)=Xs c L:=by rw[V4,cI,aX4];rfl
def a5W:au UInt8->Int->Int->Int->Rt:=XZ c (Xs c L)
def bMh:aKm (xF FM c (cu c L))=a5W c L:=by rw[aX5];simp only[a2E];rfl
def bNb(a:au UInt8)(b:Int)(d:Int)(f:Int)(L n:Nat):cA L (n+1) 163 [yT a,yI b,⟨(.int .u8),d⟩,⟨(.int .u8),f⟩]=a5W (cA L n) L a b d f:=by rw[<-bMh];exact cz (x:=FM) (by kernel_rfl) L n _
end
noncomputable section
variable(c:cG)(e:Cu)(L:Nat)
def a0g(c:cG)(e:Cu):Kt:=xK Dr
def a0f:Kt:=xT Dr c e [1,1] (a0g c e)
def aFQ:Kt:=dM U0 0 (a0f c e)
def XX(b:Bool->G.K->G.X->Rt)(a:G.K)(d:Bool):Rt:=
 bW (ak ((40:Int)<(am a.text:Int))) (uQ (c 97 [yI 2,yI a.pos]) λf=>
 aa [yR 20 f.1]) (bW d (bW (ak (a.text=[])) (b ah a (G.X.mk 0 0)) (bW (!decide (a.package=[])) (eP (c 192 [yT a.package]) λg=>
 b (!g.1) a (G.X.mk 0 0)) (b aj a (G.X.mk 0 0)))) (bW (!decide (a.package=[])) (eP (c 192 [yT a.package]) λh=>
 b (!h.1) a (G.X.mk 0 0)) (b aj a (G.X.mk 0 0))))
def aKl(n:Nt):G.K->Bool->Rt:=λx0 x1=>n [yR 21 x0,yB x1]
def aMF(a:Bool)(b:G.K)(f:G.X):Rt:=
 bW a (uQ (c 97 [yI 3,yI b.pos]) λd=>
 aa [yR 20 d.1]) (aa [yR 20 (G.X.mk 0 0)])
def aKk(n:Nt):Bool->G.K->G.X->Rt:=λx0 x1 x2=>n [yB x0,yR 21 x1,yR 20 x2]
def V3:=aKk (xD Dr e (pw 7 57) ML (aFQ c e))
def aX3:aKl (xF Dr c e)=XX c (V3 c e):=by kernel_rfl
def aX2:aKk (xA Dr c e (pw 7 57) ML (aFQ c e))=aMF c:=by kernel_rfl
def aLf(L:Nat):Bool->G.K->G.X->Rt:=aMF c
def a2D:V3 c (cu c L)=aLf c L:=by rw[V3,cI,aX2];rfl
def aRM:G.K->Bool->Rt:=XX c (aLf c L)
def bMg:aKl (xF Dr c (cu c L))=aRM c L:=by rw[aX3];simp only[a2D];rfl
def bFl(a:G.K)(b:Bool)(L n:Nat):cA L (n+1) 165 [yR 21 a,yB b]=aRM (cA L n) L a b:=by rw[<-bMg];exact cz (x:=Dr) (by kernel_rfl) L n _
def aFP(c:cG)(e:Cu):Kt:=xK FL
def XW(c:cG)(a:Bool->Rt)(b:Int):Rt:=
 bW (ak ((33:Int)<=b)) (bW (ak (b<=126)) (bW (!decide (b=40)) (bW (!decide (b=41)) (bW (!decide (b=39)) (bW (!decide (b=34)) (bW (!decide (b=59)) (bW (!decide (b=124)) (a (!decide (b=58))) (a aj)) (a aj)) (a aj)) (a aj)) (a aj)) (a aj)) (a aj)) (a aj)
def XV(c:cG)(a:Bool):Rt:=
 aa [yB a]
def V2:=dX (xD FL e [1,1,0] MK (aFP c e))
def aX1:Pa (xF FL c e)=XW c (V2 c e):=by kernel_rfl
def aX0:dX (xA FL c e [1,1,0] MK (aFP c e))=XV c:=by kernel_rfl
def Xr(L:Nat):Bool->Rt:=XV c
def a2C:V2 c (cu c L)=Xr c L:=by rw[V2,cI,aX0];rfl
def a5V:Int->Rt:=XW c (Xr c L)
def bMf:Pa (xF FL c (cu c L))=a5V c L:=by rw[aX1];simp only[a2C];rfl
def bNa(a:Int)(L n:Nat):cA L (n+1) 166 [⟨(.int .u8),a⟩]=a5V (cA L n) L a:=by rw[<-bMf];exact cz (x:=FL) (by kernel_rfl) L n _
def a0e(c:cG)(e:Cu):Kt:=xK vS
def a0d:Kt:=xT vS c e [1,1] (a0e c e)
def Lo:Kt:=dM U0 0 (a0d c e)
def a0c(n1:Nt):Kt:=iL U0 zW n1 (Lo c e)
def aFO(n1:Nt):Kt:=xT vS c e (pw 5 17) (a0c c e n1)
def XU(c:cG)(a:au UInt8->Int->Rt)(b:au UInt8)(d:Int):Rt:=
 a b d
def PX(d:Bool->au UInt8->Int->Rt)(a:au UInt8)(b:Int):Rt:=
 bW (ak (b<(am a:Int))) (ob (dK a b) λf=>
 eP (c 166 [⟨(.int .u8),(f.toNat:Int)⟩]) λg=>
 d g.1 a b) (d aj a b)
def aJR:=eN (xE vS e (pw 4 1) zW (Lo c e))
def HM(c:cG)(b:au UInt8->Int->Rt)(d:Bool)(f:au UInt8)(a:Int):Rt:=
 bW d (b f (ez.wrap (a+1))) (aa [yI a])
def V1(n1:Nt):=C4 (xD vS e (pw 7 33) MJ (aFO c e n1))
def aXZ:eN (xF vS c e)=XU c (aJR c e):=by kernel_rfl
def aXY(n1:Nt):eN (xA vS c e (pw 4 1) zW (iL U0 zW n1 (Lo c e)))=PX c (V1 c e n1):=by kernel_rfl
def aXX(n1:Nt):C4 (xA vS c e (pw 7 33) MJ (aFO c e n1))=HM c (eN n1):=by kernel_rfl
def G9(L:Nat)(n1:au UInt8->Int->Rt):Bool->au UInt8->Int->Rt:=HM c n1
def a2B(n1:Nt):V1 c (cu c L) n1=G9 c L (eN n1):=by rw[V1,cI,aXX];rfl
def Bf(c:cG)(L:Nat):Nat->au UInt8->Int->Rt
 |0=>λ_ _=>ae
 |n+1=>PX c (G9 c L (Bf c L n))
def aWH(n:Nat):eN (xL vS c L (pw 4 1) zW (Lo c (cu c L)) n)=Bf c L n:=by
 induction n with
 |zero=>rfl
 |succ n ih=>rw[fO,aXY];simp only[a2B,ih];rfl
def aV7:aJR c (cu c L)=Bf c L L:=aWH c L L
def a5U:au UInt8->Int->Rt:=XU c (Bf c L L)
def bMe:eN (xF vS c (cu c L))=a5U c L:=by rw[aXZ];simp only[aV7];rfl
def bM9(a:au UInt8)(b:Int)(L n:Nat):cA L (n+1) 167 [yT a,yI b]=a5U (cA L n) L a b:=by rw[<-bMe];exact cz (x:=vS) (by kernel_rfl) L n _
def Cy(c:cG)(e:Cu):Kt:=xK iT
def aFN:Kt:=xT iT c e [1,1,1] (Cy c e)
def a0b:Kt:=xT iT c e (pw 6 55) (Cy c e)
def Ln:Kt:=dM U0 0 (a0b c e)
def a0a(n3:Nt):Kt:=iL U0 zV n3 (Ln c e)
def aFM(n3:Nt):Kt:=xT iT c e (pw 9 279) (a0a c e n3)
def aFL:Kt:=xT iT c e (pw 9 503) (Cy c e)
def aZ9:Kt:=xT iT c e (pw 10 1015) (Cy c e)
def Lm:Kt:=dM U0 2 (aZ9 c e)
def aZ8(n6:Nt):Kt:=iL U0 zU n6 (Lm c e)
def aOm(n6:Nt):Kt:=xT iT c e (pw 15 26103) (aZ8 c e n6)
def aAy(n6:Nt):Kt:=dM U0 3 (aOm c e n6)
def XT(c:cG)(b:Bool->Int->au UInt8->Rt)(a:au UInt8):Rt:=
 bW (ak ((0:Int)<(am a:Int))) (ob (dK a 0) λd=>
 b (ak ((d.toNat:Int)=45)) 0 a) (b aj 0 a)
def XS(c:cG)(a:Int->au UInt8->Rt)(d:Bool)(f:Int)(b:au UInt8):Rt:=
 bW d (a 1 b) (a f b)
def V0:=sI (xD iT e (pw 5 11) MI (aFN c e))
def XQ(c:cG)(b:Int->au UInt8->Int->Rt)(a:Int)(d:au UInt8):Rt:=
 b a d a
def VZ:=Pe (xD iT e (pw 4 7) MH (Cy c e))
def XP(c:cG)(d:Bool->Int->au UInt8->Int->Rt)(f:Int)(a:au UInt8)(b:Int):Rt:=
 bW (ak (b<(am a:Int))) (ob (dK a b) λg=>
 bW (ak ((48:Int)<=(g.toNat:Int))) (ob (dK a b) λh=>
 d (ak ((h.toNat:Int)<=57)) f a b) (d aj f a b)) (d aj f a b)
def aJQ:=mR (xE iT e (pw 8 23) zV (Ln c e))
def aME(c:cG)(g:Int->au UInt8->Int->Rt)(d:Bool->au UInt8->Int->Rt)(h:Bool)(f:Int)(a:au UInt8)(b:Int):Rt:=
 bW h (g f a (ez.wrap (b+1))) (bW (ak (b=f)) (aa [yT [],yT [],yB aj]) (bW (ak (b=(am a:Int))) (aa [yT a,yT [49],yB ah]) (ob (dK a b) λi=>
 bW (!decide ((i.toNat:Int)=47)) (d ah a b) (d (ak ((ez.wrap (b+1))=(am a:Int))) a b))))
def VY(n3:Nt):=OZ (xD iT e (pw 11 535) MG (aFM c e n3))
def aMD(c:cG)(b:Int->au UInt8->Int->Rt)(d:Bool)(f:au UInt8)(a:Int):Rt:=
 bW d (aa [yT [],yT [],yB aj]) (b (ez.wrap (a+1)) f a)
def VX:=C4 (xD iT e (pw 11 759) MF (aFL c e))
def aMC(c:cG)(f:Bool->Int->au UInt8->Int->Rt)(b:Int)(a:au UInt8)(d:Int):Rt:=
 bW (ak (b<(am a:Int))) (ob (dK a b) λg=>
 bW (ak ((g.toNat:Int)<48)) (f ah b a d) (ob (dK a b) λh=>
 f (ak ((57:Int)<(h.toNat:Int))) b a d)) (ob (slc a 0 d) λi=>
 ob (slc a (ez.wrap (d+1)) (am a:Int)) λj=>
 aa [yT i,yT j,yB ah])
def aJP:=mR (xE iT e (pw 13 1527) zU (Lm c e))
def aMB(c:cG)(a:Int->au UInt8->Int->Rt)(b:Bool)(d:Int)(f:au UInt8)(g:Int):Rt:=
 bW b (aa [yT [],yT [],yB aj]) (a (ez.wrap (d+1)) f g)
def VW(n6:Nt):=OZ (xD iT e (pw 18 75255) ME (aAy c e n6))
def aXW:kT (xF iT c e)=XT c (V0 c e):=by kernel_rfl
def aXV:sI (xA iT c e (pw 5 11) MI (aFN c e))=XS c (VZ c e):=by kernel_rfl
def aXU:Pe (xA iT c e (pw 4 7) MH (Cy c e))=XQ c (aJQ c e):=by kernel_rfl
def aXT(n3:Nt):mR (xA iT c e (pw 8 23) zV (iL U0 zV n3 (Ln c e)))=XP c (VY c e n3):=by kernel_rfl
def aXS(n3:Nt):OZ (xA iT c e (pw 11 535) MG (aFM c e n3))=aME c (mR n3) (VX c e):=by kernel_rfl
def aXR:C4 (xA iT c e (pw 11 759) MF (aFL c e))=aMD c (aJP c e):=by kernel_rfl
def aXQ(n6:Nt):mR (xA iT c e (pw 13 1527) zU (iL U0 zU n6 (Lm c e)))=aMC c (VW c e n6):=by kernel_rfl
def aXP(n6:Nt):OZ (xA iT c e (pw 18 75255) ME (aAy c e n6))=aMB c (mR n6):=by kernel_rfl
def aLd(L:Nat)(n6:Int->au UInt8->Int->Rt):Bool->Int->au UInt8->Int->Rt:=aMB c n6
def a2w(n6:Nt):VW c (cu c L) n6=aLd c L (mR n6):=by rw[VW,cI,aXP];rfl
def OO(c:cG)(L:Nat):Nat->Int->au UInt8->Int->Rt
 |0=>λ_ _ _=>ae
 |n+1=>aMC c (aLd c L (OO c L n))
def aWF(n:Nat):mR (xL iT c L (pw 13 1527) zU (Lm c (cu c L)) n)=OO c L n:=by
 induction n with
 |zero=>rfl
 |succ n ih=>rw[fO,aXQ];simp only[a2w,ih];rfl
def aV5:aJP c (cu c L)=OO c L L:=aWF c L L
def aLe:Bool->au UInt8->Int->Rt:=aMD c (OO c L L)
def a2x:VX c (cu c L)=aLe c L:=by rw[VX,cI,aXR];simp only[aV5];rfl
def Xo(n3:Int->au UInt8->Int->Rt):Bool->Int->au UInt8->Int->Rt:=aME c n3 (aLe c L)
def a2y(n3:Nt):VY c (cu c L) n3=Xo c L (mR n3):=by rw[VY,cI,aXS];simp only[a2x];rfl
def C0(c:cG)(L:Nat):Nat->Int->au UInt8->Int->Rt
 |0=>λ_ _ _=>ae
 |n+1=>XP c (Xo c L (C0 c L n))
def aWG(n:Nat):mR (xL iT c L (pw 8 23) zV (Ln c (cu c L)) n)=C0 c L n:=by
 induction n with
 |zero=>rfl
 |succ n ih=>rw[fO,aXT];simp only[a2y,ih];rfl
def aV6:aJQ c (cu c L)=C0 c L L:=aWG c L L
def Xp:Int->au UInt8->Rt:=XQ c (C0 c L L)
def a2z:VZ c (cu c L)=Xp c L:=by rw[VZ,cI,aXU];simp only[aV6];rfl
def Xq:Bool->Int->au UInt8->Rt:=XS c (Xp c L)
def a2A:V0 c (cu c L)=Xq c L:=by rw[V0,cI,aXV];simp only[a2z];rfl
def aRL:au UInt8->Rt:=XT c (Xq c L)
def bMd:kT (xF iT c (cu c L))=aRL c L:=by rw[aXW];simp only[a2A];rfl
def bFk(a:au UInt8)(L n:Nat):cA L (n+1) 169 [yT a]=aRL (cA L n) L a:=by rw[<-bMd];exact cz (x:=iT) (by kernel_rfl) L n _
def aMy(b:au UInt8):Rt:=
 An (c 107 [yT b]) λa=>
 aa [yI (bif ak ((1:Int)<(am a.2.1:Int))then(am a.2.1:Int)else 1)]
def aRK(L:Nat):au UInt8->Rt:=aMy c
def bMc:kT (xF aHv c (cu c L))=aRK c L:=by kernel_rfl
def bFj(a:au UInt8)(L n:Nat):cA L (n+1) 171 [yT a]=aRK (cA L n) L a:=by rw[<-bMc];exact cz (x:=aHv) (by kernel_rfl) L n _
def aZ7(c:cG)(e:Cu):Kt:=xK BQ
def aZ6:Kt:=xT BQ c e [1,1] (aZ7 c e)
def TN:Kt:=dM U0 0 (aZ6 c e)
def aMx(c:cG)(a:au UInt8->au G.A->Int->G.A->Rt)(b:au G.A)(d:au UInt8):Rt:=
 a d b 0 (G.A.mk [] ([]:au G.Y))
def aKj(n:Nt):au G.A->au UInt8->Rt:=λx0 x1=>n [yS 5 x0,yT x1]
def aMw(c:cG)(f:au UInt8->au G.A->Int->G.A->Rt)(d:au UInt8)(a:au G.A)(b:Int)(g:G.A):Rt:=
 bW (ak (b<(am a:Int))) (ob (dK a b) λh=>
 bW (ak (h.name=d)) (ob (dK a b) λi=>
 aa [yR 5 i,yB ah]) (f d a (ez.wrap (b+1)) g)) (aa [yR 5 (G.A.mk [] ([]:au G.Y)),yB aj])
def OY(n:Nt):au UInt8->au G.A->Int->G.A->Rt:=λx0 x1 x2 x3=>n [yT x0,yS 5 x1,yI x2,yR 5 x3]
def aJN:=OY (xE BQ e (pw 5 5) B6 (TN c e))
def aXO:aKj (xF BQ c e)=aMx c (aJN c e):=by kernel_rfl
def aXN(n1:Nt):OY (xA BQ c e (pw 5 5) B6 (iL U0 B6 n1 (TN c e)))=aMw c (OY n1):=by kernel_rfl
def ON(c:cG)(L:Nat):Nat->au UInt8->au G.A->Int->G.A->Rt
 |0=>λ_ _ _ _=>ae
 |n+1=>aMw c (ON c L n)
def aWE(n:Nat):OY (xL BQ c L (pw 5 5) B6 (TN c (cu c L)) n)=ON c L n:=by
 induction n with
 |zero=>rfl
 |succ n ih=>rw[fO,aXN];simp only[ih];rfl
def aV4:aJN c (cu c L)=ON c L L:=aWE c L L
def a5T:au G.A->au UInt8->Rt:=aMx c (ON c L L)
def bMb:aKj (xF BQ c (cu c L))=a5T c L:=by rw[aXO];simp only[aV4];rfl
def bM8(a:au G.A)(b:au UInt8)(L n:Nat):cA L (n+1) 172 [yS 5 a,yT b]=a5T (cA L n) L a b:=by rw[<-bMb];exact cz (x:=BQ) (by kernel_rfl) L n _
def aMv(b:au UInt8):Rt:=
 An (c 107 [yT b]) λa=>
 kN (c 110 [yB (!a.1),⟨.sl i6,a.2.1⟩]) λd=>
 aa [yT d.1]
def aRJ(L:Nat):au UInt8->Rt:=aMv c
def bMa:kT (xF aHu c (cu c L))=aRJ c L:=by kernel_rfl
def bFi(a:au UInt8)(L n:Nat):cA L (n+1) 179 [yT a]=aRJ (cA L n) L a:=by rw[<-bMa];exact cz (x:=aHu) (by kernel_rfl) L n _
def aZ5(c:cG)(e:Cu):Kt:=xK oY
def aZ4:Kt:=xT oY c e (pw 4 15) (aZ5 c e)
def Ll:Kt:=dM U0 0 (aZ4 c e)
def aFK(n1:Nt):Kt:=iL U0 zT n1 (Ll c e)
def aFJ(n1:Nt):Kt:=xT oY c e (pw 8 151) (aFK c e n1)
def aZ3(n1:Nt):Kt:=xT oY c e (pw 9 407) (aFK c e n1)
def Lk(n1:Nt):Kt:=dM U0 1 (aZ3 c e n1)
def XO(c:cG)(a:Int->au Int->au Int->Int->au Int->Rt)(b:au Int)(d:au Int):Rt:=
 a 0 b d 0 ([]:au Int)
def PW(c:cG)(g:Bool->Int->Int->au Int->au Int->au Int->Rt)(b:Int)(d:au Int)(f:au Int)(a:Int)(h:au Int):Rt:=
 bW (ak (a<(am d:Int))) (g ah b a d f h) (bW (ak (a<(am f:Int))) (g ah b a d f h) (g (ak ((0:Int)<b)) b a d f h))
def Bo(n:Nt):Int->au Int->au Int->Int->au Int->Rt:=λx0 x1 x2 x3 x4=>n [yI x0,⟨.sl i6,x1⟩,⟨.sl i6,x2⟩,yI x3,⟨.sl i6,x4⟩]
def aJL:=Bo (xE oY e (pw 7 23) zT (Ll c e))
def HL(c:cG)(f:au Int->Int->Int->au Int->au Int->Rt)(i:Bool)(g:Int)(a:Int)(b:au Int)(h:au Int)(d:au Int):Rt:=
 bW i (bW (ak (a<(am b:Int))) (ob (dK b a) λj=>
 f d (ez.wrap (g+j)) a b h) (f d g a b h)) (aa [⟨.sl i6,d⟩])
def aKi(n:Nt):Bool->Int->Int->au Int->au Int->au Int->Rt:=λx0 x1 x2 x3 x4 x5=>n [yB x0,yI x1,yI x2,⟨.sl i6,x3⟩,⟨.sl i6,x4⟩,⟨.sl i6,x5⟩]
def VV(n1:Nt):=aKi (xD oY e (pw 10 279) MD (aFJ c e n1))
def XN(c:cG)(d:au Int->Int->Int->au Int->au Int->Rt)(f:au Int)(g:Int)(a:Int)(h:au Int)(b:au Int):Rt:=
 bW (ak (a<(am b:Int))) (ob (dK b a) λi=>
 d f (ez.wrap (g+i)) a h b) (d f g a h b)
def VU(n1:Nt):=C5 (xD oY e (pw 13 3223) MC (Lk c e n1))
def XM(c:cG)(d:Int->au Int->au Int->Int->au Int->Rt)(b:au Int)(a:Int)(f:Int)(g:au Int)(h:au Int):Rt:=
 lZ (!decide ((10:Int)=0))<|
 lZ (aq ((am b+am ([(Int.tmod a 10)]:au Int))*8) 1073741824)<|
 lZ (!decide ((10:Int)=0))<|
 d (ez.wrap (Int.tdiv a 10)) g h (ez.wrap (f+1)) (b++([(Int.tmod a 10)]:au Int))
def VT(n1:Nt):=C5 (xD oY e (pw 15 11415) MB (Lk c e n1))
def aXM:mS (xF oY c e)=XO c (aJL c e):=by kernel_rfl
def aXL(n1:Nt):Bo (xA oY c e (pw 7 23) zT (iL U0 zT n1 (Ll c e)))=PW c (VV c e n1):=by kernel_rfl
def aXK(n1:Nt):aKi (xA oY c e (pw 10 279) MD (aFJ c e n1))=HL c (VU c e n1):=by kernel_rfl
def aXJ(n1:Nt):C5 (xA oY c e (pw 13 3223) MC (Lk c e n1))=XN c (VT c e n1):=by kernel_rfl
def aXI(n1:Nt):C5 (xA oY c e (pw 15 11415) MB (Lk c e n1))=XM c (Bo n1):=by kernel_rfl
def Pt(L:Nat)(n1:Int->au Int->au Int->Int->au Int->Rt):au Int->Int->Int->au Int->au Int->Rt:=XM c n1
def a2t(n1:Nt):VT c (cu c L) n1=Pt c L (Bo n1):=by rw[VT,cI,aXI];rfl
def Pu(n1:Int->au Int->au Int->Int->au Int->Rt):au Int->Int->Int->au Int->au Int->Rt:=XN c (Pt c L n1)
def a2u(n1:Nt):VU c (cu c L) n1=Pu c L (Bo n1):=by rw[VU,cI,aXJ];simp only[a2t];rfl
def Dd(n1:Int->au Int->au Int->Int->au Int->Rt):Bool->Int->Int->au Int->au Int->au Int->Rt:=HL c (Pu c L n1)
def a2v(n1:Nt):VV c (cu c L) n1=Dd c L (Bo n1):=by rw[VV,cI,aXK];simp only[a2u];rfl
def sF(c:cG)(L:Nat):Nat->Int->au Int->au Int->Int->au Int->Rt
 |0=>λ_ _ _ _ _=>ae
 |n+1=>PW c (Dd c L (sF c L n))
def aWD(n:Nat):Bo (xL oY c L (pw 7 23) zT (Ll c (cu c L)) n)=sF c L n:=by
 induction n with
 |zero=>rfl
 |succ n ih=>rw[fO,aXL];simp only[a2v,ih];rfl
def aV3:aJL c (cu c L)=sF c L L:=aWD c L L
def aRI:au Int->au Int->Rt:=XO c (sF c L L)
def bL9:mS (xF oY c (cu c L))=aRI c L:=by rw[aXM];simp only[aV3];rfl
def bFh(a:au Int)(b:au Int)(L n:Nat):cA L (n+1) 180 [⟨.sl i6,a⟩,⟨.sl i6,b⟩]=aRI (cA L n) L a b:=by rw[<-bL9];exact cz (x:=oY) (by kernel_rfl) L n _
def TL(c:cG)(e:Cu):Kt:=xK xP
def aZ2:Kt:=xT xP c e (pw 5 31) (TL c e)
def TJ:Kt:=dM U0 0 (aZ2 c e)
def XL(b:au Int->Int->Bool->Int->Rt)(d:au UInt8):Rt:=
 An (c 107 [yT d]) λa=>
 bW (ak ((9:Int)<(am a.2.1:Int))) (aa [yI 0,yB aj]) (b a.2.1 (ez.wrap ((am a.2.1:Int)-1)) a.1 0)
def PU(c:cG)(h:au Int->Int->Bool->Int->Rt)(d:Int->Rt)(f:au Int)(a:Int)(g:Bool)(b:Int):Rt:=
 bW (ak ((0:Int)<=a)) (ob (dK f a) λi=>
 h f (ez.wrap (a-1)) g (ez.wrap ((ez.wrap ((10:Int)*b))+i))) (bW g (d (ez.wrap (0-b))) (d b))
def OX(n:Nt):au Int->Int->Bool->Int->Rt:=λx0 x1 x2 x3=>n [⟨.sl i6,x0⟩,yI x1,yB x2,yI x3]
def aJK:=OX (xE xP e (pw 8 47) B5 (TJ c e))
def PQ(c:cG)(a:Int):Rt:=
 aa [yI a,yB ah]
def VS:=G0 (xD xP e (pw 7 63) MA (TL c e))
def aXH:kT (xF xP c e)=XL c (aJK c e):=by kernel_rfl
def aXG(n1:Nt):OX (xA xP c e (pw 8 47) B5 (iL U0 B5 n1 (TJ c e)))=PU c (OX n1) (VS c e):=by kernel_rfl
def aXF:G0 (xA xP c e (pw 7 63) MA (TL c e))=PQ c:=by kernel_rfl
def Ps(L:Nat):Int->Rt:=PQ c
def a2s:VS c (cu c L)=Ps c L:=by rw[VS,cI,aXF];rfl
def yO(c:cG)(L:Nat):Nat->au Int->Int->Bool->Int->Rt
 |0=>λ_ _ _ _=>ae
 |n+1=>PU c (yO c L n) (Ps c L)
def aWC(n:Nat):OX (xL xP c L (pw 8 47) B5 (TJ c (cu c L)) n)=yO c L n:=by
 induction n with
 |zero=>rfl
 |succ n ih=>rw[fO,aXG];simp only[a2s,ih];rfl
def aV2:aJK c (cu c L)=yO c L L:=aWC c L L
def aRH:au UInt8->Rt:=XL c (yO c L L)
def bL8:kT (xF xP c (cu c L))=aRH c L:=by rw[aXH];simp only[aV2];rfl
def bFg(a:au UInt8)(L n:Nat):cA L (n+1) 181 [yT a]=aRH (cA L n) L a:=by rw[<-bL8];exact cz (x:=xP) (by kernel_rfl) L n _
def aMs(d:au UInt8)(f:au UInt8):Rt:=
 An (c 107 [yT d]) λa=>
 An (c 107 [yT f]) λb=>
 tE (c 200 [⟨.sl i6,a.2.1⟩,⟨.sl i6,b.2.1⟩]) λg=>
 kN (c 110 [yB (!(a.1==b.1)),⟨.sl i6,g.1⟩]) λh=>
 aa [yT h.1]
def aRG(L:Nat):au UInt8->au UInt8->Rt:=aMs c
def bL7:sH (xF aHt c (cu c L))=aRG c L:=by kernel_rfl
def bFf(a:au UInt8)(b:au UInt8)(L n:Nat):cA L (n+1) 182 [yT a,yT b]=aRG (cA L n) L a b:=by rw[<-bL7];exact cz (x:=aHt) (by kernel_rfl) L n _
def aMr(d:au UInt8)(f:au UInt8):Rt:=
 An (c 107 [yT d]) λa=>
 An (c 107 [yT f]) λb=>
 bW (a.1==b.1) (tE (c 180 [⟨.sl i6,a.2.1⟩,⟨.sl i6,b.2.1⟩]) λg=>
 kN (c 110 [yB a.1,⟨.sl i6,g.1⟩]) λh=>
 aa [yT h.1]) (iO (c 141 [⟨.sl i6,a.2.1⟩,⟨.sl i6,b.2.1⟩]) λi=>
 bW (ak ((0:Int)<=i.1)) (tE (c 142 [⟨.sl i6,a.2.1⟩,⟨.sl i6,b.2.1⟩]) λj=>
 kN (c 110 [yB a.1,⟨.sl i6,j.1⟩]) λl=>
 aa [yT l.1]) (tE (c 142 [⟨.sl i6,b.2.1⟩,⟨.sl i6,a.2.1⟩]) λm=>
 kN (c 110 [yB b.1,⟨.sl i6,m.1⟩]) λo=>
 aa [yT o.1]))
def aRF(L:Nat):au UInt8->au UInt8->Rt:=aMr c
def bL6:sH (xF aHs c (cu c L))=aRF c L:=by kernel_rfl
def bFe(a:au UInt8)(b:au UInt8)(L n:Nat):cA L (n+1) 183 [yT a,yT b]=aRF (cA L n) L a b:=by rw[<-bL6];exact cz (x:=aHs) (by kernel_rfl) L n _
def aZ1(c:cG)(e:Cu):Kt:=xK Dq
def aFI:Kt:=xT Dq c e (pw 4 15) (aZ1 c e)
def XK(f:Bool->G.O->G.O->Rt)(a:G.O)(b:G.O):Rt:=
 iO (c 201 [yR 2 a]) λg=>
 iO (c 201 [yR 2 b]) λh=>
 bW (!decide (g.1=h.1)) (iO (c 201 [yR 2 a]) λi=>
 iO (c 201 [yR 2 b]) λj=>
 bW (ak (i.1<j.1)) (aa [yI (-1)]) (aa [yI 1])) (iO (c 201 [yR 2 a]) λd=>
 bW (ak (d.1=1)) (kN (c 182 [yT a.num,yT b.den]) λl=>
 kN (c 182 [yT b.num,yT a.den]) λm=>
 iO (c 202 [yT l.1,yT m.1]) λo=>
 aa [yI o.1]) (bW (ak (d.1=2)) (iO (c 203 [yT a.text,yT b.text]) λp=>
 aa [yI p.1]) (bW (ak (d.1=3)) (iO (c 204 [yR 1 a.sym,yR 1 b.sym]) λq=>
 aa [yI q.1]) (eP (c 100 [yR 2 a]) λs=>
 bW (!s.1) (f ah a b) (eP (c 100 [yR 2 b]) λt=>
 f (!t.1) a b)))))
def aMq(f:Bool)(a:G.O)(b:G.O):Rt:=
 bW f (aa [yI 0]) (ob (dK a.pair 0) λg=>
 ob (dK b.pair 0) λh=>
 iO (c 184 [yR 2 g,yR 2 h]) λd=>
 bW (!decide (d.1=0)) (aa [yI d.1]) (ob (dK a.pair 1) λi=>
 ob (dK b.pair 1) λj=>
 iO (c 184 [yR 2 i,yR 2 j]) λl=>
 aa [yI l.1]))
def VQ:=yV (xD Dq e (pw 6 23) Mz (aFI c e))
def aXE:iK (xF Dq c e)=XK c (VQ c e):=by kernel_rfl
def aXD:yV (xA Dq c e (pw 6 23) Mz (aFI c e))=aMq c:=by kernel_rfl
def aLb(L:Nat):Bool->G.O->G.O->Rt:=aMq c
def a2r:VQ c (cu c L)=aLb c L:=by rw[VQ,cI,aXD];rfl
def aRE:G.O->G.O->Rt:=XK c (aLb c L)
def bL5:iK (xF Dq c (cu c L))=aRE c L:=by rw[aXE];simp only[a2r];rfl
def bFd(a:G.O)(b:G.O)(L n:Nat):cA L (n+1) 184 [yR 2 a,yR 2 b]=aRE (cA L n) L a b:=by rw[<-bL5];exact cz (x:=Dq) (by kernel_rfl) L n _
def aFH(c:cG)(e:Cu):Kt:=xK FK
def XJ(a:Bool->Rt)(b:G.Y):Rt:=
 eP (c 205 [yT b.package]) λd=>
 bW d.1 (bW (ak ((1:Int)<=(am b.name:Int))) (a (ak ((am b.name:Int)<=40))) (a aj)) (a aj)
def XI(c:cG)(a:Bool):Rt:=
 aa [yB a]
def VP:=dX (xD FK e [1,1,0] My (aFH c e))
def aXC:qS (xF FK c e)=XJ c (VP c e):=by kernel_rfl
def aXB:dX (xA FK c e [1,1,0] My (aFH c e))=XI c:=by kernel_rfl
def Xn(L:Nat):Bool->Rt:=XI c
def a2q:VP c (cu c L)=Xn c L:=by rw[VP,cI,aXB];rfl
def aRD:G.Y->Rt:=XJ c (Xn c L)
def bL4:qS (xF FK c (cu c L))=aRD c L:=by rw[aXC];simp only[a2q];rfl
def bFc(a:G.Y)(L n:Nat):cA L (n+1) 185 [yR 1 a]=aRD (cA L n) L a:=by rw[<-bL4];exact cz (x:=FK) (by kernel_rfl) L n _
def a6k(c:cG)(a:G.Y):Rt:=
 aa [yR 2 (G.O.mk 2 [] [] a [] ([]:au G.O))]
def bGt(L:Nat):G.Y->Rt:=a6k c
def bL3:qS (xF aHr c (cu c L))=bGt c L:=by kernel_rfl
def bM7(a:G.Y)(L n:Nat):cA L (n+1) 186 [yR 1 a]=bGt (cA L n) L a:=by rw[<-bL3];exact cz (x:=aHr) (by kernel_rfl) L n _
def aZ0(c:cG)(e:Cu):Kt:=xK mL
def aZZ:Kt:=xT mL c e [1,1,1] (aZ0 c e)
def Lj:Kt:=dM U0 0 (aZZ c e)
def aZY(n1:Nt):Kt:=iL U0 zR n1 (Lj c e)
def aZX(n1:Nt):Kt:=xT mL c e (pw 8 203) (aZY c e n1)
def aZW(n1:Nt):Kt:=dM U0 1 (aZX c e n1)
def Li(n1:Nt):Kt:=dM U0 2 (aZW c e n1)
def aFF(n2:Nt)(n1:Nt):Kt:=iL U0 zQ n2 (Li c e n1)
def aFE(n2:Nt)(n1:Nt):Kt:=xT mL c e (pw 14 9803) (aFF c e n2 n1)
def aZV(n2:Nt)(n1:Nt):Kt:=xT mL c e (pw 15 26187) (aFF c e n2 n1)
def aAw(n2:Nt)(n1:Nt):Kt:=dM U0 3 (aZV c e n2 n1)
def XH(c:cG)(d:au Int->au Int->Int->au Int->Rt)(a:au Int)(b:au Int):Rt:=
 lZ (ak (0<=(ez.wrap ((ez.wrap ((am a:Int)+(am b:Int)))+1)))&&ak ((ez.wrap ((ez.wrap ((am a:Int)+(am b:Int)))+1))<=(ez.wrap ((ez.wrap ((am a:Int)+(am b:Int)))+1)))&&ak ((ez.wrap ((ez.wrap ((am a:Int)+(am b:Int)))+1))*8<=1073741824)&&ak ((ez.wrap ((ez.wrap ((am a:Int)+(am b:Int)))+1))<=1073741824))<|
 lZ (ak ((ez.wrap ((ez.wrap ((am a:Int)+(am b:Int)))+1))=(ez.wrap ((ez.wrap ((am a:Int)+(am b:Int)))+1))))<|
 d a b 0 (rV (0:Int) (Int.toNat (ez.wrap ((ez.wrap ((am a:Int)+(am b:Int)))+1))))
def PP(f:Int->Int->Int->au Int->au Int->au Int->Rt)(a:au Int)(g:au Int)(b:Int)(d:au Int):Rt:=
 bW (ak (b<(am a:Int))) (f 0 0 b a g d) (tE (c 140 [⟨.sl i6,d⟩]) λh=>
 aa [⟨.sl i6,h.1⟩])
def yU(n:Nt):au Int->au Int->Int->au Int->Rt:=λx0 x1 x2 x3=>n [⟨.sl i6,x0⟩,⟨.sl i6,x1⟩,yI x2,⟨.sl i6,x3⟩]
def aJF:=yU (xE mL e (pw 6 11) zR (Lj c e))
def HK(c:cG)(f:Bool->Int->Int->Int->au Int->au Int->au Int->Rt)(a:Int)(b:Int)(g:Int)(h:au Int)(d:au Int)(i:au Int):Rt:=
 bW (ak (b<(am d:Int))) (f ah a b g h d i) (f (ak ((0:Int)<a)) a b g h d i)
def aJE(n1:Nt):=yQ (xE mL e (pw 13 1611) zQ (Li c e n1))
def HJ(c:cG)(h:Int->Int->Int->au Int->au Int->au Int->Rt)(l:au Int->au Int->Int->au Int->Rt)(m:Bool)(i:Int)(a:Int)(b:Int)(g:au Int)(d:au Int)(f:au Int):Rt:=
 bW m (lZ (dJ (ez.wrap (b+a)) (am f))<|
 ob (dK f (ez.wrap (b+a))) λj=>
 bW (ak (a<(am d:Int))) (ob (dK g b) λo=>
 ob (dK d a) λp=>
 h (ez.wrap ((ez.wrap (j+i))+(ez.wrap (o*p)))) a b g d f) (h (ez.wrap (j+i)) a b g d f)) (l g d (ez.wrap (b+1)) f)
def aKg(n:Nt):Bool->Int->Int->Int->au Int->au Int->au Int->Rt:=λx0 x1 x2 x3 x4 x5 x6=>n [yB x0,yI x1,yI x2,yI x3,⟨.sl i6,x4⟩,⟨.sl i6,x5⟩,⟨.sl i6,x6⟩]
def VO(n2:Nt)(n1:Nt):=aKg (xD mL e (pw 16 17995) Mx (aFE c e n2 n1))
def PO(c:cG)(g:Int->Int->Int->au Int->au Int->au Int->Rt)(f:Int)(a:Int)(b:Int)(h:au Int)(i:au Int)(d:au Int):Rt:=
 lZ (!decide ((10:Int)=0))<|
 lZ (dJ (ez.wrap (b+a)) (am d))<|
 ob (dK d (ez.wrap (b+a))) λj=>
 lZ (!decide ((10:Int)=0))<|
 g (ez.wrap (Int.tdiv f 10)) (ez.wrap (a+1)) b h i (List.set d (Int.toNat (ez.wrap (b+a))) (Int.tmod f 10))
def VN(n2:Nt)(n1:Nt):=yQ (xD mL e (pw 19 206411) Mw (aAw c e n2 n1))
def aXA:mS (xF mL c e)=XH c (aJF c e):=by kernel_rfl
def aXz(n1:Nt):yU (xA mL c e (pw 6 11) zR (iL U0 zR n1 (Lj c e)))=PP c (aJE c e n1):=by kernel_rfl
def aXy(n2:Nt)(n1:Nt):yQ (xA mL c e (pw 13 1611) zQ (iL U0 zQ n2 (Li c e n1)))=HK c (VO c e n2 n1):=by kernel_rfl
def aXx(n2:Nt)(n1:Nt):aKg (xA mL c e (pw 16 17995) Mx (aFE c e n2 n1))=HJ c (VN c e n2 n1) (yU n1):=by kernel_rfl
def aXw(n2:Nt)(n1:Nt):yQ (xA mL c e (pw 19 206411) Mw (aAw c e n2 n1))=PO c (yQ n2):=by kernel_rfl
def Pr(L:Nat)(n2:Int->Int->Int->au Int->au Int->au Int->Rt)(n1:au Int->au Int->Int->au Int->Rt):Int->Int->Int->au Int->au Int->au Int->Rt:=PO c n2
def a2o(n2:Nt)(n1:Nt):VN c (cu c L) n2 n1=Pr c L (yQ n2) (yU n1):=by rw[VN,cI,aXw];rfl
def G8(n2:Int->Int->Int->au Int->au Int->au Int->Rt)(n1:au Int->au Int->Int->au Int->Rt):Bool->Int->Int->Int->au Int->au Int->au Int->Rt:=HJ c (Pr c L n2 n1) n1
def a2p(n2:Nt)(n1:Nt):VO c (cu c L) n2 n1=G8 c L (yQ n2) (yU n1):=by rw[VO,cI,aXx];simp only[a2o];rfl
def vK(c:cG)(L:Nat)(n1:au Int->au Int->Int->au Int->Rt):Nat->Int->Int->Int->au Int->au Int->au Int->Rt
 |0=>λ_ _ _ _ _ _=>ae
 |n+1=>HK c (G8 c L (vK c L n1 n) n1)
def aWA(n1:Nt)(n:Nat):yQ (xL mL c L (pw 13 1611) zQ (Li c (cu c L) n1) n)=vK c L (yU n1) n:=by
 induction n with
 |zero=>rfl
 |succ n ih=>rw[fO,aXy];simp only[a2p,ih];rfl
def aVZ(n1:Nt):aJE c (cu c L) n1=vK c L (yU n1) L:=aWA c L n1 L
def yN(c:cG)(L:Nat):Nat->au Int->au Int->Int->au Int->Rt
 |0=>λ_ _ _ _=>ae
 |n+1=>PP c (vK c L (yN c L n) L)
def aWB(n:Nat):yU (xL mL c L (pw 6 11) zR (Lj c (cu c L)) n)=yN c L n:=by
 induction n with
 |zero=>rfl
 |succ n ih=>rw[fO,aXz];simp only[aVZ,ih];rfl
def aV0:aJF c (cu c L)=yN c L L:=aWB c L L
def aRC:au Int->au Int->Rt:=XH c (yN c L L)
def bL2:mS (xF mL c (cu c L))=aRC c L:=by rw[aXA];simp only[aV0];rfl
def bFb(a:au Int)(b:au Int)(L n:Nat):cA L (n+1) 200 [⟨.sl i6,a⟩,⟨.sl i6,b⟩]=aRC (cA L n) L a b:=by rw[<-bL2];exact cz (x:=mL) (by kernel_rfl) L n _
end
def wr{x:Int}(h0: -9223372036854775808<=x)(h1:x<9223372036854775808):ez.wrap x=x:=by
 have hb:(ez.bits:Nat)=64:=rfl;unfold IntKind.wrap;simp[IntKind.bits,IntKind.signed];omega
def bN2{k:Nat}(h:k<4000000000000000000):ez.wrap (((k+1:Nat):Int)-1)=(k:Int):=by rw[wr (by omega) (by omega)];omega
abbrev iS(l:au Int):nO:=[⟨.sl (.int .i64),l⟩]
abbrev iI(i:Int):nO:=[⟨.int .i64,i⟩]
abbrev Qr(a b:au Int):nO:=[⟨.sl (.int .i64),a⟩,⟨.sl (.int .i64),b⟩]
def zE{W:Type}{a:au Int}{K:au Int×Unit->f9 W}:tE (aa [⟨.sl (.int .i64),a⟩]) K=K (a,()):=rfl
def aOU{W:Type}{a b:au Int}{K:au Int×au Int×Unit->f9 W}:gO (D:=U0.D) [.sl (.int .i64),.sl (.int .i64)] (aa [⟨.sl (.int .i64),a⟩,⟨.sl (.int .i64),b⟩]) K=K (a,b,()):=rfl
def aOV{W:Type}{a:Int}{K:Int×Unit->f9 W}:iO (aa [⟨.int .i64,a⟩]) K=K (a,()):=rfl
def aEV{N:Type}{l:au N}{k:Nat}(h:k<=l.length):slc l (0:Int) (k:Int)=aa (l.take k):=by
 unfold slc;have h1:ak ((0:Int)<=0)=ah:=rfl;have h2:ak ((0:Int)<=(k:Int))=ah:=by simp
 have h3:ak ((k:Int)<=(l.length:Int))=ah:=by simp;omega
 rw[h1,h2,h3];simp
def aIO{n:Nat}(h:n<100000000):aq ((n+1)*8) 1073741824=ah:=by rw[Nat.ble_eq];omega
def KY{N:Type}{l:au N}{k:Nat}{x:N}(h:l[k]?=aa x):l.take (k+1)=l.take k++ [x]:=by rw[List.take_add_one,h];rfl
def jR{N:Type}{l:au N}{k:Nat}(h:k<l.length): ∃x,l[k]?=aa x/\l.drop k=x::l.drop (k+1):=⟨l[k],aV h,List.drop_eq_getElem_cons h⟩
def aSB: ∀l:au Int,kJ (l++ [0])=kJ l
 |[]=>rfl
 |x::l=>by have ih:=aSB l;simp only[aY,kJ,ih]
def aED{x:Int}(h:x≠0): ∀l:au Int,kJ (l++ [x])=l++ [x]
 |[]=>by simp[kJ,h]
 |y::l=>by
  have ih:=aED h l;simp only[aY,kJ,ih];cases l<;>rfl
def aCE{c:cG}{L:Nat}{a:au Int}(hb:a.length<1000000000): ∀(k m:Nat),k<=a.length->k<m->kJ (a.take k)=kJ a->
    Bh c L m a (k:Int)=aa (iS (kJ a)):=by
 intro k;induction k with
 |zero=>
  intro m _ h2 h3;obtain⟨m,rfl⟩: ∃m',m=m'+1:=⟨m-1,by omega⟩
  rw[Bh,P6,bH (by omega: ¬(0:Int)<((0:Nat):Int)),bS,HC,HP,bS,aEV (Nat.zero_le _),cR,<-h3]
  simp[kJ]
 |succ k ih=>
  intro m h1 h2 h3;obtain⟨m,rfl⟩: ∃m',m=m'+1:=⟨m-1,by omega⟩
  obtain⟨x,hx,_⟩:=jR (show k<a.length by omega)
  rw[Bh,P6,bG (by omega:(0:Int)<((k+1:Nat):Int)),bV,bN2 (by omega),cH,hx,cR]
  rw[KY hx]at h3;by_cases e:x=0
  .subst e;rw[aSB]at h3;rw[bG rfl,HC,HP,bV,bN2 (by omega)]
   exact ih m (by omega) (by omega) h3
  .rw[aED e]at h3;rw[bH e,HC,HP,bS,aEV h1,cR,KY hx,h3]
def D7{a:au Int}{L n:Nat}(hb:a.length<1000000000)(hL:a.length<L):cA L (n+1) 140 (iS a)=aa (iS (kJ a)):=by
 show cA L (n+1) 140 [⟨.sl (.int .i64),a⟩]=_;rw[bFB,aR2,YC];exact aCE hb _ L (aS _) hL (by rw[List.take_length])
def CD: ∀(i:Nat) {a b:au Int},a.length=b.length->xB (a.drop i) (b.drop i)≠0->xB a b=xB (a.drop i) (b.drop i)
 |0,_,_,_,_=>rfl
 |i+1,[],_,_,h=>by simp[xB]at h
 |i+1,_::_,[],h,_=>by simp at h
 |i+1,x::a,y::b,hl,h=>by
  have ih:=CD i (a:=a) (b:=b) (by simpa using hl) (by simpa using h)
  simp only[List.drop_succ_cons]at h⊢;rw[<-ih]at h⊢;rw[xB,bI h]
def Ua{c:cG}{L:Nat}{a b:au Int}(hb:a.length<1000000000)(hl:a.length=b.length): ∀(k m:Nat),k<=a.length->k<m->xB (a.drop k) (b.drop k)=0->
    Bg c L m a b ((k:Int)-1)=aa (iI (xB a b)):=by
 intro k;induction k with
 |zero=>
  intro m _ h2 h3;obtain⟨m,rfl⟩: ∃m',m=m'+1:=⟨m-1,by omega⟩
  rw[Bg,P5,bH (by omega: ¬(0:Int)<=((0:Nat):Int)-1),bS]
  simp only[List.drop_zero]at h3;rw[h3]
 |succ k ih=>
  intro m h1 h2 h3;obtain⟨m,rfl⟩: ∃m',m=m'+1:=⟨m-1,by omega⟩
  obtain⟨x,hx,ax⟩:=jR (show k<a.length by omega)
  obtain⟨y,hy,ay⟩:=jR (show k<b.length by omega)
  have e0:((k+1:Nat):Int)-1=(k:Int):=by omega
  rw[Bg,P5,e0,bG (by omega:(0:Int)<=(k:Int)),bV,cH,cH,hx,hy,cR,cR]
  have hk:xB (a.drop k) (b.drop k)=if x<y then-1 else if y<x then 1 else 0:=by rw[ax,ay,xB,bJ h3]
  by_cases e:x<y
  .rw[bJ e]at hk;rw[bG e,bV,CD k hl (by rw[hk];decide),hk]
  .rw[bI e]at hk;rw[bH e,bS,cR,cR];by_cases e':y<x
   .rw[bJ e']at hk;rw[bG e',bV,CD k hl (by rw[hk];decide),hk]
   .rw[bI e']at hk;rw[bH e',bS,wr (by omega) (by omega)]
    exact ih m (by omega) (by omega) hk
def Rh{a b:au Int}{L n:Nat}(hb:a.length<1000000000)(hL:a.length<L):cA L (n+1) 141 (Qr a b)=aa (iI (qV a b)):=by
 show cA L (n+1) 141 [⟨.sl (.int .i64),a⟩,⟨.sl (.int .i64),b⟩]=_;rw[bFA,aR1,YB];unfold qV;by_cases e:a.length=b.length
 .rw[bJ e,bG (by omega:(a.length:Int)=(b.length:Int)),bE,bS,wr (by omega) (by omega)]
  exact Ua hb e _ L (aS _) hL (by simp[xB])
 .rw[bI e,bH (by omega: ¬(a.length:Int)=(b.length:Int)),Bool.not_false,bV]
  by_cases e':a.length<b.length
  .rw[bJ e',bG (by omega:(a.length:Int)<(b.length:Int)),bV]
  .rw[bI e',bH (by omega: ¬(a.length:Int)<(b.length:Int)),bS]
def L8{b:au Int}{k:Nat}{y:Int}(h:b[k]?=aa y):hz (b.drop k)=y:=by
 by_cases e:k<b.length
 .obtain⟨z,h1,h2⟩:=jR e;rw[h1]at h;injection h with h;subst h;rw[h2];rfl
 .rw[List.getElem?_eq_none (by omega)]at h;cases h
def FU{b:au Int}{k:Nat}(h: ¬k<b.length):hz (b.drop k)=0:=by rw[eu (by omega)];rfl
def B2{l:au Int}(h:dg l){k:Nat}{x:Int}(hx:l[k]?=aa x):0<=x/\x<=9:=h x (List.mem_of_getElem? hx)
def Ui{c:cG}{L:Nat}{a b:au Int}(hb:a.length<10000000)(da:dg a)(db:dg b)(ht: ∀l:au Int,l.length<=a.length->c 140 (iS l)=aa (iS (kJ l))):
    ∀(l:au Int) (k m:Nat) (br:Int) (acc:au Int),a.drop k=l->l.length<m->acc.length=k->k<=a.length->(br=0∨br=1)->
    yP c L m a br b (k:Int) acc=aa (iS (kJ (acc++aAU l (b.drop k) br))):=by
 intro l;induction l with
 |nil=>
  intro k m br acc h1 h2 h3 h6 h4;obtain⟨m,rfl⟩: ∃m',m=m'+1:=⟨m-1,by simp at h2;omega⟩
  have e1:=cX h1;rw[yP,P4,bH (by omega: ¬(k:Int)<(a.length:Int)),bS,aAU,bB,show c 140 [⟨.sl (.int .i64),acc⟩]=aa (iS (kJ acc)) from ht acc (by omega),zE]
 |cons x l ih=>
  intro k m br acc h1 h2 h3 h6 h4;obtain⟨m,rfl⟩: ∃m',m=m'+1:=⟨m-1,by simp at h2;omega⟩
  obtain⟨a1,a2,a3⟩:=cZ h1;have dx:=B2 da a1;simp only[aM]at h2;have go: ∀y:Int,0<=y/\y<=9->hz (b.drop k)=y->PA c L (yP c L m) acc (x-br-y) (k:Int) a b=aa (iS (kJ (acc++aAU (x::l) (b.drop k) br))):=by
   intro y hy e;rw[PA,X9,aAU,e,List.tail_drop];by_cases e1:x-br-y<0
   .rw[bG e1,bV,bJ e1,Pz,P3,List.length_singleton,aIO (by omega),fN,eV (by omega),wr (by omega) (by omega)]
    rw[ih (k+1) m 1 _ a3 (by omega) (by simp[h3]) (by omega) (.inr rfl),aQ];rfl
   .rw[bH e1,bS,bI e1,Pz,P3,List.length_singleton,aIO (by omega),fN,eV (by omega)]
    rw[ih (k+1) m 0 _ a3 (by omega) (by simp[h3]) (by omega) (.inl rfl),aQ];rfl
  rw[yP,P4,bG (by omega:(k:Int)<(a.length:Int)),bV,cH,a1,cR,wr (by omega) (by omega)]
  by_cases e:k<b.length
  .obtain⟨y,hy,ay⟩:=jR e;have dy:=B2 db hy;rw[bG (by omega:(k:Int)<(b.length:Int)),bV,cH,hy,cR,wr (by omega) (by omega)]
   exact go y dy (L8 hy)
  .rw[bH (by omega: ¬(k:Int)<(b.length:Int)),bS]
   have:=go 0 (by omega) (FU e)
   rw[Int.sub_zero]at this;exact this
def RB{a b:au Int}{L n:Nat}(hb:a.length<10000000)(da:dg a)(db:dg b)(hL:a.length<L):cA L (n+2) 142 (Qr a b)=aa (iS (DR a b)):=by
 show cA L (n+2) 142 [⟨.sl (.int .i64),a⟩,⟨.sl (.int .i64),b⟩]=_;rw[bFz,aR0,YA];exact Ui hb da db (λl hl=>D7 (by omega) (by omega)) a 0 L 0 [] rfl hL rfl (by omega) (.inl rfl)
def aGm{a b:au Int}{c:Int}(h0:0<=c)(h1:c<=1)(h:a≠ []∨b≠ []∨0<c):zB a b c=((c+hz a+hz b)%10)::zB a.tail b.tail ((c+hz a+hz b)/10):=by
 cases a with
 |nil=>cases b with
  |nil=>
   have:c=1:=by simp at h;omega
   subst this;simp[zB,hz]
  |cons y b=>simp[zB,hz]
 |cons x a=>cases b with
  |nil=>simp[zB,hz]
  |cons y b=>simp[zB,hz]
def aC5{c:cG}{L:Nat}{a b:au Int}(ha:a.length<10000000)(hb:b.length<10000000)(da:dg a)(db:dg b):
    ∀(d k m:Nat) (cr:Int) (acc:au Int),max a.length b.length+1-k<=d->k<=max a.length b.length+1->(k=max a.length b.length+1->cr=0)->d<m->acc.length=k->0<=cr->cr<=1->
    sF c L m cr a b (k:Int) acc=aa (iS (acc++zB (a.drop k) (b.drop k) cr)):=by
 intro d;induction d with
 |zero=>
  intro k m cr acc h1 h1' h0 h2 h3 h4 h5;obtain⟨m,rfl⟩: ∃m',m=m'+1:=⟨m-1,by omega⟩
  have:cr=0:=h0 (by omega)
  subst this;rw[sF,PW,bH (by omega: ¬(k:Int)<(a.length:Int)),bS,bH (by omega: ¬(k:Int)<(b.length:Int)),bS,bH (by omega: ¬(0:Int)<0),Dd,HL,bS,eu (by omega),eu (by omega)]
  simp[zB]
 |succ d ih=>
  intro k m cr acc h1 h1' h0 h2 h3 h4 h5;obtain⟨m,rfl⟩: ∃m',m=m'+1:=⟨m-1,by omega⟩
  have fin: ∀x y:Int,(0<=x/\x<=9)->(0<=y/\y<=9)->hz (a.drop k)=x->hz (b.drop k)=y->(a.drop k≠ []∨b.drop k≠ []∨0<cr)->k<=max a.length b.length->
        Pt c L (sF c L m) acc (cr+x+y) (k:Int) a b=aa (iS (acc++zB (a.drop k) (b.drop k) cr)):=by
   intro x y hx hy ex ey hh hk;rw[Pt,XM,aGm h4 h5 hh,ex,ey,List.tail_drop,List.tail_drop];rw[show(!decide ((10:Int)=0))=ah from rfl,fN,List.length_singleton,aIO (by omega),fN,fN,Int.tmod_eq_emod_of_nonneg (by omega),Int.tdiv_eq_ediv_of_nonneg (by omega),wr (by omega) (by omega),eV (by omega)]
   rw[ih (k+1) m _ _ (by omega) (by omega) (λe=>?_) (by omega) (by simp[h3]) (by omega) (by omega),aQ]
   .rfl
   .have e1: ¬k<a.length:=by omega
    have e2: ¬k<b.length:=by omega
    rw[FU e1]at ex;rw[FU e2]at ey;omega
  have body:(a.drop k≠ []∨b.drop k≠ []∨0<cr)->k<=max a.length b.length->Dd c L (sF c L m) ah cr (k:Int) a b acc=aa (iS (acc++zB (a.drop k) (b.drop k) cr)):=by
   intro hh hk;have two: ∀x:Int,(0<=x/\x<=9)->hz (a.drop k)=x->Pu c L (sF c L m) acc (cr+x) (k:Int) a b=aa (iS (acc++zB (a.drop k) (b.drop k) cr)):=by
    intro x hx ex;rw[Pu,XN];by_cases e:k<b.length
    .obtain⟨y,hy,ay⟩:=jR e;have dy:=B2 db hy;rw[bG (by omega:(k:Int)<(b.length:Int)),bV,cH,hy,cR,wr (by omega) (by omega)]
     exact fin x y hx dy ex (L8 hy) hh hk
    .rw[bH (by omega: ¬(k:Int)<(b.length:Int)),bS]
     have:=fin x 0 hx (by omega) ex (FU e) hh hk
     rw[Int.add_zero]at this;exact this
   rw[Dd,HL,bV];by_cases e:k<a.length
   .obtain⟨x,hx,ax⟩:=jR e;have dx:=B2 da hx;rw[bG (by omega:(k:Int)<(a.length:Int)),bV,cH,hx,cR,wr (by omega) (by omega)]
    exact two x dx (L8 hx)
   .rw[bH (by omega: ¬(k:Int)<(a.length:Int)),bS]
    have:=two 0 (by omega) (FU e)
    rw[Int.add_zero]at this;exact this
  rw[sF,PW];by_cases e:k<a.length
  .rw[bG (by omega:(k:Int)<(a.length:Int)),bV]
   exact body (.inl λh=>by rw[List.drop_eq_nil_iff]at h;omega) (by omega)
  .rw[bH (by omega: ¬(k:Int)<(a.length:Int)),bS]
   by_cases e':k<b.length
   .rw[bG (by omega:(k:Int)<(b.length:Int)),bV]
    exact body (.inr (.inl λh=>by rw[List.drop_eq_nil_iff]at h;omega)) (by omega)
   .rw[bH (by omega: ¬(k:Int)<(b.length:Int)),bS]
    by_cases e'':0<cr
    .rw[bG e''];exact body (.inr (.inr e'')) (by omega)
    .have:cr=0:=by omega
     subst this;rw[bH e'',Dd,HL,bS,eu (by omega),eu (by omega)]
     simp[zB]
def aOq{a b:au Int}{L n:Nat}(ha:a.length<10000000)(hb:b.length<10000000)(da:dg a)(db:dg b)(hL:max a.length b.length+1<L):cA L (n+1) 180 (Qr a b)=aa (iS (zB a b 0)):=by
 show cA L (n+1) 180 [⟨.sl (.int .i64),a⟩,⟨.sl (.int .i64),b⟩]=_;rw[bFh,aRI,XO];exact aC5 ha hb da db (max a.length b.length+1) 0 L 0 [] (by omega) (by omega) (by omega) hL rfl (by omega) (by omega)
end
end Go.TV
