import Derived.Test.YtgfhobcfdppbdaaGreatDoorKd
open Option renaming some->aa,none->ad
open Bool renaming true->ae,false->ah
open Decidable renaming decide->aj
open Nat renaming beq->am,ble->an,blt->d8
open Go renaming TypeId->av,Operand->az
set_option linter.unusedVariables false
set_option linter.unusedSimpArgs false
set_option linter.constructorNameAsVariable false
set_option linter.defProp false
namespace Go.TV
open Go.AI Go.PI
inductive Ty where
 |int (k:IntKind)
 |bool
 |str
 |sl (t:Ty)
 |rc (n:Nat)
 deriving Inhabited
def Ty.beq:Ty->Ty->Bool
 | .int k,.int j=>decide (k=j)
 | .bool,.bool=>ae
 | .str,.str=>ae
 | .sl a,.sl b=>a.beq b
 | .rc n,.rc m=>am n m
 |_,_=>ah
def Ty.beq_eq: ∀{a b:Ty},a.beq b=ae->a=b
 | .int k,.int j,h=>by simp only[Ty.beq,aD]at h;rw[h]
 | .bool,.bool,_=>rfl
 | .str,.str,_=>rfl
 | .sl a,.sl b,h=>by simp only[Ty.beq]at h;rw[Ty.beq_eq h]
 | .rc n,.rc m,h=>by simp only[Ty.beq]at h;rw[aE h]
 | .int _,.bool,h=>by cases h
 | .int _,.str,h=>by cases h
 | .int _,.sl _,h=>by cases h
 | .int _,.rc _,h=>by cases h
 | .bool,.int _,h=>by cases h
 | .bool,.str,h=>by cases h
 | .bool,.sl _,h=>by cases h
 | .bool,.rc _,h=>by cases h
 | .str,.int _,h=>by cases h
 | .str,.bool,h=>by cases h
 | .str,.sl _,h=>by cases h
 | .str,.rc _,h=>by cases h
 | .sl _,.int _,h=>by cases h
 | .sl _,.bool,h=>by cases h
 | .sl _,.str,h=>by cases h
 | .sl _,.rc _,h=>by cases h
 | .rc _,.int _,h=>by cases h
 | .rc _,.bool,h=>by cases h
 | .rc _,.str,h=>by cases h
 | .rc _,.sl _,h=>by cases h
def Ty.beq_rfl: ∀(a:Ty),a.beq a=ae
 | .int k=>by simp[Ty.beq]
 | .bool=>rfl
 | .str=>rfl
 | .sl a=>by simp only[Ty.beq,Ty.beq_rfl a]
 | .rc n=>by simp[Ty.beq]
def Ty.dec(a b:Ty):Decidable (a=b):=
 match h:a.beq b with
 |true=>isTrue (Ty.beq_eq h)
 |false=>isFalse λe=>by rw[e,Ty.beq_rfl]at h;cases h
@[reducible] def Den (D:Nat->Type):Ty->Type
 | .int _=>Int
 | .bool=>Bool
 | .str=>List UInt8
 | .sl t=>List (Den D t)
 | .rc n=>D n
structure TV(D:Nat->Type) where
 t:Ty
 x:Den D t
def UG{D:Nat->Type}(t u:Ty)(x:Den D t):Option (Den D u):=
 match Ty.dec t u with
 |isTrue h=>aa (h▸x)
 |isFalse _=>ad
structure hJ where
 D:Nat->Type
 fs:Nat->List Ty
 un:(n:Nat)->D n->List (TV D)
 of:(n:Nat)->List (TV D)->Option (D n)
 en:(n:Nat)->D n->List PV
 eq:(n:Nat)->Option (D n->D n->Bool)
 zero:(n:Nat)->D n
 sz:Nat->Nat
 lt:Nat->List Ty
structure TT where
 ty:av->Option Ty
 by':av->Nat
 fn:av->Bool
 arr:av->Bool
def Qa(T:TT)(t:av):Option Ty:=bif T.arr t then ad else T.ty t
abbrev jC:=List (Nat×Bool)
inductive SV(D:Nat->Type) where
 |val (v:TV D)
 |tup (l:List (TV D))
 |nl
 |lc (k off:Nat) (path:List Nat)
 |ep (v:TV D)
 |rw (k:Nat)
 |rp (k:Nat) (i:Int) (off:Nat) (path:List Nat)
 |cl (f:Nat) (caps:List Nat)
 |nf
 |zr (l:List PV)
 |no
inductive BC(D:Nat->Type) where
 |bx (s:SV D) (r:jC)
 |row (t:Ty) (l:List (Den D t))
 |gone
abbrev TS(D:Nat->Type):=List (Nat×(SV D×jC))
structure TM(D:Nat->Type) where
 bx:List (Nat×BC D)
 wr:List Nat
def lW{D:Nat->Type}:TS D->Nat->SV D×jC
 |[],_=>(.no,[])
 |(k,x)::S,t=>bif am k t then x else lW S t
def dL{D:Nat->Type}:List (Nat×BC D)->Nat->Option (BC D)
 |[],_=>ad
 |(k,x)::S,t=>bif am k t then aa x else dL S t
def qU{D:Nat->Type}:List (Nat×BC D)->Nat->BC D->List (Nat×BC D)
 |[],_,_=>[]
 |(k,x)::S,t,y=>bif am k t then(k,y)::S else(k,x)::qU S t y
def ob{N W:Type}(a:Option N)(K:N->Option W):Option W:=match a with|some x=>K x|none=>ad
def jY{W:Type}(b:Bool)(K:Option W):Option W:=match b with|true=>K|false=>ad
def bR{W:Type}(b:Bool)(A B:Option W):Option W:=match b with|true=>A|false=>B
@[reducible] def DenL (D:Nat->Type):List Ty->Type
 |[]=>Unit
 |t::ts=>Den D t×DenL D ts
def fK{D:Nat->Type}:(ts:List Ty)->List (TV D)->Option (DenL D ts)
 |[],[]=>aa ()
 |t::ts,v::vs=>match UG v.t t v.x,fK ts vs with
  |some x,aa r=>aa (x,r)
  |_,_=>ad
 |_,_=>ad
def aNj{D:Nat->Type}:(ts:List Ty)->DenL D ts->List (TV D)
 |[],_=>[]
 |t::ts,r=>⟨t,r.1⟩::aNj ts r.2
def fN{D:Nat->Type}{W:Type}(ts:List Ty)(a:Option (List (TV D)))(K:DenL D ts->Option W):Option W:=
 match a with
 |some l=>match fK ts l with
  |some r=>K r
  |none=>ad
 |none=>ad
def cU{N:Type}(l:List N)(n:Int):Option N:=bif aj (0<=n)then l[n.toNat]? else ad
def slc{N:Type}(l:List N)(lo hi:Int):Option (List N):=
 bif aj (0<=lo)&&aj (lo<=hi)&&aj (hi<=(l.length:Int))then aa ((l.take hi.toNat).drop lo.toNat)else ad
section
variable(U:hJ)
abbrev V:=TV U.D
abbrev X:=SV U.D×jC
def dJ:Ty->Nat
 | .rc n=>U.sz n
 |_=>1
def jH:Ty->List Ty
 | .rc n=>U.lt n
 |t=>[t]
def eQ:List Ty->Nat
 |[]=>0
 |t::ts=>dJ U t+eQ ts
def kF(n i:Nat):Nat:=eQ U ((U.fs n).take i)
def pN:(t:Ty)->Den U.D t
 | .int _=>(0:Int)
 | .bool=>ah
 | .str=>[]
 | .sl _=>[]
 | .rc n=>U.zero n
def a26:Nat->List Ty->Nat->jC
 |0,_,_=>[]
 |_,[],_=>[]
 |f+1,t::ts,o=>(match t with| .sl _=>[(o,ae)]| .rc n=>a26 f (U.fs n) o|_=>[])++a26 f ts (o+dJ U t)
def AS:Ty->jC
 | .sl _=>[(0,ae)]
 | .rc n=>a26 U 60 (U.fs n) 0
 |_=>[]
def Li(v:V U)(i:Nat):Option (V U):=
 match v with
 |⟨.rc n,x⟩=>(U.un n x)[i]?
 |_=>ad
def bKX(t:Ty)(i:Nat):Nat:=match t with| .rc n=>kF U n i|_=>0
def A7:List Nat->V U->Option (V U×Nat)
 |[],v=>aa (v,0)
 |i::p,v=>match Li U v i with
  |some w=>match A7 p w with
   |some r=>aa (r.1,bKX U v.t i+r.2)
   |none=>ad
  |none=>ad
def aCj:List Nat->V U->V U->Option (V U)
 |[],v,w=>bif v.t.beq w.t then aa w else ad
 |i::p,v,w=>match v with
  |⟨.rc n,x⟩=>match(U.un n x)[i]? with
   |some y=>match aCj p y w with
    |some y'=>match U.of n ((U.un n x).set i y')with
     |some z=>aa ⟨.rc n,z⟩
     |none=>ad
    |none=>ad
   |none=>ad
  |_=>ad
def EC(o:Nat):jC->Bool
 |[]=>ah
 |x::xs=>am x.1 o||EC o xs
def RD(o n:Nat):jC->jC
 |[]=>[]
 |x::xs=>bif an o x.1&&d8 x.1 (o+n)then(x.1-o,x.2)::RD o n xs else RD o n xs
def a6c(o n:Nat):jC->jC
 |[]=>[]
 |x::xs=>bif an o x.1&&d8 x.1 (o+n)then a6c o n xs else x::a6c o n xs
def bAx(o:Nat):jC->jC
 |[]=>[]
 |x::xs=>(x.1+o,x.2)::bAx o xs
def leR:jC->jC->Bool
 |[],_=>ae
 |x::xs,r=>memW x r&&leR xs r
where memW (x:Nat×Bool):jC->Bool
 |[]=>ah
 |y::ys=>(am x.1 y.1&&(!x.2||y.2))||memW x ys
def Tq:Bool->jC
 |true=>[(0,ae)]
 |false=>[]
def qA:jC->Bool
 |[]=>ah
 |x::xs=>(am x.1 0&&x.2)||qA xs
def aNh:Ty->List PV
 | .int k=>[.v (.int k 0)]
 | .bool=>[.v (.bool ah)]
 | .str=>[.str []]
 | .sl _=>[.nil]
 | .rc _=>[]
def aDD:List PV->List PV->Bool
 |[],[]=>ae
 | .v (.int k n)::l,.v (.int j m)::r=>decide (k=j)&&aj (n=m)&&aDD l r
 | .v (.bool b)::l,.v (.bool c)::r=>decide (b=c)&&aDD l r
 | .v .nilFunc::l,.v .nilFunc::r=>aDD l r
 | .str s::l,.str u::r=>s.isEmpty&&u.isEmpty&&aDD l r
 | .nil::l,.nil::r=>aDD l r
 |_,_=>ah
def bQJ:Value->SV U.D
 | .bool b=> .val ⟨.bool,b⟩
 | .int k n=> .val ⟨.int k,n⟩
 | .string s=> .val ⟨.str,s.data.toList⟩
 | .slice ad _ _=> .nl
 | .nilFunc=> .nf
 | .agg ⟨cs⟩=> .zr (ofVs cs)
 |_=> .no
def jI(S:TS U.D):az->X U
 | .tmp t=>lW S t
 | .const v=>match bQJ U v with| .nl=>(.nl,[(0,ae)])|x=>(x,[])
 | .func f=>(.cl f [],[])
 |_=>(.no,[])
def IV(t:Ty):SV U.D->Option (V U)
 | .val v=>bif v.t.beq t then aa v else ad
 | .nl=>match t with| .sl e=>aa ⟨.sl e,[]⟩|_=>ad
 | .zr l=>match t with| .rc n=>bif aDD l ((U.lt n).flatMap aNh)then aa ⟨.rc n,U.zero n⟩else ad|_=>ad
 |_=>ad
def bIf(t:Option Ty)(s:SV U.D):SV U.D:=
 match s with
 | .zr l=>match t with|some ty=>(match IV U ty (.zr l)with|some v=> .val v|none=> .no)|none=> .no
 |s=>s
def lV:Ty->Bool
 | .rc _=>ae
 |_=>ah
def tM(x:X U):X U:=
 match x.1 with
 | .val v=>(x.1,bif lV v.t then x.2 else [])
 | .nl=>(.nl,[(0,ae)])
 |_=>(x.1,[])
def vM(S:TS U.D):az->TS U.D
 | .tmp t=>(t,tM U (lW S t))::S
 |_=>S
def aCr(S:TS U.D)(d:Option Tmp)(x:X U):TS U.D:=
 match d with
 |some d=>(d,x)::S
 |none=>S
section
variable{W:Type}
def aGZ(op:BinOp)(k:IntKind)(a b:Int)(K:V U->Option W):Option W:=
 match op with
 | .eql=>K ⟨.bool,aj (a=b)⟩
 | .neq=>K ⟨.bool,!decide (a=b)⟩
 | .lss=>K ⟨.bool,aj (a<b)⟩
 | .leq=>K ⟨.bool,aj (a<=b)⟩
 | .gtr=>K ⟨.bool,aj (b<a)⟩
 | .geq=>K ⟨.bool,aj (b<=a)⟩
 | .add=>K ⟨.int k,k.wrap (a+b)⟩
 | .sub=>K ⟨.int k,k.wrap (a-b)⟩
 | .mul=>K ⟨.int k,k.wrap (a*b)⟩
 | .quo=>jY (!decide (b=0)) (K ⟨.int k,k.wrap (a.tdiv b)⟩)
 | .rem=>jY (!decide (b=0)) (K ⟨.int k,a.tmod b⟩)
 | .and=>K ⟨.int k,k.wrap ((BitVec.ofInt k.bits a&&&BitVec.ofInt k.bits b).toNat:Int)⟩
 | .or=>K ⟨.int k,k.wrap ((BitVec.ofInt k.bits a|||BitVec.ofInt k.bits b).toNat:Int)⟩
 | .xor=>K ⟨.int k,k.wrap ((BitVec.ofInt k.bits a^^^BitVec.ofInt k.bits b).toNat:Int)⟩
 | .andNot=>K ⟨.int k,k.wrap ((BitVec.ofInt k.bits a&&& ~~~ BitVec.ofInt k.bits b).toNat:Int)⟩
 |_=>ad
def bAw(op:BinOp)(k:IntKind)(a b:Int)(K:V U->Option W):Option W:=
 match op with
 | .shl=>jY (aj (0<=b)) (K ⟨.int k,k.wrap (a*2^(min b.toNat k.bits))⟩)
 | .shr=>jY (aj (0<=b)) (K ⟨.int k,a.fdiv (2^(min b.toNat k.bits))⟩)
 |_=>ad
def aEa(op:BinOp)(a b:List UInt8)(K:V U->Option W):Option W:=
 match op with
 | .eql=>K ⟨.bool,aj (a=b)⟩
 | .neq=>K ⟨.bool,!decide (a=b)⟩
 | .lss=>K ⟨.bool,Op.bytesLess a b⟩
 | .leq=>K ⟨.bool,Op.bytesLess a b||aj (a=b)⟩
 | .gtr=>K ⟨.bool,!(Op.bytesLess a b||aj (a=b))⟩
 | .geq=>K ⟨.bool,!Op.bytesLess a b⟩
 | .add=>jY (an (a.length+b.length) 1000000000) (K ⟨.str,a++b⟩)
 |_=>ad
def aAF:BinOp->Bool
 | .shl| .shr=>ae
 |_=>ah
def aDd(op:BinOp)(t:Option Ty)(a b:SV U.D)(K:V U->Option W):Option W:=
 match a,b with
 | .val ⟨.int k,x⟩,.val ⟨.int j,y⟩=>bif aAF op then bAw U op k x y K else bif aj (k=j)then aGZ U op k x y K else ad
 | .val ⟨.bool,x⟩,.val ⟨.bool,y⟩=>match t,op with
  |some .bool,.eql=>K ⟨.bool,x==y⟩
  |some .bool,.neq=>K ⟨.bool,!(x==y)⟩
  |_,_=>ad
 | .val ⟨.str,x⟩,.val ⟨.str,y⟩=>aEa U op x y K
 | .val ⟨.rc n,x⟩,.val ⟨.rc m,y⟩=>match t with
  |some (.rc i)=>match U.eq i,UG (.rc n) (.rc i) x,UG (.rc m) (.rc i) y with
   |some f,aa x,aa y=>match op with
    | .eql=>K ⟨.bool,f x y⟩
    | .neq=>K ⟨.bool,!f x y⟩
    |_=>ad
   |_,_,_=>ad
  |_=>ad
 | .val ⟨.sl e,x⟩,.nl=>match t,op with
  |some (.sl _),.eql=>jY (!x.isEmpty) (K ⟨.bool,ah⟩)
  |some (.sl _),.neq=>jY (!x.isEmpty) (K ⟨.bool,ae⟩)
  |_,_=>ad
 |_,_=>ad
def a8H(op:UnOp)(a:SV U.D)(K:V U->Option W):Option W:=
 match op,a with
 | .not,.val ⟨.bool,b⟩=>K ⟨.bool,!b⟩
 | .neg,.val ⟨.int k,n⟩=>K ⟨.int k,k.wrap (0-n)⟩
 |_,_=>ad
def qH:List Int->Option (List UInt8)
 |[]=>aa []
 |n::r=>match qH r with|some l=>aa (UInt8.ofNat n.toNat::l)|none=>ad
def IN(sq:Bool)(s d:Option Ty)(a:SV U.D)(K:V U->Option W):Option W:=
 match s,d,a with
 |some (.int _),aa (.int j),.val ⟨.int k,n⟩=>K ⟨.int j,j.wrap n⟩
 |some .str,aa .str,.val ⟨.str,x⟩=>K ⟨.str,x⟩
 |some (.sl (.int .u8)),aa .str,.val ⟨.sl (.int .u8),l⟩=>bif sq then ob (qH l) λx=>K ⟨.str,x⟩else ad
 |_,_,_=>ad
def HR(w:Bool)(a b:X U)(K:X U->Option W):Option W:=
 match a.1,b.1 with
 | .val ⟨t,x⟩,.val ⟨u,y⟩=>match UG u t y with
  |some y=>K (.val ⟨t,bif w then x else y⟩,[])
  |none=>ad
 |_,_=>bR w (K (tM U a)) (K (tM U b))
def BA:List Ty->List (V U×Bool)
 |[]=>[]
 |t::ts=>(⟨t,pN U t⟩,ae)::BA ts
def setF:List (V U×Bool)->Nat->V U×Bool->List (V U×Bool)
 |[],_,_=>[]
 |_::l,0,x=>x::l
 |y::l,i+1,x=>y::setF l i x
def aDb(S:TS U.D):List (V U×Bool)->List (Nat×az)->Option (List (V U×Bool))
 |l,[]=>aa l
 |l,(i,x)::r=>match l[i]? with
  |some y=>match IV U y.1.t (jI U S x).1 with
   |some v=>aDb S (setF U l i (v,match(jI U S x).1 with| .nl=>ae|_=>ah)) r
   |none=>ad
  |none=>ad
def aGz:List (V U×Bool)->Nat->jC
 |[],_=>[]
 |y::l,o=>(match y.2 with|true=>bAx o (AS U y.1.t)|false=>[])++aGz l (o+dJ U y.1.t)
def aHA{N I:Type}:List (N×I)->List N
 |[]=>[]
 |x::l=>x.1::aHA l
def aNW{N:Type}:List N->Nat->N->List N
 |[],_,_=>[]
 |_::l,0,x=>x::l
 |y::l,i+1,x=>y::aNW l i x
def aDa(S:TS U.D)(e:Ty):List (Den U.D e)->List (Nat×az)->Option (List (Den U.D e))
 |l,[]=>aa l
 |l,(i,x)::r=>match IV U e (jI U S x).1 with
  |some v=>match UG v.t e v.x with
   |some w=>bif d8 i l.length then aDa S e (aNW l i w) r else ad
   |none=>ad
  |none=>ad
def qZ{N:Type}(x:N):Nat->List N
 |0=>[]
 |n+1=>x::qZ x n
def aGa:Option (SV U.D)->Option (Option Int)
 |none=>aa ad
 |some (.val ⟨.int _,n⟩)=>aa (aa n)
 |_=>ad
def bEL:Option az->Bool
 |some (.const (.int _ n))=>decide (n=0)
 |_=>ah
def a8L(S:TS U.D)(t:Option Ty)(x:SV U.D)(lo hi mx:Option az)(K:X U->Option W):Option W:=
 match t,x,aGa U (lo.map λx=>(jI U S x).1),aGa U (hi.map λx=>(jI U S x).1),aGa U (mx.map λx=>(jI U S x).1)with
 |some .str,.val ⟨.str,s⟩,aa l,aa h,aa ad=>ob (slc s (l.getD 0) (h.getD (s.length:Int))) λr=>K (.val ⟨.str,r⟩,[])
 |some (.sl e),.val ⟨.sl e',s⟩,aa l,aa h,aa ad=>bif e.beq e' then ob (slc s (l.getD 0) (h.getD (s.length:Int))) λr=>K (.val ⟨.sl e',r⟩,[])else ad
 |some (.sl e),.val ⟨.sl e',s⟩,aa l,aa (aa h),aa (aa m)=>bif e.beq e' then bif bEL mx then jY (List.isEmpty s&&aj (l.getD 0=0)&&aj (h=0)&&aj (m=0)) (K (.val ⟨.sl e',[]⟩,[(0,ae)]))
  else jY (aj (h=m)&&aj (l.getD 0<h)) (ob (slc s (l.getD 0) h) λr=>K (.val ⟨.sl e',r⟩,[(0,ae)]))else ad
 |_,_,_,_,_=>ad
def aCL(t:Option Ty)(x:SV U.D)(K:X U->Option W):Option W:=
 match t,x with
 |some (.sl e),.val ⟨.sl e',l⟩=>bif e.beq e' then K (.val ⟨.int .i64,(l.length:Int)⟩,[])else ad
 |some .str,.val ⟨.str,l⟩=>K (.val ⟨.int .i64,(l.length:Int)⟩,[])
 |some (.sl _),.nl=>K (.val ⟨.int .i64,(0:Int)⟩,[])
 |_,_=>ad
def a3g(mx:Bool)(a b:SV U.D)(K:X U->Option W):Option W:=
 match a,b with
 | .val ⟨.int .i64,x⟩,.val ⟨.int .i64,y⟩=>K (.val ⟨.int .i64,bif mx then(bif aj (x<y)then y else x)else(bif aj (y<x)then y else x)⟩,[])
 |_,_=>ad
end
section
variable(T:TT){W:Type}
def CI:Ty->Bool
 | .sl _=>ae
 |_=>ah
def a8Q(take:Bool)(M:TM U.D)(t:av)(a:SV U.D)(K:X U->TM U.D->Option W):Option W:=
 match a with
 | .ep v=>match T.ty t with
  |some ty=>bif v.t.beq ty then K (.val v,[]) M else ad
  |none=>ad
 | .lc k off p=>match dL M.bx k with
  |some (.bx c rs)=>match c with
   | .val c=>match T.ty t,A7 U p c with
    |some ty,aa (w,o)=>bif w.t.beq ty&&am o off then
            (bif take&&CI ty&&EC off rs then K (.val w,RD off 1 rs) ⟨qU M.bx k (.bx (.val c) (a6c off 1 rs)),M.wr⟩else K (.val w,[]) M)else ad
    |_,_=>ad
   | .cl f caps=>match p with
    |[]=>bif T.fn t&&am off 0 then K (.cl f caps,[]) M else ad
    |_=>ad
   |_=>ad
  |_=>ad
 | .rp k i off p=>match dL M.bx k with
  |some (.row e l)=>ob (cU l i) λy=>match T.ty t,A7 U p ⟨e,y⟩with
   |some ty,aa (w,o)=>bif w.t.beq ty&&am o off then K (.val w,[]) M else ad
   |_,_=>ad
  |_=>ad
 |_=>ad
def stT(M:TM U.D)(t:av)(a:SV U.D)(x:X U)(K:TM U.D->Option W):Option W:=
 match a with
 | .lc k off p=>match dL M.bx k with
  |some (.bx c rs)=>match c with
   | .val c=>match T.ty t,A7 U p c with
    |some ty,aa (w,o)=>bif w.t.beq ty&&am o off then
            match IV U ty x.1 with
            |some v=>match aCj U p c v with
              |some c'=>K ⟨qU M.bx k (.bx (.val c') (bAx off x.2++a6c off (dJ U ty) rs)),k::M.wr⟩
              |none=>ad
            |none=>ad
     else ad
    |_,_=>ad
   |_=>match p,x.1 with
    |[],.cl f caps=>bif T.fn t&&am off 0&&isF c then K ⟨qU M.bx k (.bx (.cl f caps) []),k::M.wr⟩else ad
    |_,_=>ad
  |_=>ad
 | .rp k i off p=>match dL M.bx k with
  |some (.row e l)=>ob (cU l i) λy=>match T.ty t,A7 U p ⟨e,y⟩with
   |some ty,aa (w,o)=>bif w.t.beq ty&&am o off then
          match IV U ty x.1 with
          |some v=>match aCj U p ⟨e,y⟩ v with
            |some c'=>match UG c'.t e c'.x with
              |some z=>K ⟨qU M.bx k (.row e (l.set i.toNat z)),k::M.wr⟩
              |none=>ad
            |none=>ad
          |none=>ad
    else ad
   |_,_=>ad
  |_=>ad
 |_=>ad
where isF:SV U.D->Bool
 | .cl _ _=>ae
 | .nf=>ae
 |_=>ah
def GU(M:TM U.D)(k:Nat)(c:BC U.D)(K:TM U.D->Option W):Option W:=
 match dL M.bx k with
 |none=>K ⟨(k,c)::M.bx,M.wr⟩
 |some _=>ad
def a80(M:TM U.D)(d:Option Tmp)(t:av)(K:X U->TM U.D->Option W):Option W:=
 match d with
 |some d=>match T.ty t with
  |some ty=>GU U M (100+d) (.bx (.val ⟨ty,pN U ty⟩) (AS U ty)) λM'=>K (.lc (100+d) 0 [],[]) M'
  |none=>bif T.fn t then GU U M (100+d) (.bx .nf []) λM'=>K (.lc (100+d) 0 [],[]) M' else ad
 |none=>ad
def a8Y(M:TM U.D)(d:Option Tmp)(t:av)(x:X U)(K:X U->TM U.D->Option W):Option W:=
 match d with
 |some d=>match T.ty t with
  |some ty=>match IV U ty x.1 with
   |some v=>GU U M (100+d) (.bx (.val v) (tM U x).2) λM'=>K (.lc (100+d) 0 [],[]) M'
   |none=>ad
  |none=>match x.1 with
   | .cl f caps=>GU U M (100+d) (.bx (.cl f caps) []) λM'=>K (.lc (100+d) 0 [],[]) M'
   |_=>ad
 |none=>ad
def bLE:az->Bool
 | .const (.int _ n)=>decide (n=0)
 |_=>ah
def a8P(M:TM U.D)(d:Option Tmp)(t:av)(z:Bool)(e:av->Option av)(l c:SV U.D)(K:X U->TM U.D->Option W):Option W:=
 match T.ty t,e t,l,c with
 |some (.sl et),aa fm,.val ⟨.int .i64,n⟩,.val ⟨.int .i64,k⟩=>
  jY (aj (0<=n)&&aj (n<=k)&&aj (k*(T.by' fm:Int)<=1073741824)&&aj (k<=1073741824))
   (bif z then jY (aj (n=0)) (K (.val ⟨.sl et,[]⟩,[(0,ah)]) M)
    else jY (aj (n=k)) (match d with
    |some d=>GU U M (100+d) (.row et (qZ (pN U et) n.toNat)) λM'=>K (.rw (100+d),[]) M'
    |none=>ad))
 |_,_,_,_=>ad
def a8Z(e:av->Option av)(ts:List av)(s:X U)(x:SV U.D)(K:X U->Option W):Option W:=
 match ts with
 |[t,t1]=>match T.ty t,e t,T.ty t1 with
  |some (.sl et),aa fm,aa (.sl _)=>match IV U (.sl et) s.1,IV U (.sl et) x with
   |some ⟨a,l⟩,aa ⟨b,r⟩=>match UG a (.sl et) l,UG b (.sl et) r with
    |some l,aa r=>bif EC 0 s.2 then jY (an ((l.length+r.length)*T.by' fm) 1073741824) (K (.val ⟨.sl et,l++r⟩,s.2))else jY r.isEmpty (K (.val ⟨.sl et,l⟩,[]))
    |_,_=>ad
   |_,_=>ad
  |_,_,_=>ad
 |_=>ad
def aDh(e:av->Option av)(ts:List av)(t1 t2:av)(s:X U)(zz n x:SV U.D)(K:V U->V U->Option W):Option W:=
 match ts with
 |[t,tz]=>match T.ty t,e t,T.ty tz with
  |some (.sl et),aa fm,aa (.sl _)=>match IV U (.sl et) s.1,IV U (.sl et) zz,n,IV U et x with
   |some ⟨a,l⟩,aa ⟨b,y⟩,.val ⟨.int _,k⟩,aa v=>match UG a (.sl et) l,UG b (.sl et) y,UG v.t et v.x with
    |some l,aa [_],aa w=>bif EC 0 s.2&&am t1 t&&am t2 fm then
            jY (an ((l.length+1)*T.by' fm) 1073741824&&aj (k=(l.length:Int))) (K ⟨.sl et,l++ [w]⟩ ⟨et,w⟩)else ad
    |_,_,_=>ad
   |_,_,_,_=>ad
  |_,_,_=>ad
 |_=>ad
end
inductive Sh where
 |val (t:Ty)
 |tup (ts:List Ty)
 |nl
 |lc (k off:Nat) (path:List Nat)
 |ep (t:Ty)
 |rw (k:Nat)
 |cl (f:Nat) (caps:List Nat)
 |nf
 |row (t:Ty)
 |no
structure Sz where
 f:Nat
 ps:List (Sh×Bool)
 bx:List (Sh×jC)
 bo:List jC
 rs:List Ty
 own:Bool
abbrev pX(D:Nat->Type):=Nat->List (TV D)->Option (List (TV D))
def jR:List Nat->Nat->Nat
 |[],_=>0
 |x::_,0=>x
 |_::l,i+1=>jR l i
def yX:List Nat->List Nat->Bool
 |[],[]=>ae
 |x::xs,y::ys=>am x y&&yX xs ys
 |_,_=>ah
def KX(f:Nat->Nat):List Nat->List Nat
 |[]=>[]
 |x::l=>f x::KX f l
def eA(i:Nat):List Nat->Bool
 |[]=>ah
 |x::xs=>am x i||eA i xs
def wF:List Nat->Nat->Bool
 |[],_=>ae
 |x::xs,n=>d8 x n&&wF xs n
def Cc:List Nat->List Nat->Bool
 |[],_=>ae
 |x::xs,l=>eA x l&&Cc xs l
def QY:List Nat->Bool
 |[]=>ae
 |x::xs=> !eA x xs&&QY xs
def HS(take:Bool):TS U.D->List az->List (X U)×TS U.D
 |S,[]=>([],S)
 |S,x::xs=>(((jI U S x).1,bif take then(jI U S x).2 else [])::(HS take (bif take then vM U S x else S) xs).1,(HS take (bif take then vM U S x else S) xs).2)
def nX(bk:List Nat):List (Sh×Bool)->List (X U)->Option (List (V U))
 |[],[]=>aa []
 |(.val t,own)::ps,x::xs=>match IV U t x.1,nX bk ps xs with
  |some v,aa l=>bif !own||(qA x.2&& !lV t)then aa (v::l)else ad
  |_,_=>ad
 |(.lc j off p,own)::ps,(.lc k fq p',_)::xs=>bif !own&&d8 j bk.length&&am k (jR bk j)&&am off fq&&yX p p' then nX bk ps xs else ad
 |(.cl f caps,own)::ps,(.cl f' cm,_)::xs=>bif !own&&am f f'&&wF caps bk.length&&yX (KX (jR bk) caps) cm then nX bk ps xs else ad
 |(.rw j,own)::ps,(.rw k,_)::xs=>bif !own&&d8 j bk.length&&am k (jR bk j)then nX bk ps xs else ad
 |_,_=>ad
def ED(bk:List Nat)(M:TM U.D):List (Sh×jC)->Nat->Option (List (V U))
 |[],_=>aa []
 |(s,r)::l,j=>match dL M.bx (jR bk j),ED bk M l (j+1)with
  |some (.bx c rs),aa d=>bif leR r rs then
        match s,c with
        | .val t,.val v=>bif v.t.beq t then aa (v::d)else ad
        | .cl f caps,.cl f' cm=>bif am f f'&&wF caps bk.length&&yX (KX (jR bk) caps) cm then aa d else ad
        |_,_=>ad
   else ad
  |some (.row e x),aa d=>match s with
   | .row t=>bif e.beq t then aa (⟨.sl e,x⟩::d)else ad
   |_=>ad
  |_,_=>ad
def HU:List (Sh×jC)->List Ty
 |[]=>[]
 |(.val t,_)::l=>t::HU l
 |(.row t,_)::l=> .sl t::HU l
 |_::l=>HU l
def fL:List (Sh×jC)->List jC->List (V U)->Option (List (BC U.D))
 |[],[],[]=>aa []
 |(.val _,_)::l,r::rs,v::d=>match fL l rs d with|some m=>aa (.bx (.val v) r::m)|none=>ad
 |(.cl f caps,_)::l,_::rs,d=>match fL l rs d with|some m=>aa (.bx (.cl f caps) []::m)|none=>ad
 |(.row _,_)::l,_::rs,⟨.sl e,x⟩::d=>match fL l rs d with|some m=>aa (.row e x::m)|none=>ad
 |_,_,_=>ad
def bBV(bk:List Nat):SV U.D->SV U.D
 | .cl f caps=> .cl f (KX (jR bk) caps)
 |s=>s
def aEK(bk:List Nat):BC U.D->BC U.D
 | .bx s r=> .bx (bBV U bk s) r
 |b=>b
def Qx(bk:List Nat):List (BC U.D)->Nat->List (Nat×BC U.D)->List (Nat×BC U.D)
 |[],_,m=>m
 |x::l,j,m=>Qx bk l (j+1) (qU m (jR bk j) (aEK U bk x))
def C6(own:Bool):List (V U)->X U
 |[v]=>(.val v,Tq own)
 |[v,⟨.bool,b⟩]=>(.tup [v,⟨.bool,b⟩],Tq (own&&b))
 |l=>(.tup l,[])
def aCh{W:Type}(own:Bool)(l:List (V U))(K:X U->Option W):Option W:=
 match own,l with
 |true,[v,⟨.bool,b⟩]=>bR b (K (C6 U ae [v,⟨.bool,ae⟩])) (K (C6 U ae [v,⟨.bool,ah⟩]))
 |_,_=>K (C6 U own l)
variable(T:TT)
structure TP(D:Nat->Type) where
 T:TT
 el:av->Option av
 sig:Nat->Option Sz
 orc:DD
section
variable(TPr:TP U.D){W:Type}(c:pX U.D)
def IR(take:Bool)(inst:Nat)(bk:List Nat)(S:TS U.D)(M:TM U.D)(f:SV U.D)(args:List az)(K:X U->TS U.D->TM U.D->Option W):Option W:=
 match f,TPr.sig inst with
 | .cl g caps,aa s=>match nX U bk s.ps ((HS U take S args).1++caps.map λk=>(.lc k 0 [],[])),ED U bk M s.bx 0 with
  |some d,aa e=>bif am g s.f&&QY bk&&am bk.length s.bx.length then
        fN (s.rs++HU s.bx) (c inst (d++e)) λr=>
          match fL U s.bx s.bo ((aNj (s.rs++HU s.bx) r).drop s.rs.length)with
          |some m=>aCh U s.own ((aNj (s.rs++HU s.bx) r).take s.rs.length) λx=>K x (HS U take S args).2 ⟨Qx U bk m 0 M.bx,bk++M.wr⟩
          |none=>ad
   else ad
  |_,_=>ad
 |_,_=>ad
inductive TStep where
 |op (i:Nat) (take:Bool) (inst:Nat) (bk:List Nat)
 |app (a i s:Nat)
 |freeze (t:Nat)
def RR(S:TS U.D):List az->Option (List Nat)
 |[]=>aa []
 |x::l=>match(jI U S x).1,RR S l with
  | .lc k 0 [],aa r=>aa (k::r)
  |_,_=>ad
def a7l{W:Type}(K:Nat->Option W)(m:Int):Nat->Nat->Option W
 |_,0=>ad
 |j,f+1=>bR (aj (m=(j:Int))) (K j) (a7l K m (j+1) f)
def aCM(M:TM U.D)(t:Option Ty)(x:SV U.D)(K:X U->Option W):Option W:=
 match x with
 | .rw k=>match t,dL M.bx k with
  |some (.sl e),aa (.row e' l)=>bif e.beq e' then K (.val ⟨.int .i64,(l.length:Int)⟩,[])else ad
  |_,_=>ad
 |y=>aCL U t y K
def CC(sq take:Bool)(inst:Nat)(bk:List Nat)(o:Oper)(S:TS U.D)(M:TM U.D)(K:X U->TS U.D->TM U.D->Option W):Option W:=
 match o.op with
 | .move x=>bif take then K (jI U S x) (vM U S x) M else K (tM U (jI U S x)) S M
 | .assign x=>bif take then K (jI U S x) (vM U S x) M else K (tM U (jI U S x)) S M
 | .pick c a b=>match(jI U S c).1 with
  | .val ⟨.bool,w⟩=>HR U w (jI U S a) (jI U S b) λr=>K r S M
  |_=>ad
 | .build t parts=>match TPr.T.ty t with
  |some (.rc n)=>match aDb U S (BA U (U.fs n)) parts.toList with
   |some l=>ob (U.of n (aHA l)) λx=>K (.val ⟨.rc n,x⟩,aGz U l 0) S M
   |none=>ad
  |_=>ad
 | .nilCheck x=>match(jI U S x).1 with
  | .lc k off p=>K (.lc k off p,[]) S M
  | .ep v=>K (.ep v,[]) S M
  | .rp k i off p=>K (.rp k i off p,[]) S M
  |_=>ad
 | .binOp op t x y _=>aDd U op (TPr.T.ty t) (bIf U (TPr.T.ty t) (jI U S x).1) (bIf U (TPr.T.ty t) (jI U S y).1) λv=>K (.val v,[]) S M
 | .unOp op _ x=>a8H U op (jI U S x).1 λv=>K (.val v,[]) S M
 | .convert s d x=>IN U sq (TPr.T.ty s) (TPr.T.ty d) (jI U S x).1 λv=>K (.val v,[]) S M
 | .makeFunc fn first captured=>match fn,first.toList,RR U S captured.toList with
  | .func f,[],aa ks=>K (.cl f ks,[]) S M
  |_,_,_=>ad
 | .fieldAddr s x f=>match Qa TPr.T s,(jI U S x).1 with
  |some (.rc n),.lc k off p=>bif d8 f (U.fs n).length then K (.lc k (off+kF U n f) (p++ [f]),[]) S M else ad
  |some (.rc n),.ep v=>bif v.t.beq (.rc n)then(match Li U v f with|some w=>K (.ep w,[]) S M|none=>ad)else ad
  |some (.rc n),.rp k i off p=>bif d8 f (U.fs n).length then K (.rp k i (off+kF U n f) (p++ [f]),[]) S M else ad
  |_,_=>ad
 | .field t x f=>match Qa TPr.T t,jI U S x with
  |some (.rc n),(.val v,rs)=>bif v.t.beq (.rc n)then(match Li U v f with|some w=>K (.val w,RD (kF U n f) (dJ U w.t) rs) S M|none=>ad)else ad
  |_,_=>ad
 | .indexAddr t x i=>match TPr.T.ty t,(jI U S x).1,(jI U S i).1 with
  |some (.sl e),.val ⟨.sl e',l⟩,.val ⟨.int _,n⟩=>bif e.beq e' then ob (cU l n) λy=>K (.ep ⟨e',y⟩,[]) S M else ad
  |some (.sl e),.rw k,.val ⟨.int _,n⟩=>match dL M.bx k with
   |some (.row e' l)=>bif e.beq e' then jY (cR n l.length) (K (.rp k n 0 [],[]) S M)else ad
   |_=>ad
  |some (.rc n),.lc k off p,.val ⟨.int _,m⟩=>bif TPr.T.arr t then a7l (λj=>K (.lc k (off+kF U n j) (p++ [j]),[]) S M) m 0 (U.fs n).length else ad
  |some (.rc n),.ep v,.val ⟨.int _,m⟩=>bif TPr.T.arr t&&v.t.beq (.rc n)then a7l (λj=>match Li U v j with|some w=>K (.ep w,[]) S M|none=>ad) m 0 (U.fs n).length else ad
  |_,_,_=>ad
 | .index t x i=>match TPr.T.ty t,(jI U S x).1,(jI U S i).1 with
  |some .str,.val ⟨.str,s⟩,.val ⟨.int _,n⟩=>ob (cU s n) λb=>K (.val ⟨.int .u8,(b.toNat:Int)⟩,[]) S M
  |_,_,_=>ad
 | .extract x i=>match(jI U S x).1 with
  | .tup l=>match l[i]? with
   |some v=>bif take&&am i 0 then K (.val v,bif CI v.t then(jI U S x).2 else []) (vM U S x) M else K (.val v,[]) S M
   |none=>ad
  |_=>ad
 | .load t a=>a8Q U TPr.T take M t (jI U S a).1 λr M'=>K r S M'
 | .slice t x lo hi mx=>a8L U S (TPr.T.ty t) (jI U S x).1 lo hi mx λr=>K r S M
 | .alloc t=>a80 U TPr.T M o.dst t λr M'=>K r S M'
 | .box t x=>a8Y U TPr.T M o.dst t (jI U S x) λr M'=>K r S M'
 | .buildSlice t len parts=>match TPr.T.ty t with
  |some (.sl e)=>bif an (len*dJ U e) 1000000 then
        match aDa U S e (qZ (pN U e) len) parts.toList with
        |some l=>K (.val ⟨.sl e,l⟩,[(0,ae)]) S M
        |none=>ad
   else ad
  |_=>ad
 | .makeSlice t l c=>a8P U TPr.T M o.dst t (bLE l) TPr.el (jI U S l).1 (jI U S c).1 λr M'=>K r S M'
 | .store t a x=>stT U TPr.T M t (jI U S a).1 (jI U S x) λM'=>K (.no,[]) (vM U S x) M'
 | .call c'=>match c'.callee with
  | .builtin .len=>match c'.argTypes[0]?,c'.args[0]? with
   |some t,aa x=>aCM U M (TPr.T.ty t) (jI U S x).1 λr=>K r S M
   |_,_=>ad
  | .builtin .min=>match c'.args.toList with
   |[x,y]=>a3g U ah (jI U S x).1 (jI U S y).1 λr=>K r S M
   |_=>ad
  | .builtin .max=>match c'.args.toList with
   |[x,y]=>a3g U ae (jI U S x).1 (jI U S y).1 λr=>K r S M
   |_=>ad
  | .builtin .append=>match c'.args.toList with
   |[s,x]=>a8Z U TPr.T TPr.el c'.argTypes.toList (jI U S s) (jI U S x).1 λr=>K r (vM U S s) M
   |_=>ad
  | .value f=>IR U TPr c take inst bk S M (jI U S f).1 c'.args.toList K
  |_=>ad
 |_=>ad
def a5T(ops:Array Oper)(o:Oper)(S:TS U.D)(run skip:TS U.D->Option W):Option W:=
 match o.guard with
 |none=>run S
 |some (j,want)=>match ops[j]?.bind (·.dst)with
  |none=>ad
  |some d=>match lW S d with
   |(.val ⟨.bool,b⟩,r)=>bR b (bif want then run ((d,(.val ⟨.bool,ae⟩,r))::S)else skip ((d,(.val ⟨.bool,ae⟩,r))::S))
          (bif want then skip ((d,(.val ⟨.bool,ah⟩,r))::S)else run ((d,(.val ⟨.bool,ah⟩,r))::S))
   |(.tup [],_)=>skip S
   |_=>ad
def US(oA oI oS:Oper)(S:TS U.D)(K:TS U.D->Option W):Option W:=
 match oA.op,oA.dst,oI.op,oI.dst,oS.op,oS.dst with
 | .call c,aa a,.indexAddr t1 (.tmp a') n,aa b,.store t2 (.tmp b') x,ad=>
  match c.callee,c.args.toList with
  | .builtin .append,[s,zz]=>
   bif am a a'&&am b b'&& !Nat.beq a b&& !PP a n&& !PP a x&& !PP b x&&oA.guard.isNone&&oI.guard.isNone&&oS.guard.isNone then
    aDh U TPr.T TPr.el c.argTypes.toList t1 t2 (jI U S s) (jI U S zz).1 (jI U S n).1 (jI U S x).1 λv w=>K ((b,(.ep w,[]))::(a,(.val v,[(0,ae)]))::vM U S s)
   else ad
  |_,_=>ad
 |_,_,_,_,_,_=>ad
def a8S(S:TS U.D)(M:TM U.D)(t:Nat):Option (TS U.D×TM U.D):=
 match lW S t with
 |(.rw k,_)=>match dL M.bx k with
  |some (.row e l)=>aa ((t,(.val ⟨.sl e,l⟩,[]))::S,⟨qU M.bx k .gone,k::M.wr⟩)
  |_=>ad
 |(.val v,r)=>aa ((t,(.val v,r))::S,M)
 |(.nl,r)=>aa ((t,(.nl,r))::S,M)
 |(.cl f caps,r)=>aa ((t,(.cl f caps,r))::S,M)
 |_=>ad
def zW(ops:Array Oper):List TStep->TS U.D->TM U.D->(TS U.D->TM U.D->Option W)->Option W
 |[],S,M,K=>K S M
 | .app a i s::rest,S,M,K=>match ops[a]?,ops[i]?,ops[s]? with
  |some oA,aa oI,aa oS=>US U TPr oA oI oS S λS'=>zW ops rest S' M K
  |_,_,_=>ad
 | .freeze t::rest,S,M,K=>match a8S U S M t with
  |some r=>zW ops rest r.1 r.2 K
  |none=>ad
 | .op i take inst bk::rest,S,M,K=>match ops[i]? with
  |none=>ad
  |some o=>a5T U ops o S (λS=>CC U TPr c ae take inst bk o S M λr S' M'=>zW ops rest (aCr U S' o.dst r) M' K)
        (λS=>zW ops rest (aCr U S o.dst (.tup [],[])) M K)
structure PW where
 i:Nat
 k:Nat
 stale:Bool
 mr:Bool
def KO(wr:List Nat):List PW->Bool
 |[]=>ae
 |r::l=>(!r.stale||(!r.mr&& !eA r.k wr))&&KO wr l
def G8(ms:List Nat)(i:Nat)(ap:Bool):List PW->List PW
 |[]=>[]
 |r::l=>bif lI (ms.getD i 0) r.i then G8 ms i ap l else(bif ap&& !r.mr then r else⟨r.i,r.k,ae,r.mr⟩)::G8 ms i ap l
def QR(ms:List Nat)(i:Nat):List PW->List PW
 |[]=>[]
 |r::l=>bif lI (ms.getD i 0) r.i then QR ms i l else r::QR ms i l
def aGx(ms:List Nat)(i:Nat):List PW->Bool
 |[]=>ae
 |r::l=>(lI (ms.getD i 0) r.i|| !r.mr)&&aGx ms i l
def a2y(o:Oper)(S:TS U.D)(x:X U)(i:Nat)(pend:List PW):Option (List PW):=
 match o.op with
 | .load _ a=>match(jI U S a).1 with
  | .lc k _ _=>aa (⟨i,k,ah,ah⟩::pend)
  | .rp k _ _ _=>aa (⟨i,k,ah,ah⟩::pend)
  | .ep _=>aa pend
  |_=>ad
 | .alloc _=>match x.1 with
  | .lc k _ _=>aa (⟨i,k,ah,ah⟩::pend)
  |_=>ad
 | .box _ _=>match x.1 with
  | .lc k _ _=>aa (⟨i,k,ah,ah⟩::pend)
  |_=>ad
 | .makeSlice _ _ _=>aa (⟨i,0,ah,ae⟩::pend)
 |_=>aa pend
def mV(ops:Array Oper)(ms:List Nat):List TStep->List PW->TS U.D->TM U.D->(TS U.D->TM U.D->Option W)->Option W
 |[],pend,S,M,K=>bif KO M.wr pend then K S M else ad
 | .app a i s::rest,pend,S,M,K=>match ops[a]?,ops[i]?,ops[s]? with
  |some oA,aa oI,aa oS=>US U TPr oA oI oS S λS'=>bif KO M.wr pend&&aGx ms a pend then mV ops ms rest (QR ms s (G8 ms a ae pend)) S' M K else ad
  |_,_,_=>ad
 | .freeze t::rest,pend,S,M,K=>match a8S U S M t with
  |some r=>mV ops ms rest pend r.1 r.2 K
  |none=>ad
 | .op i take inst bk::rest,pend,S,M,K=>match ops[i]? with
  |none=>ad
  |some o=>a5T U ops o S (λS=>CC U TPr c ah take inst bk o S M λx S' M'=>
          bif kP o then(bif KO M.wr pend then mV ops ms rest (G8 ms i (oW o) pend) (aCr U S' o.dst x) M' K else ad)
          else match a2y U o S x i pend with
            |some gp=>mV ops ms rest gp (aCr U S' o.dst x) M' K
            |none=>ad)
        (λS=>mV ops ms rest pend (aCr U S o.dst (.tup [],[])) M K)
end
structure Cut where
 sl:List (Nat×Sh×jC)
 bx:List (Nat×Sh×jC)
def Cut.ts(c:Cut):List Nat:=c.sl.map (·.1)
def HB:List (V U)->List Ty->Bool
 |[],[]=>ae
 |v::l,t::ts=>v.t.beq t&&HB l ts
 |_,_=>ah
def yW(bx:List Nat):Sh->SV U.D->Option (List (V U))
 | .val t,s=>match IV U t s with|some v=>aa [v]|none=>ad
 | .tup ts,.tup l=>bif HB U l ts then aa l else ad
 | .nl,.nl=>aa []
 | .lc k off p,.lc k' fq p'=>bif am k k'&&am off fq&&yX p p'&&eA k bx then aa []else ad
 | .ep t,.ep v=>bif v.t.beq t then aa [v]else ad
 | .rw k,.rw k'=>bif am k k'&&eA k bx then aa []else ad
 | .cl f caps,.cl f' cm=>bif am f f'&&yX caps cm&&Cc caps bx then aa []else ad
 | .nf,.nf=>aa []
 | .no,_=>aa []
 |_,_=>ad
def aHF(bx:List Nat)(S:TS U.D):List (Nat×Sh×jC)->Option (List (V U))
 |[]=>aa []
 |(t,s,r)::l=>match yW U bx s (lW S t).1,aHF bx S l with
  |some a,aa d=>bif leR r (lW S t).2 then aa (a++d)else ad
  |_,_=>ad
def aCV(bx:List Nat)(M:List (Nat×BC U.D)):List (Nat×Sh×jC)->Option (List (V U))
 |[]=>aa []
 |(k,s,r)::l=>match dL M k,aCV bx M l with
  |some (.bx c rs),aa d=>match s with
   | .row _=>ad
   | .no=>ad
   |s=>match yW U bx s c with
    |some a=>bif leR r rs then aa (a++d)else ad
    |none=>ad
  |some (.row e v),aa d=>match s with
   | .row t=>bif e.beq t then aa (⟨.sl e,v⟩::d)else ad
   |_=>ad
  |_,_=>ad
def GY(ct:Cut)(S:TS U.D)(M:TM U.D):Option (List (V U)):=
 match aHF U (ct.bx.map (·.1)) S ct.sl,aCV U (ct.bx.map (·.1)) M.bx ct.bx with
 |some a,aa b=>aa (a++b)
 |_,_=>ad
def SK:Sh->List (V U)->Option (SV U.D×List (V U))
 | .val t,v::d=>bif v.t.beq t then aa (.val v,d)else ad
 | .tup ts,d=>bif HB U (d.take ts.length) ts then aa (.tup (d.take ts.length),d.drop ts.length)else ad
 | .nl,d=>aa (.nl,d)
 | .lc k off p,d=>aa (.lc k off p,d)
 | .ep t,v::d=>bif v.t.beq t then aa (.ep v,d)else ad
 | .rw k,d=>aa (.rw k,d)
 | .cl f caps,d=>aa (.cl f caps,d)
 | .nf,d=>aa (.nf,d)
 | .no,d=>aa (.no,d)
 |_,_=>ad
def aDw:List (Nat×Sh×jC)->List (V U)->Option (TS U.D×List (V U))
 |[],d=>aa ([],d)
 |(t,s,r)::l,d=>match SK U s d with
  |some (x,d')=>match aDw l d' with
   |some (S,qn)=>aa ((t,(x,r))::S,qn)
   |none=>ad
  |none=>ad
def C3:List (Nat×Sh×jC)->List (V U)->Option (List (Nat×BC U.D)×List (V U))
 |[],d=>aa ([],d)
 |(k,.row t,_)::l,v::d=>match v with
  |⟨.sl e,x⟩=>bif e.beq t then(match C3 l d with|some (M,d')=>aa ((k,.row e x)::M,d')|none=>ad)else ad
  |_=>ad
 |(k,s,r)::l,d=>match SK U s d with
  |some (x,d')=>match C3 l d' with
   |some (M,qn)=>aa ((k,.bx x r)::M,qn)
   |none=>ad
  |none=>ad
def JN(ct:Cut)(d:List (V U)):Option (TS U.D×TM U.D):=
 match aDw U ct.sl d with
 |some (S,d')=>match C3 U ct.bx d' with
  |some (M,[])=>aa (S,⟨M,[]⟩)
  |_=>ad
 |none=>ad
inductive TC where
 |skip
 |label (l:Nat)
 |region (id:Nat) (ops:Array Oper) (draw:Bool) (ms:List Nat) (sc:List TStep)
 |seq (a b:TC)
 |cond (c:az) (a b:TC)
 |block (id:Nat) (c:TC)
 |loop (ct:Cut) (c:TC)
 |exit (id:Nat)
 |ret
 |scope (c:TC)
 |cut (ct:Cut) (c:TC)
 |ice (t:Nat) (c:TC)
 |other (c:Code)
def TStep.un:TStep->Bw
 | .op i take _ _=> .op i take
 | .app a i s=> .app a i s
 | .freeze t=> .freeze t
def TC.pc:TC->PC
 | .skip=> .skip
 | .label l=> .label l
 | .region id ops draw ms sc=> .region id ops draw ms (sc.map TStep.un)
 | .seq a b=> .seq a.pc b.pc
 | .cond c a b=> .cond c a.pc b.pc
 | .block id c=> .block id c.pc
 | .loop ct c=> .loop (.drop ct.ts c.pc)
 | .exit id=> .exit id
 | .ret=> .ret
 | .scope c=> .scope c.pc
 | .cut ct c=> .drop ct.ts c.pc
 | .ice t c=> .ice t c.pc
 | .other c=> .other c
abbrev TK(D:Nat->Type)(W:Type):=Fl->TS D->TM D->Option W
section
variable(TPr:TP U.D){W:Type}(c:pX U.D)
def DO(run:TS U.D->TM U.D->TK U.D W->Option W)(K:TK U.D W):TK U.D W
 | .normal,S,M=>run S M K
 |fl,S,M=>K fl S M
def cO(id:Nat)(K:TK U.D W):TK U.D W
 | .exit n,S,M=>bif am n id then K .normal S M else K (.exit n) S M
 |fl,S,M=>K fl S M
def fT(ct:Cut)(k:List (V U)->Option W)(K:TK U.D W):TK U.D W
 | .normal,S,M=>match GY U ct S M with|some d=>k d|none=>ad
 |fl,S,M=>K fl S M
def oZ(ct:Cut)(run:TS U.D->TM U.D->Option W)(d:List (V U)):Option W:=
 match JN U ct d with
 |some r=>run r.1 r.2
 |none=>ad
def CG(ct:Cut)(body:TS U.D->TM U.D->TK U.D W->Option W)(K:TK U.D W):Nat->List (V U)->Option W
 |0,_=>ad
 |n+1,d=>oZ U ct (λS M=>body S M (fT U ct (CG ct body K n) K)) d
def HW(ops:Array Oper)(S:TS U.D)(M:TM U.D):Bool:=
 match aB9 ops with
 |none=>ae
 |some (.tmp s,.tmp t)=>match(lW S s).1,(lW S t).1 with
  | .ep _,.lc k _ _=>match dL M.bx k with
   |some (.bx _ _)=>ae
   |_=>ah
  |_,_=>ah
 |_=>ah
abbrev DT(U:hJ)(W:Type):=Cut->TC->List (V U)->TK U.D W->Option W
def oG(D E:DT U W):TC->TS U.D->TM U.D->TK U.D W->Option W
 | .skip,S,M,K=>K .normal S M
 | .label _,S,M,K=>K .normal S M
 | .region _ ops draw ms sc,S,M,K=>match draw with
  |true=>mV U TPr c ops ms sc [] S ⟨M.bx,[]⟩ λS' M'=>bif HW U ops S' M' then K .normal S' M' else ad
  |false=>zW U TPr c ops sc S M (K .normal)
 | .seq a b,S,M,K=>oG D E a S M (DO U (oG D E b) K)
 | .cond x a b,S,M,K=>match(jI U S x).1 with
  | .val ⟨.bool,w⟩=>bR w (oG D E a S M K) (oG D E b S M K)
  |_=>ad
 | .block id a,S,M,K=>oG D E a S M (cO U id K)
 | .loop ct a,S,M,K=>match GY U ct S M with
  |some d=>E ct a d K
  |none=>ad
 | .exit id,S,M,K=>K (.exit id) S M
 | .ret,S,M,K=>K .ret S M
 | .scope a,S,M,K=>oG D E a S M K
 | .cut ct a,S,M,K=>match GY U ct S M with
  |some d=>D ct a d K
  |none=>ad
 | .ice t a,S,M,K=>match a8S U S M t with
  |some r=>oG D E a r.1 r.2 K
  |none=>ad
 | .other _,_,_,_=>ad
def fO(L:Nat):TC->TS U.D->TM U.D->TK U.D W->Option W
 | .skip,S,M,K=>K .normal S M
 | .label _,S,M,K=>K .normal S M
 | .region _ ops draw ms sc,S,M,K=>match draw with
  |true=>mV U TPr c ops ms sc [] S ⟨M.bx,[]⟩ λS' M'=>bif HW U ops S' M' then K .normal S' M' else ad
  |false=>zW U TPr c ops sc S M (K .normal)
 | .seq a b,S,M,K=>fO L a S M (DO U (fO L b) K)
 | .cond x a b,S,M,K=>match(jI U S x).1 with
  | .val ⟨.bool,w⟩=>bR w (fO L a S M K) (fO L b S M K)
  |_=>ad
 | .block id a,S,M,K=>fO L a S M (cO U id K)
 | .loop ct a,S,M,K=>match GY U ct S M with
  |some d=>CG U ct (λS M K=>fO L a S M K) K L d
  |none=>ad
 | .exit id,S,M,K=>K (.exit id) S M
 | .ret,S,M,K=>K .ret S M
 | .scope a,S,M,K=>fO L a S M K
 | .cut ct a,S,M,K=>match GY U ct S M with
  |some d=>oZ U ct (λS M=>fO L a S M K) d
  |none=>ad
 | .ice t a,S,M,K=>match a8S U S M t with
  |some r=>fO L a r.1 r.2 K
  |none=>ad
 | .other _,_,_,_=>ad
def Dx(L:Nat):DT U W:=λct a d K=>oZ U ct (λS M=>fO U TPr c L a S M K) d
def Ex(L:Nat):DT U W:=λct a d K=>CG U ct (λS M K=>fO U TPr c L a S M K) K L d
def GH(S:TS U.D)(M:TM U.D):List ResultVar->List Ty->Option (List (V U))
 |[],[]=>aa []
 | .tmp t::rs,ty::ts=>match IV U ty (lW S t).1,GH S M rs ts with
  |some v,aa l=>aa (v::l)
  |_,_=>ad
 | .cell a t::rs,ty::ts=>match(lW S a).1,TPr.T.ty t,GH S M rs ts with
  | .lc k off p,aa ty',aa l=>match dL M.bx k with
   |some (.bx (.val c) _)=>match A7 U p c with
    |some (w,o)=>bif w.t.beq ty&&ty.beq ty'&&am o off then aa (w::l)else ad
    |none=>ad
   |_=>ad
  |_,_,_=>ad
 |_,_=>ad
def a2B(S:TS U.D):List ResultVar->Bool
 |[.tmp t]=>qA (lW S t).2
 |_=>ah
def QJ(M:TM U.D):List (Sh×jC)->List jC->Nat->Option (List (V U))
 |[],[],_=>aa []
 |(s,_)::l,r::bo,j=>match dL M.bx j,QJ M l bo (j+1)with
  |some (.bx c rs),aa d=>match s,c with
   | .val t,.val v=>bif v.t.beq t&&leR r rs then aa (v::d)else ad
   | .cl f caps,.cl f' cm=>bif am f f'&&yX caps cm then aa d else ad
   |_,_=>ad
  |some (.row e x),aa d=>match s with
   | .row t=>bif e.beq t then aa (⟨.sl e,x⟩::d)else ad
   |_=>ad
  |_,_=>ad
 |_,_,_=>ad
def QN:List Ty->Bool
 |[.sl _]=>ae
 |_=>ah
def bAu:List Ty->Bool
 |[.sl _,.bool]=>ae
 |_=>ah
def aF8(S:TS U.D):List ResultVar->Bool
 | .tmp t::_=>qA (lW S t).2
 |_=>ah
def bQA:List (V U)->Bool
 |[_,⟨.bool,b⟩]=> !b
 |_=>ah
def Lk(S:TS U.D)(rs:List ResultVar)(own:Bool)(ts:List Ty)(a:List (V U)):Bool:=
 bif own then(bif aF8 U S rs then QN ts&&a2B U S rs||bAu ts else bAu ts&&bQA U a)else ae
def aPp(s:Sz)(rs:List ResultVar):TK U.D (List (V U)):=λfl S M=>
 match fl with
 | .exit _=>ad
 |_=>match GH U TPr S M rs s.rs,QJ U M s.bx s.bo 0 with
  |some a,aa b=>bif Lk U S rs s.own s.rs a then aa (a++b)else ad
  |_,_=>ad
def cutOf(s:Sz):Cut:=⟨psL s.ps 0,bxL s.bx 0⟩
where
 psL:List (Sh×Bool)->Nat->List (Nat×Sh×jC)
  |[],_=>[]
  |(s,o)::l,i=>(i,s,Tq o)::psL l (i+1)
 bxL:List (Sh×jC)->Nat->List (Nat×Sh×jC)
  |[],_=>[]
  |(s,r)::l,j=>(j,s,r)::bxL l (j+1)
end
def GS(n:Nat):List (Sh×jC)->Bool
 |[]=>ae
 |(.cl _ caps,_)::l=>wF caps n&&GS n l
 |_::l=>GS n l
abbrev aQ8:=Nat->Option (TC×List ResultVar)
def aOE(O:DD)(s:Sz):Bool:=
 bif am s.f O.n then(match s.ps,s.bx,s.bo,s.rs,s.own with
 |[(.val (.int .i64),ah),(.val (.int .i64),ah)],[],[],[.str],ah=>ae
 |_,_,_,_,_=>ah)else bif am s.f O.m then(match s.ps,s.bx,s.bo,s.rs,s.own with
 |[],[],[],[.bool],ah=>ae
 |_,_,_,_,_=>ah)else ae
def bKU:OV->V U
 | .s l=>⟨.str,l⟩
 | .t=>⟨.bool,ae⟩
def aOv(O:DD)(s:Sz)(d:List (V U)):Option OV:=
 bif am s.f O.n then(match d with
 |[⟨.int .i64,a⟩,⟨.int .i64,b⟩]=>(O.s a b).map .s
 |_=>ad)else bif am s.f O.m then(match d with
 |[]=>aa .t
 |_=>ad)else ad
def vY(TPr:TP U.D)(G:aQ8)(L:Nat):Nat->pX U.D
 |0,_,_=>ad
 |n+1,i,d=>match TPr.sig i,G i with
  |some s,aa (code,rs)=>bif aOE TPr.orc s&&an s.bx.length 100&&GS s.bx.length s.bx then(match aOv U TPr.orc s d with|some x=>aa [bKU U x]|none=>oZ U (cutOf s) (λS M=>fO U TPr (vY TPr G L n) L code S M (aPp U TPr s rs)) d)else ad
  |_,_=>ad
end
end Go.TV
