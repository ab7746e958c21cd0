import Derived.Test.YtdjaoblfbbcpdaaGreatDoorKe
set_option linter.unusedVariables false
set_option linter.unusedSimpArgs false
set_option linter.constructorNameAsVariable false
set_option linter.defProp false
namespace Go.TV
open Go.AI Go.PI
inductive Ty where
 |int (k:IntKind)
 |bool
 |str
 |sl (t:Ty)
 |rc (n:Nat)
 deriving Inhabited
def Ty.beq:Ty->Ty->Bool
 | .int k,.int j=>decide (k=j)
 | .bool,.bool=>true
 | .str,.str=>true
 | .sl a,.sl b=>a.beq b
 | .rc n,.rc m=>Nat.beq n m
 |_,_=>false
def Ty.beq_eq: ∀{a b:Ty},a.beq b=true->a=b
 | .int k,.int j,h=>by simp only[Ty.beq,aD]at h;rw[h]
 | .bool,.bool,_=>rfl
 | .str,.str,_=>rfl
 | .sl a,.sl b,h=>by simp only[Ty.beq]at h;rw[Ty.beq_eq h]
 | .rc n,.rc m,h=>by simp only[Ty.beq]at h;rw[aE h]
 | .int _,.bool,h=>by cases h
 | .int _,.str,h=>by cases h
 | .int _,.sl _,h=>by cases h
 | .int _,.rc _,h=>by cases h
 | .bool,.int _,h=>by cases h
 | .bool,.str,h=>by cases h
 | .bool,.sl _,h=>by cases h
 | .bool,.rc _,h=>by cases h
 | .str,.int _,h=>by cases h
 | .str,.bool,h=>by cases h
 | .str,.sl _,h=>by cases h
 | .str,.rc _,h=>by cases h
 | .sl _,.int _,h=>by cases h
 | .sl _,.bool,h=>by cases h
 | .sl _,.str,h=>by cases h
 | .sl _,.rc _,h=>by cases h
 | .rc _,.int _,h=>by cases h
 | .rc _,.bool,h=>by cases h
 | .rc _,.str,h=>by cases h
 | .rc _,.sl _,h=>by cases h
def Ty.beq_rfl: ∀(a:Ty),a.beq a=true
 | .int k=>by simp[Ty.beq]
 | .bool=>rfl
 | .str=>rfl
 | .sl a=>by simp only[Ty.beq,Ty.beq_rfl a]
 | .rc n=>by simp[Ty.beq]
def Ty.dec(a b:Ty):Decidable (a=b):=
 match h:a.beq b with
 |true=>isTrue (Ty.beq_eq h)
 |false=>isFalse λe=>by rw[e,Ty.beq_rfl]at h;cases h
@[reducible] def Den (D:Nat->Type):Ty->Type
 | .int _=>Int
 | .bool=>Bool
 | .str=>List UInt8
 | .sl t=>List (Den D t)
 | .rc n=>D n
structure TV(D:Nat->Type) where
 t:Ty
 x:Den D t
def SG{D:Nat->Type}(t u:Ty)(x:Den D t):Option (Den D u):=
 match Ty.dec t u with
 |isTrue h=>some (h▸x)
 |isFalse _=>none
structure hY where
 D:Nat->Type
 fs:Nat->List Ty
 un:(n:Nat)->D n->List (TV D)
 of:(n:Nat)->List (TV D)->Option (D n)
 en:(n:Nat)->D n->List PV
 eq:(n:Nat)->Option (D n->D n->Bool)
 zero:(n:Nat)->D n
 sz:Nat->Nat
 lt:Nat->List Ty
structure TT where
 ty:TypeId->Option Ty
 by':TypeId->Nat
 fn:TypeId->Bool
 arr:TypeId->Bool
def OE(T:TT)(t:TypeId):Option Ty:=bif T.arr t then none else T.ty t
abbrev jD:=List (Nat×Bool)
inductive SV(D:Nat->Type) where
 |val (v:TV D)
 |tup (l:List (TV D))
 |nl
 |lc (k off:Nat) (path:List Nat)
 |ep (v:TV D)
 |rw (k:Nat)
 |rp (k:Nat) (i:Int) (off:Nat) (path:List Nat)
 |cl (f:Nat) (caps:List Nat)
 |nf
 |zr (l:List PV)
 |no
inductive BC(D:Nat->Type) where
 |bx (s:SV D) (r:jD)
 |row (t:Ty) (l:List (Den D t))
 |gone
abbrev TS(D:Nat->Type):=List (Nat×(SV D×jD))
structure TM(D:Nat->Type) where
 bx:List (Nat×BC D)
 wr:List Nat
def lV{D:Nat->Type}:TS D->Nat->SV D×jD
 |[],_=>(.no,[])
 |(k,x)::S,t=>bif Nat.beq k t then x else lV S t
def dG{D:Nat->Type}:List (Nat×BC D)->Nat->Option (BC D)
 |[],_=>none
 |(k,x)::S,t=>bif Nat.beq k t then some x else dG S t
def qT{D:Nat->Type}:List (Nat×BC D)->Nat->BC D->List (Nat×BC D)
 |[],_,_=>[]
 |(k,x)::S,t,y=>bif Nat.beq k t then(k,y)::S else(k,x)::qT S t y
def ob{N W:Type}(a:Option N)(K:N->Option W):Option W:=match a with|some x=>K x|none=>none
def kV{W:Type}(b:Bool)(K:Option W):Option W:=match b with|true=>K|false=>none
def bS{W:Type}(b:Bool)(A B:Option W):Option W:=match b with|true=>A|false=>B
@[reducible] def DenL (D:Nat->Type):List Ty->Type
 |[]=>Unit
 |t::ts=>Den D t×DenL D ts
def fN{D:Nat->Type}:(ts:List Ty)->List (TV D)->Option (DenL D ts)
 |[],[]=>some ()
 |t::ts,v::vs=>match SG v.t t v.x,fN ts vs with
  |some x,some r=>some (x,r)
  |_,_=>none
 |_,_=>none
def aJx{D:Nat->Type}:(ts:List Ty)->DenL D ts->List (TV D)
 |[],_=>[]
 |t::ts,r=>⟨t,r.1⟩::aJx ts r.2
def fY{D:Nat->Type}{W:Type}(ts:List Ty)(a:Option (List (TV D)))(K:DenL D ts->Option W):Option W:=
 match a with
 |some l=>match fN ts l with
  |some r=>K r
  |none=>none
 |none=>none
def dE{N:Type}(l:List N)(n:Int):Option N:=bif decide (0<=n)then l[n.toNat]? else none
def slc{N:Type}(l:List N)(lo hi:Int):Option (List N):=
 bif decide (0<=lo)&&decide (lo<=hi)&&decide (hi<=(l.length:Int))then some ((l.take hi.toNat).drop lo.toNat)else none
section
variable(U:hY)
abbrev V:=TV U.D
abbrev X:=SV U.D×jD
def dC:Ty->Nat
 | .rc n=>U.sz n
 |_=>1
def jI:Ty->List Ty
 | .rc n=>U.lt n
 |t=>[t]
def eP:List Ty->Nat
 |[]=>0
 |t::ts=>dC U t+eP ts
def kF(n i:Nat):Nat:=eP U ((U.fs n).take i)
def pO:(t:Ty)->Den U.D t
 | .int _=>(0:Int)
 | .bool=>false
 | .str=>[]
 | .sl _=>[]
 | .rc n=>U.zero n
def aXl:Nat->List Ty->Nat->jD
 |0,_,_=>[]
 |_,[],_=>[]
 |f+1,t::ts,o=>(match t with| .sl _=>[(o,true)]| .rc n=>aXl f (U.fs n) o|_=>[])++aXl f ts (o+dC U t)
def AD:Ty->jD
 | .sl _=>[(0,true)]
 | .rc n=>aXl U 60 (U.fs n) 0
 |_=>[]
def Ki(v:V U)(i:Nat):Option (V U):=
 match v with
 |⟨.rc n,x⟩=>(U.un n x)[i]?
 |_=>none
def bDs(t:Ty)(i:Nat):Nat:=match t with| .rc n=>kF U n i|_=>0
def AP:List Nat->V U->Option (V U×Nat)
 |[],v=>some (v,0)
 |i::p,v=>match Ki U v i with
  |some w=>match AP p w with
   |some r=>some (r.1,bDs U v.t i+r.2)
   |none=>none
  |none=>none
def ZO:List Nat->V U->V U->Option (V U)
 |[],v,w=>bif v.t.beq w.t then some w else none
 |i::p,v,w=>match v with
  |⟨.rc n,x⟩=>match(U.un n x)[i]? with
   |some y=>match ZO p y w with
    |some y'=>match U.of n ((U.un n x).set i y')with
     |some z=>some ⟨.rc n,z⟩
     |none=>none
    |none=>none
   |none=>none
  |_=>none
def Ej(o:Nat):jD->Bool
 |[]=>false
 |x::xs=>Nat.beq x.1 o||Ej o xs
def Qb(o n:Nat):jD->jD
 |[]=>[]
 |x::xs=>bif Nat.ble o x.1&&Nat.blt x.1 (o+n)then(x.1-o,x.2)::Qb o n xs else Qb o n xs
def aZU(o n:Nat):jD->jD
 |[]=>[]
 |x::xs=>bif Nat.ble o x.1&&Nat.blt x.1 (o+n)then aZU o n xs else x::aZU o n xs
def a4t(o:Nat):jD->jD
 |[]=>[]
 |x::xs=>(x.1+o,x.2)::a4t o xs
def leR:jD->jD->Bool
 |[],_=>true
 |x::xs,r=>memW x r&&leR xs r
where memW (x:Nat×Bool):jD->Bool
 |[]=>false
 |y::ys=>(Nat.beq x.1 y.1&&(!x.2||y.2))||memW x ys
def RP:Bool->jD
 |true=>[(0,true)]
 |false=>[]
def qA:jD->Bool
 |[]=>false
 |x::xs=>(Nat.beq x.1 0&&x.2)||qA xs
def aJu:Ty->List PV
 | .int k=>[.v (.int k 0)]
 | .bool=>[.v (.bool false)]
 | .str=>[.str []]
 | .sl _=>[.nil]
 | .rc _=>[]
def aBg:List PV->List PV->Bool
 |[],[]=>true
 | .v (.int k n)::l,.v (.int j m)::r=>decide (k=j)&&decide (n=m)&&aBg l r
 | .v (.bool b)::l,.v (.bool c)::r=>decide (b=c)&&aBg l r
 | .v .nilFunc::l,.v .nilFunc::r=>aBg l r
 | .str s::l,.str u::r=>s.isEmpty&&u.isEmpty&&aBg l r
 | .nil::l,.nil::r=>aBg l r
 |_,_=>false
def bI7:Value->SV U.D
 | .bool b=> .val ⟨.bool,b⟩
 | .int k n=> .val ⟨.int k,n⟩
 | .string s=> .val ⟨.str,s.data.toList⟩
 | .slice none _ _=> .nl
 | .nilFunc=> .nf
 | .agg ⟨cs⟩=> .zr (ofVs cs)
 |_=> .no
def jJ(S:TS U.D):Operand->X U
 | .tmp t=>lV S t
 | .const v=>match bI7 U v with| .nl=>(.nl,[(0,true)])|x=>(x,[])
 | .func f=>(.cl f [],[])
 |_=>(.no,[])
def G6(t:Ty):SV U.D->Option (V U)
 | .val v=>bif v.t.beq t then some v else none
 | .nl=>match t with| .sl e=>some ⟨.sl e,[]⟩|_=>none
 | .zr l=>match t with| .rc n=>bif aBg l ((U.lt n).flatMap aJu)then some ⟨.rc n,U.zero n⟩else none|_=>none
 |_=>none
def bAU(t:Option Ty)(s:SV U.D):SV U.D:=
 match s with
 | .zr l=>match t with|some ty=>(match G6 U ty (.zr l)with|some v=> .val v|none=> .no)|none=> .no
 |s=>s
def lU:Ty->Bool
 | .rc _=>true
 |_=>false
def tH(x:X U):X U:=
 match x.1 with
 | .val v=>(x.1,bif lU v.t then x.2 else [])
 | .nl=>(.nl,[(0,true)])
 |_=>(x.1,[])
def uY(S:TS U.D):Operand->TS U.D
 | .tmp t=>(t,tH U (lV S t))::S
 |_=>S
def ZY(S:TS U.D)(d:Option Tmp)(x:X U):TS U.D:=
 match d with
 |some d=>(d,x)::S
 |none=>S
section
variable{W:Type}
def aEg(op:BinOp)(k:IntKind)(a b:Int)(K:V U->Option W):Option W:=
 match op with
 | .eql=>K ⟨.bool,decide (a=b)⟩
 | .neq=>K ⟨.bool,!decide (a=b)⟩
 | .lss=>K ⟨.bool,decide (a<b)⟩
 | .leq=>K ⟨.bool,decide (a<=b)⟩
 | .gtr=>K ⟨.bool,decide (b<a)⟩
 | .geq=>K ⟨.bool,decide (b<=a)⟩
 | .add=>K ⟨.int k,k.wrap (a+b)⟩
 | .sub=>K ⟨.int k,k.wrap (a-b)⟩
 | .mul=>K ⟨.int k,k.wrap (a*b)⟩
 | .quo=>kV (!decide (b=0)) (K ⟨.int k,k.wrap (a.tdiv b)⟩)
 | .rem=>kV (!decide (b=0)) (K ⟨.int k,a.tmod b⟩)
 | .and=>K ⟨.int k,k.wrap ((BitVec.ofInt k.bits a&&&BitVec.ofInt k.bits b).toNat:Int)⟩
 | .or=>K ⟨.int k,k.wrap ((BitVec.ofInt k.bits a|||BitVec.ofInt k.bits b).toNat:Int)⟩
 | .xor=>K ⟨.int k,k.wrap ((BitVec.ofInt k.bits a^^^BitVec.ofInt k.bits b).toNat:Int)⟩
 | .andNot=>K ⟨.int k,k.wrap ((BitVec.ofInt k.bits a&&& ~~~ BitVec.ofInt k.bits b).toNat:Int)⟩
 |_=>none
def a4s(op:BinOp)(k:IntKind)(a b:Int)(K:V U->Option W):Option W:=
 match op with
 | .shl=>kV (decide (0<=b)) (K ⟨.int k,k.wrap (a*2^(min b.toNat k.bits))⟩)
 | .shr=>kV (decide (0<=b)) (K ⟨.int k,a.fdiv (2^(min b.toNat k.bits))⟩)
 |_=>none
def aBR(op:BinOp)(a b:List UInt8)(K:V U->Option W):Option W:=
 match op with
 | .eql=>K ⟨.bool,decide (a=b)⟩
 | .neq=>K ⟨.bool,!decide (a=b)⟩
 | .lss=>K ⟨.bool,Op.bytesLess a b⟩
 | .leq=>K ⟨.bool,Op.bytesLess a b||decide (a=b)⟩
 | .gtr=>K ⟨.bool,!(Op.bytesLess a b||decide (a=b))⟩
 | .geq=>K ⟨.bool,!Op.bytesLess a b⟩
 | .add=>kV (Nat.ble (a.length+b.length) 1000000000) (K ⟨.str,a++b⟩)
 |_=>none
def Xr:BinOp->Bool
 | .shl| .shr=>true
 |_=>false
def aAQ(op:BinOp)(t:Option Ty)(a b:SV U.D)(K:V U->Option W):Option W:=
 match a,b with
 | .val ⟨.int k,x⟩,.val ⟨.int j,y⟩=>bif Xr op then a4s U op k x y K else bif decide (k=j)then aEg U op k x y K else none
 | .val ⟨.bool,x⟩,.val ⟨.bool,y⟩=>match t,op with
  |some .bool,.eql=>K ⟨.bool,x==y⟩
  |some .bool,.neq=>K ⟨.bool,!(x==y)⟩
  |_,_=>none
 | .val ⟨.str,x⟩,.val ⟨.str,y⟩=>aBR U op x y K
 | .val ⟨.rc n,x⟩,.val ⟨.rc m,y⟩=>match t with
  |some (.rc i)=>match U.eq i,SG (.rc n) (.rc i) x,SG (.rc m) (.rc i) y with
   |some f,some x,some y=>match op with
    | .eql=>K ⟨.bool,f x y⟩
    | .neq=>K ⟨.bool,!f x y⟩
    |_=>none
   |_,_,_=>none
  |_=>none
 | .val ⟨.sl e,x⟩,.nl=>match t,op with
  |some (.sl _),.eql=>kV (!x.isEmpty) (K ⟨.bool,false⟩)
  |some (.sl _),.neq=>kV (!x.isEmpty) (K ⟨.bool,true⟩)
  |_,_=>none
 |_,_=>none
def a2U(op:UnOp)(a:SV U.D)(K:V U->Option W):Option W:=
 match op,a with
 | .not,.val ⟨.bool,b⟩=>K ⟨.bool,!b⟩
 | .neg,.val ⟨.int k,n⟩=>K ⟨.int k,k.wrap (0-n)⟩
 |_,_=>none
def qI:List Int->Option (List UInt8)
 |[]=>some []
 |n::r=>match qI r with|some l=>some (UInt8.ofNat n.toNat::l)|none=>none
def GW(sq:Bool)(s d:Option Ty)(a:SV U.D)(K:V U->Option W):Option W:=
 match s,d,a with
 |some (.int _),some (.int j),.val ⟨.int k,n⟩=>K ⟨.int j,j.wrap n⟩
 |some .str,some .str,.val ⟨.str,x⟩=>K ⟨.str,x⟩
 |some (.sl (.int .u8)),some .str,.val ⟨.sl (.int .u8),l⟩=>bif sq then ob (qI l) λx=>K ⟨.str,x⟩else none
 |_,_,_=>none
def Gz(w:Bool)(a b:X U)(K:X U->Option W):Option W:=
 match a.1,b.1 with
 | .val ⟨t,x⟩,.val ⟨u,y⟩=>match SG u t y with
  |some y=>K (.val ⟨t,bif w then x else y⟩,[])
  |none=>none
 |_,_=>bS w (K (tH U a)) (K (tH U b))
def Bp:List Ty->List (V U×Bool)
 |[]=>[]
 |t::ts=>(⟨t,pO U t⟩,true)::Bp ts
def setF:List (V U×Bool)->Nat->V U×Bool->List (V U×Bool)
 |[],_,_=>[]
 |_::l,0,x=>x::l
 |y::l,i+1,x=>y::setF l i x
def aAO(S:TS U.D):List (V U×Bool)->List (Nat×Operand)->Option (List (V U×Bool))
 |l,[]=>some l
 |l,(i,x)::r=>match l[i]? with
  |some y=>match G6 U y.1.t (jJ U S x).1 with
   |some v=>aAO S (setF U l i (v,match(jJ U S x).1 with| .nl=>true|_=>false)) r
   |none=>none
  |none=>none
def aDR:List (V U×Bool)->Nat->jD
 |[],_=>[]
 |y::l,o=>(match y.2 with|true=>a4t o (AD U y.1.t)|false=>[])++aDR l (o+dC U y.1.t)
def aEP{N I:Type}:List (N×I)->List N
 |[]=>[]
 |x::l=>x.1::aEP l
def aJ9{N:Type}:List N->Nat->N->List N
 |[],_,_=>[]
 |_::l,0,x=>x::l
 |y::l,i+1,x=>y::aJ9 l i x
def aAN(S:TS U.D)(e:Ty):List (Den U.D e)->List (Nat×Operand)->Option (List (Den U.D e))
 |l,[]=>some l
 |l,(i,x)::r=>match G6 U e (jJ U S x).1 with
  |some v=>match SG v.t e v.x with
   |some w=>bif Nat.blt i l.length then aAN S e (aJ9 l i w) r else none
   |none=>none
  |none=>none
def xY{N:Type}(x:N):Nat->List N
 |0=>[]
 |n+1=>x::xY x n
def aDx:Option (SV U.D)->Option (Option Int)
 |none=>some none
 |some (.val ⟨.int _,n⟩)=>some (some n)
 |_=>none
def a7o:Option Operand->Bool
 |some (.const (.int _ n))=>decide (n=0)
 |_=>false
def a2Y(S:TS U.D)(t:Option Ty)(x:SV U.D)(lo hi mx:Option Operand)(K:X U->Option W):Option W:=
 match t,x,aDx U (lo.map λx=>(jJ U S x).1),aDx U (hi.map λx=>(jJ U S x).1),aDx U (mx.map λx=>(jJ U S x).1)with
 |some .str,.val ⟨.str,s⟩,some l,some h,some none=>ob (slc s (l.getD 0) (h.getD (s.length:Int))) λr=>K (.val ⟨.str,r⟩,[])
 |some (.sl e),.val ⟨.sl e',s⟩,some l,some h,some none=>bif e.beq e' then ob (slc s (l.getD 0) (h.getD (s.length:Int))) λr=>K (.val ⟨.sl e',r⟩,[])else none
 |some (.sl e),.val ⟨.sl e',s⟩,some l,some (some h),some (some m)=>bif e.beq e' then bif a7o mx then kV (List.isEmpty s&&decide (l.getD 0=0)&&decide (h=0)&&decide (m=0)) (K (.val ⟨.sl e',[]⟩,[(0,true)]))
  else kV (decide (h=m)&&decide (l.getD 0<h)) (ob (slc s (l.getD 0) h) λr=>K (.val ⟨.sl e',r⟩,[(0,true)]))else none
 |_,_,_,_,_=>none
def aAr(t:Option Ty)(x:SV U.D)(K:X U->Option W):Option W:=
 match t,x with
 |some (.sl e),.val ⟨.sl e',l⟩=>bif e.beq e' then K (.val ⟨.int .i64,(l.length:Int)⟩,[])else none
 |some .str,.val ⟨.str,l⟩=>K (.val ⟨.int .i64,(l.length:Int)⟩,[])
 |some (.sl _),.nl=>K (.val ⟨.int .i64,(0:Int)⟩,[])
 |_,_=>none
def aXs(mx:Bool)(a b:SV U.D)(K:X U->Option W):Option W:=
 match a,b with
 | .val ⟨.int .i64,x⟩,.val ⟨.int .i64,y⟩=>K (.val ⟨.int .i64,bif mx then(bif decide (x<y)then y else x)else(bif decide (y<x)then y else x)⟩,[])
 |_,_=>none
end
section
variable(T:TT){W:Type}
def Ct:Ty->Bool
 | .sl _=>true
 |_=>false
def a27(take:Bool)(M:TM U.D)(t:TypeId)(a:SV U.D)(K:X U->TM U.D->Option W):Option W:=
 match a with
 | .ep v=>match T.ty t with
  |some ty=>bif v.t.beq ty then K (.val v,[]) M else none
  |none=>none
 | .lc k off p=>match dG M.bx k with
  |some (.bx c rs)=>match c with
   | .val c=>match T.ty t,AP U p c with
    |some ty,some (w,o)=>bif w.t.beq ty&&Nat.beq o off then
            (bif take&&Ct ty&&Ej off rs then K (.val w,Qb off 1 rs) ⟨qT M.bx k (.bx (.val c) (aZU off 1 rs)),M.wr⟩else K (.val w,[]) M)else none
    |_,_=>none
   | .cl f caps=>match p with
    |[]=>bif T.fn t&&Nat.beq off 0 then K (.cl f caps,[]) M else none
    |_=>none
   |_=>none
  |_=>none
 | .rp k i off p=>match dG M.bx k with
  |some (.row e l)=>ob (dE l i) λy=>match T.ty t,AP U p ⟨e,y⟩with
   |some ty,some (w,o)=>bif w.t.beq ty&&Nat.beq o off then K (.val w,[]) M else none
   |_,_=>none
  |_=>none
 |_=>none
def stT(M:TM U.D)(t:TypeId)(a:SV U.D)(x:X U)(K:TM U.D->Option W):Option W:=
 match a with
 | .lc k off p=>match dG M.bx k with
  |some (.bx c rs)=>match c with
   | .val c=>match T.ty t,AP U p c with
    |some ty,some (w,o)=>bif w.t.beq ty&&Nat.beq o off then
            match G6 U ty x.1 with
            |some v=>match ZO U p c v with
              |some c'=>K ⟨qT M.bx k (.bx (.val c') (a4t off x.2++aZU off (dC U ty) rs)),k::M.wr⟩
              |none=>none
            |none=>none
     else none
    |_,_=>none
   |_=>match p,x.1 with
    |[],.cl f caps=>bif T.fn t&&Nat.beq off 0&&isF c then K ⟨qT M.bx k (.bx (.cl f caps) []),k::M.wr⟩else none
    |_,_=>none
  |_=>none
 | .rp k i off p=>match dG M.bx k with
  |some (.row e l)=>ob (dE l i) λy=>match T.ty t,AP U p ⟨e,y⟩with
   |some ty,some (w,o)=>bif w.t.beq ty&&Nat.beq o off then
          match G6 U ty x.1 with
          |some v=>match ZO U p ⟨e,y⟩ v with
            |some c'=>match SG c'.t e c'.x with
              |some z=>K ⟨qT M.bx k (.row e (l.set i.toNat z)),k::M.wr⟩
              |none=>none
            |none=>none
          |none=>none
    else none
   |_,_=>none
  |_=>none
 |_=>none
where isF:SV U.D->Bool
 | .cl _ _=>true
 | .nf=>true
 |_=>false
def Gc(M:TM U.D)(k:Nat)(c:BC U.D)(K:TM U.D->Option W):Option W:=
 match dG M.bx k with
 |none=>K ⟨(k,c)::M.bx,M.wr⟩
 |some _=>none
def a3e(M:TM U.D)(d:Option Tmp)(t:TypeId)(K:X U->TM U.D->Option W):Option W:=
 match d with
 |some d=>match T.ty t with
  |some ty=>Gc U M (100+d) (.bx (.val ⟨ty,pO U ty⟩) (AD U ty)) λM'=>K (.lc (100+d) 0 [],[]) M'
  |none=>bif T.fn t then Gc U M (100+d) (.bx .nf []) λM'=>K (.lc (100+d) 0 [],[]) M' else none
 |none=>none
def a3c(M:TM U.D)(d:Option Tmp)(t:TypeId)(x:X U)(K:X U->TM U.D->Option W):Option W:=
 match d with
 |some d=>match T.ty t with
  |some ty=>match G6 U ty x.1 with
   |some v=>Gc U M (100+d) (.bx (.val v) (tH U x).2) λM'=>K (.lc (100+d) 0 [],[]) M'
   |none=>none
  |none=>match x.1 with
   | .cl f caps=>Gc U M (100+d) (.bx (.cl f caps) []) λM'=>K (.lc (100+d) 0 [],[]) M'
   |_=>none
 |none=>none
def bEc:Operand->Bool
 | .const (.int _ n)=>decide (n=0)
 |_=>false
def a26(M:TM U.D)(d:Option Tmp)(t:TypeId)(z:Bool)(e:TypeId->Option TypeId)(l c:SV U.D)(K:X U->TM U.D->Option W):Option W:=
 match T.ty t,e t,l,c with
 |some (.sl et),some fm,.val ⟨.int .i64,n⟩,.val ⟨.int .i64,k⟩=>
  kV (decide (0<=n)&&decide (n<=k)&&decide (k*(T.by' fm:Int)<=1073741824)&&decide (k<=1073741824))
   (bif z then kV (decide (n=0)) (K (.val ⟨.sl et,[]⟩,[(0,false)]) M)
    else kV (decide (n=k)) (match d with
    |some d=>Gc U M (100+d) (.row et (xY (pO U et) n.toNat)) λM'=>K (.rw (100+d),[]) M'
    |none=>none))
 |_,_,_,_=>none
def a3d(e:TypeId->Option TypeId)(ts:List TypeId)(s:X U)(x:SV U.D)(K:X U->Option W):Option W:=
 match ts with
 |[t,t1]=>match T.ty t,e t,T.ty t1 with
  |some (.sl et),some fm,some (.sl _)=>match G6 U (.sl et) s.1,G6 U (.sl et) x with
   |some ⟨a,l⟩,some ⟨b,r⟩=>match SG a (.sl et) l,SG b (.sl et) r with
    |some l,some r=>bif Ej 0 s.2 then kV (Nat.ble ((l.length+r.length)*T.by' fm) 1073741824) (K (.val ⟨.sl et,l++r⟩,s.2))else kV r.isEmpty (K (.val ⟨.sl et,l⟩,[]))
    |_,_=>none
   |_,_=>none
  |_,_,_=>none
 |_=>none
def aAU(e:TypeId->Option TypeId)(ts:List TypeId)(t1 t2:TypeId)(s:X U)(zz n x:SV U.D)(K:V U->V U->Option W):Option W:=
 match ts with
 |[t,tz]=>match T.ty t,e t,T.ty tz with
  |some (.sl et),some fm,some (.sl _)=>match G6 U (.sl et) s.1,G6 U (.sl et) zz,n,G6 U et x with
   |some ⟨a,l⟩,some ⟨b,y⟩,.val ⟨.int _,k⟩,some v=>match SG a (.sl et) l,SG b (.sl et) y,SG v.t et v.x with
    |some l,some [_],some w=>bif Ej 0 s.2&&Nat.beq t1 t&&Nat.beq t2 fm then
            kV (Nat.ble ((l.length+1)*T.by' fm) 1073741824&&decide (k=(l.length:Int))) (K ⟨.sl et,l++ [w]⟩ ⟨et,w⟩)else none
    |_,_,_=>none
   |_,_,_,_=>none
  |_,_,_=>none
 |_=>none
end
inductive Sh where
 |val (t:Ty)
 |tup (ts:List Ty)
 |nl
 |lc (k off:Nat) (path:List Nat)
 |ep (t:Ty)
 |rw (k:Nat)
 |cl (f:Nat) (caps:List Nat)
 |nf
 |row (t:Ty)
 |no
structure QJ where
 f:Nat
 ps:List (Sh×Bool)
 bx:List (Sh×jD)
 bo:List jD
 rs:List Ty
 own:Bool
abbrev nF(D:Nat->Type):=Nat->List (TV D)->Option (List (TV D))
def jR:List Nat->Nat->Nat
 |[],_=>0
 |x::_,0=>x
 |_::l,i+1=>jR l i
def yG:List Nat->List Nat->Bool
 |[],[]=>true
 |x::xs,y::ys=>Nat.beq x y&&yG xs ys
 |_,_=>false
def JO(f:Nat->Nat):List Nat->List Nat
 |[]=>[]
 |x::l=>f x::JO f l
def dY(i:Nat):List Nat->Bool
 |[]=>false
 |x::xs=>Nat.beq x i||dY i xs
def vS:List Nat->Nat->Bool
 |[],_=>true
 |x::xs,n=>Nat.blt x n&&vS xs n
def BZ:List Nat->List Nat->Bool
 |[],_=>true
 |x::xs,l=>dY x l&&BZ xs l
def PE:List Nat->Bool
 |[]=>true
 |x::xs=> !dY x xs&&PE xs
def GA(take:Bool):TS U.D->List Operand->List (X U)×TS U.D
 |S,[]=>([],S)
 |S,x::xs=>(((jJ U S x).1,bif take then(jJ U S x).2 else [])::(GA take (bif take then uY U S x else S) xs).1,(GA take (bif take then uY U S x else S) xs).2)
def nX(bk:List Nat):List (Sh×Bool)->List (X U)->Option (List (V U))
 |[],[]=>some []
 |(.val t,own)::ps,x::xs=>match G6 U t x.1,nX bk ps xs with
  |some v,some l=>bif !own||(qA x.2&& !lU t)then some (v::l)else none
  |_,_=>none
 |(.lc j off p,own)::ps,(.lc k fq p',_)::xs=>bif !own&&Nat.blt j bk.length&&Nat.beq k (jR bk j)&&Nat.beq off fq&&yG p p' then nX bk ps xs else none
 |(.cl f caps,own)::ps,(.cl f' cp,_)::xs=>bif !own&&Nat.beq f f'&&vS caps bk.length&&yG (JO (jR bk) caps) cp then nX bk ps xs else none
 |(.rw j,own)::ps,(.rw k,_)::xs=>bif !own&&Nat.blt j bk.length&&Nat.beq k (jR bk j)then nX bk ps xs else none
 |_,_=>none
def Ek(bk:List Nat)(M:TM U.D):List (Sh×jD)->Nat->Option (List (V U))
 |[],_=>some []
 |(s,r)::l,j=>match dG M.bx (jR bk j),Ek bk M l (j+1)with
  |some (.bx c rs),some d=>bif leR r rs then
        match s,c with
        | .val t,.val v=>bif v.t.beq t then some (v::d)else none
        | .cl f caps,.cl f' cp=>bif Nat.beq f f'&&vS caps bk.length&&yG (JO (jR bk) caps) cp then some d else none
        |_,_=>none
   else none
  |some (.row e x),some d=>match s with
   | .row t=>bif e.beq t then some (⟨.sl e,x⟩::d)else none
   |_=>none
  |_,_=>none
def GC:List (Sh×jD)->List Ty
 |[]=>[]
 |(.val t,_)::l=>t::GC l
 |(.row t,_)::l=> .sl t::GC l
 |_::l=>GC l
def fO:List (Sh×jD)->List jD->List (V U)->Option (List (BC U.D))
 |[],[],[]=>some []
 |(.val _,_)::l,r::rs,v::d=>match fO l rs d with|some m=>some (.bx (.val v) r::m)|none=>none
 |(.cl f caps,_)::l,_::rs,d=>match fO l rs d with|some m=>some (.bx (.cl f caps) []::m)|none=>none
 |(.row _,_)::l,_::rs,⟨.sl e,x⟩::d=>match fO l rs d with|some m=>some (.row e x::m)|none=>none
 |_,_,_=>none
def a5g(bk:List Nat):SV U.D->SV U.D
 | .cl f caps=> .cl f (JO (jR bk) caps)
 |s=>s
def aCo(bk:List Nat):BC U.D->BC U.D
 | .bx s r=> .bx (a5g U bk s) r
 |b=>b
def OZ(bk:List Nat):List (BC U.D)->Nat->List (Nat×BC U.D)->List (Nat×BC U.D)
 |[],_,m=>m
 |x::l,j,m=>OZ bk l (j+1) (qT m (jR bk j) (aCo U bk x))
def CO(own:Bool):List (V U)->X U
 |[v]=>(.val v,RP own)
 |[v,⟨.bool,b⟩]=>(.tup [v,⟨.bool,b⟩],RP (own&&b))
 |l=>(.tup l,[])
def ZM{W:Type}(own:Bool)(l:List (V U))(K:X U->Option W):Option W:=
 match own,l with
 |true,[v,⟨.bool,b⟩]=>bS b (K (CO U true [v,⟨.bool,true⟩])) (K (CO U true [v,⟨.bool,false⟩]))
 |_,_=>K (CO U own l)
variable(T:TT)
structure TP(D:Nat->Type) where
 T:TT
 el:TypeId->Option TypeId
 sig:Nat->Option QJ
 orc:Fs
section
variable(TPr:TP U.D){W:Type}(c:nF U.D)
def G1(take:Bool)(inst:Nat)(bk:List Nat)(S:TS U.D)(M:TM U.D)(f:SV U.D)(args:List Operand)(K:X U->TS U.D->TM U.D->Option W):Option W:=
 match f,TPr.sig inst with
 | .cl g caps,some s=>match nX U bk s.ps ((GA U take S args).1++caps.map λk=>(.lc k 0 [],[])),Ek U bk M s.bx 0 with
  |some d,some e=>bif Nat.beq g s.f&&PE bk&&Nat.beq bk.length s.bx.length then
        fY (s.rs++GC s.bx) (c inst (d++e)) λr=>
          match fO U s.bx s.bo ((aJx (s.rs++GC s.bx) r).drop s.rs.length)with
          |some m=>ZM U s.own ((aJx (s.rs++GC s.bx) r).take s.rs.length) λx=>K x (GA U take S args).2 ⟨OZ U bk m 0 M.bx,bk++M.wr⟩
          |none=>none
   else none
  |_,_=>none
 |_,_=>none
inductive TStep where
 |op (i:Nat) (take:Bool) (inst:Nat) (bk:List Nat)
 |app (a i s:Nat)
 |freeze (t:Nat)
def Ql(S:TS U.D):List Operand->Option (List Nat)
 |[]=>some []
 |x::l=>match(jJ U S x).1,Ql S l with
  | .lc k 0 [],some r=>some (k::r)
  |_,_=>none
def a1B{W:Type}(K:Nat->Option W)(m:Int):Nat->Nat->Option W
 |_,0=>none
 |j,f+1=>bS (decide (m=(j:Int))) (K j) (a1B K m (j+1) f)
def aAs(M:TM U.D)(t:Option Ty)(x:SV U.D)(K:X U->Option W):Option W:=
 match x with
 | .rw k=>match t,dG M.bx k with
  |some (.sl e),some (.row e' l)=>bif e.beq e' then K (.val ⟨.int .i64,(l.length:Int)⟩,[])else none
  |_,_=>none
 |y=>aAr U t y K
def Cl(sq take:Bool)(inst:Nat)(bk:List Nat)(o:Oper)(S:TS U.D)(M:TM U.D)(K:X U->TS U.D->TM U.D->Option W):Option W:=
 match o.op with
 | .move x=>bif take then K (jJ U S x) (uY U S x) M else K (tH U (jJ U S x)) S M
 | .assign x=>bif take then K (jJ U S x) (uY U S x) M else K (tH U (jJ U S x)) S M
 | .pick c a b=>match(jJ U S c).1 with
  | .val ⟨.bool,w⟩=>Gz U w (jJ U S a) (jJ U S b) λr=>K r S M
  |_=>none
 | .build t parts=>match TPr.T.ty t with
  |some (.rc n)=>match aAO U S (Bp U (U.fs n)) parts.toList with
   |some l=>ob (U.of n (aEP l)) λx=>K (.val ⟨.rc n,x⟩,aDR U l 0) S M
   |none=>none
  |_=>none
 | .nilCheck x=>match(jJ U S x).1 with
  | .lc k off p=>K (.lc k off p,[]) S M
  | .ep v=>K (.ep v,[]) S M
  | .rp k i off p=>K (.rp k i off p,[]) S M
  |_=>none
 | .binOp op t x y _=>aAQ U op (TPr.T.ty t) (bAU U (TPr.T.ty t) (jJ U S x).1) (bAU U (TPr.T.ty t) (jJ U S y).1) λv=>K (.val v,[]) S M
 | .unOp op _ x=>a2U U op (jJ U S x).1 λv=>K (.val v,[]) S M
 | .convert s d x=>GW U sq (TPr.T.ty s) (TPr.T.ty d) (jJ U S x).1 λv=>K (.val v,[]) S M
 | .makeFunc fn first captured=>match fn,first.toList,Ql U S captured.toList with
  | .func f,[],some ks=>K (.cl f ks,[]) S M
  |_,_,_=>none
 | .fieldAddr s x f=>match OE TPr.T s,(jJ U S x).1 with
  |some (.rc n),.lc k off p=>bif Nat.blt f (U.fs n).length then K (.lc k (off+kF U n f) (p++ [f]),[]) S M else none
  |some (.rc n),.ep v=>bif v.t.beq (.rc n)then(match Ki U v f with|some w=>K (.ep w,[]) S M|none=>none)else none
  |some (.rc n),.rp k i off p=>bif Nat.blt f (U.fs n).length then K (.rp k i (off+kF U n f) (p++ [f]),[]) S M else none
  |_,_=>none
 | .field t x f=>match OE TPr.T t,jJ U S x with
  |some (.rc n),(.val v,rs)=>bif v.t.beq (.rc n)then(match Ki U v f with|some w=>K (.val w,Qb (kF U n f) (dC U w.t) rs) S M|none=>none)else none
  |_,_=>none
 | .indexAddr t x i=>match TPr.T.ty t,(jJ U S x).1,(jJ U S i).1 with
  |some (.sl e),.val ⟨.sl e',l⟩,.val ⟨.int _,n⟩=>bif e.beq e' then ob (dE l n) λy=>K (.ep ⟨e',y⟩,[]) S M else none
  |some (.sl e),.rw k,.val ⟨.int _,n⟩=>match dG M.bx k with
   |some (.row e' l)=>bif e.beq e' then kV (cV n l.length) (K (.rp k n 0 [],[]) S M)else none
   |_=>none
  |some (.rc n),.lc k off p,.val ⟨.int _,m⟩=>bif TPr.T.arr t then a1B (λj=>K (.lc k (off+kF U n j) (p++ [j]),[]) S M) m 0 (U.fs n).length else none
  |some (.rc n),.ep v,.val ⟨.int _,m⟩=>bif TPr.T.arr t&&v.t.beq (.rc n)then a1B (λj=>match Ki U v j with|some w=>K (.ep w,[]) S M|none=>none) m 0 (U.fs n).length else none
  |_,_,_=>none
 | .index t x i=>match TPr.T.ty t,(jJ U S x).1,(jJ U S i).1 with
  |some .str,.val ⟨.str,s⟩,.val ⟨.int _,n⟩=>ob (dE s n) λb=>K (.val ⟨.int .u8,(b.toNat:Int)⟩,[]) S M
  |_,_,_=>none
 | .extract x i=>match(jJ U S x).1 with
  | .tup l=>match l[i]? with
   |some v=>bif take&&Nat.beq i 0 then K (.val v,bif Ct v.t then(jJ U S x).2 else []) (uY U S x) M else K (.val v,[]) S M
   |none=>none
  |_=>none
 | .load t a=>a27 U TPr.T take M t (jJ U S a).1 λr M'=>K r S M'
 | .slice t x lo hi mx=>a2Y U S (TPr.T.ty t) (jJ U S x).1 lo hi mx λr=>K r S M
 | .alloc t=>a3e U TPr.T M o.dst t λr M'=>K r S M'
 | .box t x=>a3c U TPr.T M o.dst t (jJ U S x) λr M'=>K r S M'
 | .buildSlice t len parts=>match TPr.T.ty t with
  |some (.sl e)=>bif Nat.ble (len*dC U e) 1000000 then
        match aAN U S e (xY (pO U e) len) parts.toList with
        |some l=>K (.val ⟨.sl e,l⟩,[(0,true)]) S M
        |none=>none
   else none
  |_=>none
 | .makeSlice t l c=>a26 U TPr.T M o.dst t (bEc l) TPr.el (jJ U S l).1 (jJ U S c).1 λr M'=>K r S M'
 | .store t a x=>stT U TPr.T M t (jJ U S a).1 (jJ U S x) λM'=>K (.no,[]) (uY U S x) M'
 | .call c'=>match c'.callee with
  | .builtin .len=>match c'.argTypes[0]?,c'.args[0]? with
   |some t,some x=>aAs U M (TPr.T.ty t) (jJ U S x).1 λr=>K r S M
   |_,_=>none
  | .builtin .min=>match c'.args.toList with
   |[x,y]=>aXs U false (jJ U S x).1 (jJ U S y).1 λr=>K r S M
   |_=>none
  | .builtin .max=>match c'.args.toList with
   |[x,y]=>aXs U true (jJ U S x).1 (jJ U S y).1 λr=>K r S M
   |_=>none
  | .builtin .append=>match c'.args.toList with
   |[s,x]=>a3d U TPr.T TPr.el c'.argTypes.toList (jJ U S s) (jJ U S x).1 λr=>K r (uY U S s) M
   |_=>none
  | .value f=>G1 U TPr c take inst bk S M (jJ U S f).1 c'.args.toList K
  |_=>none
 |_=>none
def aZI(ops:Array Oper)(o:Oper)(S:TS U.D)(run skip:TS U.D->Option W):Option W:=
 match o.guard with
 |none=>run S
 |some (j,want)=>match ops[j]?.bind (·.dst)with
  |none=>none
  |some d=>match lV S d with
   |(.val ⟨.bool,b⟩,r)=>bS b (bif want then run ((d,(.val ⟨.bool,true⟩,r))::S)else skip ((d,(.val ⟨.bool,true⟩,r))::S))
          (bif want then skip ((d,(.val ⟨.bool,false⟩,r))::S)else run ((d,(.val ⟨.bool,false⟩,r))::S))
   |(.tup [],_)=>skip S
   |_=>none
def SW(oA oI oS:Oper)(S:TS U.D)(K:TS U.D->Option W):Option W:=
 match oA.op,oA.dst,oI.op,oI.dst,oS.op,oS.dst with
 | .call c,some a,.indexAddr t1 (.tmp a') n,some b,.store t2 (.tmp b') x,none=>
  match c.callee,c.args.toList with
  | .builtin .append,[s,zz]=>
   bif Nat.beq a a'&&Nat.beq b b'&& !Nat.beq a b&& !NO a n&& !NO a x&& !NO b x&&oA.guard.isNone&&oI.guard.isNone&&oS.guard.isNone then
    aAU U TPr.T TPr.el c.argTypes.toList t1 t2 (jJ U S s) (jJ U S zz).1 (jJ U S n).1 (jJ U S x).1 λv w=>K ((b,(.ep w,[]))::(a,(.val v,[(0,true)]))::uY U S s)
   else none
  |_,_=>none
 |_,_,_,_,_,_=>none
def a28(S:TS U.D)(M:TM U.D)(t:Nat):Option (TS U.D×TM U.D):=
 match lV S t with
 |(.rw k,_)=>match dG M.bx k with
  |some (.row e l)=>some ((t,(.val ⟨.sl e,l⟩,[]))::S,⟨qT M.bx k .gone,k::M.wr⟩)
  |_=>none
 |(.val v,r)=>some ((t,(.val v,r))::S,M)
 |(.nl,r)=>some ((t,(.nl,r))::S,M)
 |(.cl f caps,r)=>some ((t,(.cl f caps,r))::S,M)
 |_=>none
def zI(ops:Array Oper):List TStep->TS U.D->TM U.D->(TS U.D->TM U.D->Option W)->Option W
 |[],S,M,K=>K S M
 | .app a i s::rest,S,M,K=>match ops[a]?,ops[i]?,ops[s]? with
  |some oA,some oI,some oS=>SW U TPr oA oI oS S λS'=>zI ops rest S' M K
  |_,_,_=>none
 | .freeze t::rest,S,M,K=>match a28 U S M t with
  |some r=>zI ops rest r.1 r.2 K
  |none=>none
 | .op i take inst bk::rest,S,M,K=>match ops[i]? with
  |none=>none
  |some o=>aZI U ops o S (λS=>Cl U TPr c true take inst bk o S M λr S' M'=>zI ops rest (ZY U S' o.dst r) M' K)
        (λS=>zI ops rest (ZY U S o.dst (.tup [],[])) M K)
structure NR where
 i:Nat
 k:Nat
 stale:Bool
 mr:Bool
def JG(wr:List Nat):List NR->Bool
 |[]=>true
 |r::l=>(!r.stale||(!r.mr&& !dY r.k wr))&&JG wr l
def Gl(ms:List Nat)(i:Nat)(ap:Bool):List NR->List NR
 |[]=>[]
 |r::l=>bif jC (ms.getD i 0) r.i then Gl ms i ap l else(bif ap&& !r.mr then r else⟨r.i,r.k,true,r.mr⟩)::Gl ms i ap l
def Px(ms:List Nat)(i:Nat):List NR->List NR
 |[]=>[]
 |r::l=>bif jC (ms.getD i 0) r.i then Px ms i l else r::Px ms i l
def aDP(ms:List Nat)(i:Nat):List NR->Bool
 |[]=>true
 |r::l=>(jC (ms.getD i 0) r.i|| !r.mr)&&aDP ms i l
def aWR(o:Oper)(S:TS U.D)(x:X U)(i:Nat)(pend:List NR):Option (List NR):=
 match o.op with
 | .load _ a=>match(jJ U S a).1 with
  | .lc k _ _=>some (⟨i,k,false,false⟩::pend)
  | .rp k _ _ _=>some (⟨i,k,false,false⟩::pend)
  | .ep _=>some pend
  |_=>none
 | .alloc _=>match x.1 with
  | .lc k _ _=>some (⟨i,k,false,false⟩::pend)
  |_=>none
 | .box _ _=>match x.1 with
  | .lc k _ _=>some (⟨i,k,false,false⟩::pend)
  |_=>none
 | .makeSlice _ _ _=>some (⟨i,0,false,true⟩::pend)
 |_=>some pend
def mV(ops:Array Oper)(ms:List Nat):List TStep->List NR->TS U.D->TM U.D->(TS U.D->TM U.D->Option W)->Option W
 |[],pend,S,M,K=>bif JG M.wr pend then K S M else none
 | .app a i s::rest,pend,S,M,K=>match ops[a]?,ops[i]?,ops[s]? with
  |some oA,some oI,some oS=>SW U TPr oA oI oS S λS'=>bif JG M.wr pend&&aDP ms a pend then mV ops ms rest (Px ms s (Gl ms a true pend)) S' M K else none
  |_,_,_=>none
 | .freeze t::rest,pend,S,M,K=>match a28 U S M t with
  |some r=>mV ops ms rest pend r.1 r.2 K
  |none=>none
 | .op i take inst bk::rest,pend,S,M,K=>match ops[i]? with
  |none=>none
  |some o=>aZI U ops o S (λS=>Cl U TPr c false take inst bk o S M λx S' M'=>
          bif kN o then(bif JG M.wr pend then mV ops ms rest (Gl ms i (oU o) pend) (ZY U S' o.dst x) M' K else none)
          else match aWR U o S x i pend with
            |some gq=>mV ops ms rest gq (ZY U S' o.dst x) M' K
            |none=>none)
        (λS=>mV ops ms rest pend (ZY U S o.dst (.tup [],[])) M K)
end
structure Cut where
 sl:List (Nat×Sh×jD)
 bx:List (Nat×Sh×jD)
def Cut.ts(c:Cut):List Nat:=c.sl.map (·.1)
def Gp:List (V U)->List Ty->Bool
 |[],[]=>true
 |v::l,t::ts=>v.t.beq t&&Gp l ts
 |_,_=>false
def yF(bx:List Nat):Sh->SV U.D->Option (List (V U))
 | .val t,s=>match G6 U t s with|some v=>some [v]|none=>none
 | .tup ts,.tup l=>bif Gp U l ts then some l else none
 | .nl,.nl=>some []
 | .lc k off p,.lc k' fq p'=>bif Nat.beq k k'&&Nat.beq off fq&&yG p p'&&dY k bx then some []else none
 | .ep t,.ep v=>bif v.t.beq t then some [v]else none
 | .rw k,.rw k'=>bif Nat.beq k k'&&dY k bx then some []else none
 | .cl f caps,.cl f' cp=>bif Nat.beq f f'&&yG caps cp&&BZ caps bx then some []else none
 | .nf,.nf=>some []
 | .no,_=>some []
 |_,_=>none
def aET(bx:List Nat)(S:TS U.D):List (Nat×Sh×jD)->Option (List (V U))
 |[]=>some []
 |(t,s,r)::l=>match yF U bx s (lV S t).1,aET bx S l with
  |some a,some d=>bif leR r (lV S t).2 then some (a++d)else none
  |_,_=>none
def aAA(bx:List Nat)(M:List (Nat×BC U.D)):List (Nat×Sh×jD)->Option (List (V U))
 |[]=>some []
 |(k,s,r)::l=>match dG M k,aAA bx M l with
  |some (.bx c rs),some d=>match s with
   | .row _=>none
   | .no=>none
   |s=>match yF U bx s c with
    |some a=>bif leR r rs then some (a++d)else none
    |none=>none
  |some (.row e v),some d=>match s with
   | .row t=>bif e.beq t then some (⟨.sl e,v⟩::d)else none
   |_=>none
  |_,_=>none
def Ge(ct:Cut)(S:TS U.D)(M:TM U.D):Option (List (V U)):=
 match aET U (ct.bx.map (·.1)) S ct.sl,aAA U (ct.bx.map (·.1)) M.bx ct.bx with
 |some a,some b=>some (a++b)
 |_,_=>none
def Ra:Sh->List (V U)->Option (SV U.D×List (V U))
 | .val t,v::d=>bif v.t.beq t then some (.val v,d)else none
 | .tup ts,d=>bif Gp U (d.take ts.length) ts then some (.tup (d.take ts.length),d.drop ts.length)else none
 | .nl,d=>some (.nl,d)
 | .lc k off p,d=>some (.lc k off p,d)
 | .ep t,v::d=>bif v.t.beq t then some (.ep v,d)else none
 | .rw k,d=>some (.rw k,d)
 | .cl f caps,d=>some (.cl f caps,d)
 | .nf,d=>some (.nf,d)
 | .no,d=>some (.no,d)
 |_,_=>none
def aBb:List (Nat×Sh×jD)->List (V U)->Option (TS U.D×List (V U))
 |[],d=>some ([],d)
 |(t,s,r)::l,d=>match Ra U s d with
  |some (x,d')=>match aBb l d' with
   |some (S,tq)=>some ((t,(x,r))::S,tq)
   |none=>none
  |none=>none
def CL:List (Nat×Sh×jD)->List (V U)->Option (List (Nat×BC U.D)×List (V U))
 |[],d=>some ([],d)
 |(k,.row t,_)::l,v::d=>match v with
  |⟨.sl e,x⟩=>bif e.beq t then(match CL l d with|some (M,d')=>some ((k,.row e x)::M,d')|none=>none)else none
  |_=>none
 |(k,s,r)::l,d=>match Ra U s d with
  |some (x,d')=>match CL l d' with
   |some (M,tq)=>some ((k,.bx x r)::M,tq)
   |none=>none
  |none=>none
def HL(ct:Cut)(d:List (V U)):Option (TS U.D×TM U.D):=
 match aBb U ct.sl d with
 |some (S,d')=>match CL U ct.bx d' with
  |some (M,[])=>some (S,⟨M,[]⟩)
  |_=>none
 |none=>none
inductive TC where
 |skip
 |label (l:Nat)
 |region (id:Nat) (ops:Array Oper) (draw:Bool) (ms:List Nat) (sc:List TStep)
 |seq (a b:TC)
 |cond (c:Operand) (a b:TC)
 |block (id:Nat) (c:TC)
 |loop (ct:Cut) (c:TC)
 |exit (id:Nat)
 |ret
 |scope (c:TC)
 |cut (ct:Cut) (c:TC)
 |ice (t:Nat) (c:TC)
 |other (c:Code)
def TStep.un:TStep->Bl
 | .op i take _ _=> .op i take
 | .app a i s=> .app a i s
 | .freeze t=> .freeze t
def TC.pc:TC->PC
 | .skip=> .skip
 | .label l=> .label l
 | .region id ops draw ms sc=> .region id ops draw ms (sc.map TStep.un)
 | .seq a b=> .seq a.pc b.pc
 | .cond c a b=> .cond c a.pc b.pc
 | .block id c=> .block id c.pc
 | .loop ct c=> .loop (.drop ct.ts c.pc)
 | .exit id=> .exit id
 | .ret=> .ret
 | .scope c=> .scope c.pc
 | .cut ct c=> .drop ct.ts c.pc
 | .ice t c=> .ice t c.pc
 | .other c=> .other c
abbrev TK(D:Nat->Type)(W:Type):=Fl->TS D->TM D->Option W
section
variable(TPr:TP U.D){W:Type}(c:nF U.D)
def Du(run:TS U.D->TM U.D->TK U.D W->Option W)(K:TK U.D W):TK U.D W
 | .normal,S,M=>run S M K
 |fl,S,M=>K fl S M
def dK(id:Nat)(K:TK U.D W):TK U.D W
 | .exit n,S,M=>bif Nat.beq n id then K .normal S M else K (.exit n) S M
 |fl,S,M=>K fl S M
def iK(ct:Cut)(k:List (V U)->Option W)(K:TK U.D W):TK U.D W
 | .normal,S,M=>match Ge U ct S M with|some d=>k d|none=>none
 |fl,S,M=>K fl S M
def oF(ct:Cut)(run:TS U.D->TM U.D->Option W)(d:List (V U)):Option W:=
 match HL U ct d with
 |some r=>run r.1 r.2
 |none=>none
def Cq(ct:Cut)(body:TS U.D->TM U.D->TK U.D W->Option W)(K:TK U.D W):Nat->List (V U)->Option W
 |0,_=>none
 |n+1,d=>oF U ct (λS M=>body S M (iK U ct (Cq ct body K n) K)) d
def GF(ops:Array Oper)(S:TS U.D)(M:TM U.D):Bool:=
 match HN ops with
 |none=>true
 |some (.tmp s,.tmp t)=>match(lV S s).1,(lV S t).1 with
  | .ep _,.lc k _ _=>match dG M.bx k with
   |some (.bx _ _)=>true
   |_=>false
  |_,_=>false
 |_=>false
abbrev DT(U:hY)(W:Type):=Cut->TC->List (V U)->TK U.D W->Option W
def oG(D E:DT U W):TC->TS U.D->TM U.D->TK U.D W->Option W
 | .skip,S,M,K=>K .normal S M
 | .label _,S,M,K=>K .normal S M
 | .region _ ops draw ms sc,S,M,K=>match draw with
  |true=>mV U TPr c ops ms sc [] S ⟨M.bx,[]⟩ λS' M'=>bif GF U ops S' M' then K .normal S' M' else none
  |false=>zI U TPr c ops sc S M (K .normal)
 | .seq a b,S,M,K=>oG D E a S M (Du U (oG D E b) K)
 | .cond x a b,S,M,K=>match(jJ U S x).1 with
  | .val ⟨.bool,w⟩=>bS w (oG D E a S M K) (oG D E b S M K)
  |_=>none
 | .block id a,S,M,K=>oG D E a S M (dK U id K)
 | .loop ct a,S,M,K=>match Ge U ct S M with
  |some d=>E ct a d K
  |none=>none
 | .exit id,S,M,K=>K (.exit id) S M
 | .ret,S,M,K=>K .ret S M
 | .scope a,S,M,K=>oG D E a S M K
 | .cut ct a,S,M,K=>match Ge U ct S M with
  |some d=>D ct a d K
  |none=>none
 | .ice t a,S,M,K=>match a28 U S M t with
  |some r=>oG D E a r.1 r.2 K
  |none=>none
 | .other _,_,_,_=>none
def fK(L:Nat):TC->TS U.D->TM U.D->TK U.D W->Option W
 | .skip,S,M,K=>K .normal S M
 | .label _,S,M,K=>K .normal S M
 | .region _ ops draw ms sc,S,M,K=>match draw with
  |true=>mV U TPr c ops ms sc [] S ⟨M.bx,[]⟩ λS' M'=>bif GF U ops S' M' then K .normal S' M' else none
  |false=>zI U TPr c ops sc S M (K .normal)
 | .seq a b,S,M,K=>fK L a S M (Du U (fK L b) K)
 | .cond x a b,S,M,K=>match(jJ U S x).1 with
  | .val ⟨.bool,w⟩=>bS w (fK L a S M K) (fK L b S M K)
  |_=>none
 | .block id a,S,M,K=>fK L a S M (dK U id K)
 | .loop ct a,S,M,K=>match Ge U ct S M with
  |some d=>Cq U ct (λS M K=>fK L a S M K) K L d
  |none=>none
 | .exit id,S,M,K=>K (.exit id) S M
 | .ret,S,M,K=>K .ret S M
 | .scope a,S,M,K=>fK L a S M K
 | .cut ct a,S,M,K=>match Ge U ct S M with
  |some d=>oF U ct (λS M=>fK L a S M K) d
  |none=>none
 | .ice t a,S,M,K=>match a28 U S M t with
  |some r=>fK L a r.1 r.2 K
  |none=>none
 | .other _,_,_,_=>none
def Dx(L:Nat):DT U W:=λct a d K=>oF U ct (λS M=>fK U TPr c L a S M K) d
def Ex(L:Nat):DT U W:=λct a d K=>Cq U ct (λS M K=>fK U TPr c L a S M K) K L d
def FQ(S:TS U.D)(M:TM U.D):List ResultVar->List Ty->Option (List (V U))
 |[],[]=>some []
 | .tmp t::rs,ty::ts=>match G6 U ty (lV S t).1,FQ S M rs ts with
  |some v,some l=>some (v::l)
  |_,_=>none
 | .cell a t::rs,ty::ts=>match(lV S a).1,TPr.T.ty t,FQ S M rs ts with
  | .lc k off p,some ty',some l=>match dG M.bx k with
   |some (.bx (.val c) _)=>match AP U p c with
    |some (w,o)=>bif w.t.beq ty&&ty.beq ty'&&Nat.beq o off then some (w::l)else none
    |none=>none
   |_=>none
  |_,_,_=>none
 |_,_=>none
def aWU(S:TS U.D):List ResultVar->Bool
 |[.tmp t]=>qA (lV S t).2
 |_=>false
def Po(M:TM U.D):List (Sh×jD)->List jD->Nat->Option (List (V U))
 |[],[],_=>some []
 |(s,_)::l,r::bo,j=>match dG M.bx j,Po M l bo (j+1)with
  |some (.bx c rs),some d=>match s,c with
   | .val t,.val v=>bif v.t.beq t&&leR r rs then some (v::d)else none
   | .cl f caps,.cl f' cp=>bif Nat.beq f f'&&yG caps cp then some d else none
   |_,_=>none
  |some (.row e x),some d=>match s with
   | .row t=>bif e.beq t then some (⟨.sl e,x⟩::d)else none
   |_=>none
  |_,_=>none
 |_,_,_=>none
def Ps:List Ty->Bool
 |[.sl _]=>true
 |_=>false
def a4o:List Ty->Bool
 |[.sl _,.bool]=>true
 |_=>false
def aDv(S:TS U.D):List ResultVar->Bool
 | .tmp t::_=>qA (lV S t).2
 |_=>false
def bI2:List (V U)->Bool
 |[_,⟨.bool,b⟩]=> !b
 |_=>false
def Kk(S:TS U.D)(rs:List ResultVar)(own:Bool)(ts:List Ty)(a:List (V U)):Bool:=
 bif own then(bif aDv U S rs then Ps ts&&aWU U S rs||a4o ts else a4o ts&&bI2 U a)else true
def aEX(s:QJ)(rs:List ResultVar):TK U.D (List (V U)):=λfl S M=>
 match fl with
 | .exit _=>none
 |_=>match FQ U TPr S M rs s.rs,Po U M s.bx s.bo 0 with
  |some a,some b=>bif Kk U S rs s.own s.rs a then some (a++b)else none
  |_,_=>none
def cutOf(s:QJ):Cut:=⟨psL s.ps 0,bxL s.bx 0⟩
where
 psL:List (Sh×Bool)->Nat->List (Nat×Sh×jD)
  |[],_=>[]
  |(s,o)::l,i=>(i,s,RP o)::psL l (i+1)
 bxL:List (Sh×jD)->Nat->List (Nat×Sh×jD)
  |[],_=>[]
  |(s,r)::l,j=>(j,s,r)::bxL l (j+1)
end
def Ef(n:Nat):List (Sh×jD)->Bool
 |[]=>true
 |(.cl _ caps,_)::l=>vS caps n&&Ef n l
 |_::l=>Ef n l
abbrev aM7:=Nat->Option (TC×List ResultVar)
def aKP(O:Fs)(s:QJ):Bool:=
 bif Nat.beq s.f O.n then(match s.ps,s.bx,s.bo,s.rs,s.own with
 |[(.val (.int .i64),false),(.val (.int .i64),false)],[],[],[.str],false=>true
 |_,_,_,_,_=>false)else bif Nat.beq s.f O.m then(match s.ps,s.bx,s.bo,s.rs,s.own with
 |[],[],[],[.bool],false=>true
 |_,_,_,_,_=>false)else true
def bDm:OV->V U
 | .s l=>⟨.str,l⟩
 | .t=>⟨.bool,true⟩
def aKI(O:Fs)(s:QJ)(d:List (V U)):Option OV:=
 bif Nat.beq s.f O.n then(match d with
 |[⟨.int .i64,a⟩,⟨.int .i64,b⟩]=>(O.s a b).map .s
 |_=>none)else bif Nat.beq s.f O.m then(match d with
 |[]=>some .t
 |_=>none)else none
def vJ(TPr:TP U.D)(G:aM7)(L:Nat):Nat->nF U.D
 |0,_,_=>none
 |n+1,i,d=>match TPr.sig i,G i with
  |some s,some (code,rs)=>bif aKP TPr.orc s&&Nat.ble s.bx.length 100&&Ef s.bx.length s.bx then(match aKI U TPr.orc s d with|some x=>some [bDm U x]|none=>oF U (cutOf s) (λS M=>fK U TPr (vJ TPr G L n) L code S M (aEX U TPr s rs)) d)else none
  |_,_=>none
end
end Go.TV
