import Derived.Test.YtmebgielemmehaaGreatDoorKi
set_option linter.unusedVariables false
set_option linter.unusedSimpArgs false
set_option linter.constructorNameAsVariable false
set_option linter.defProp false
namespace Go.TV
open Go.AI Go.PI
inductive Ty where
 |int (k:IntKind)
 |bool
 |str
 |sl (t:Ty)
 |rc (n:Nat)
 deriving Inhabited
def Ty.beq:Ty->Ty->Bool
 | .int k,.int j=>decide (k=j)
 | .bool,.bool=>true
 | .str,.str=>true
 | .sl a,.sl b=>a.beq b
 | .rc n,.rc m=>Nat.beq n m
 |_,_=>false
def Ty.beq_eq: ∀{a b:Ty},a.beq b=true->a=b
 | .int k,.int j,h=>by simp only[Ty.beq,aD]at h;rw[h]
 | .bool,.bool,_=>rfl
 | .str,.str,_=>rfl
 | .sl a,.sl b,h=>by simp only[Ty.beq]at h;rw[Ty.beq_eq h]
 | .rc n,.rc m,h=>by simp only[Ty.beq]at h;rw[aE h]
 | .int _,.bool,h=>by cases h
 | .int _,.str,h=>by cases h
 | .int _,.sl _,h=>by cases h
 | .int _,.rc _,h=>by cases h
 | .bool,.int _,h=>by cases h
 | .bool,.str,h=>by cases h
 | .bool,.sl _,h=>by cases h
 | .bool,.rc _,h=>by cases h
 | .str,.int _,h=>by cases h
 | .str,.bool,h=>by cases h
 | .str,.sl _,h=>by cases h
 | .str,.rc _,h=>by cases h
 | .sl _,.int _,h=>by cases h
 | .sl _,.bool,h=>by cases h
 | .sl _,.str,h=>by cases h
 | .sl _,.rc _,h=>by cases h
 | .rc _,.int _,h=>by cases h
 | .rc _,.bool,h=>by cases h
 | .rc _,.str,h=>by cases h
 | .rc _,.sl _,h=>by cases h
def Ty.beq_rfl: ∀(a:Ty),a.beq a=true
 | .int k=>by simp[Ty.beq]
 | .bool=>rfl
 | .str=>rfl
 | .sl a=>by simp only[Ty.beq,Ty.beq_rfl a]
 | .rc n=>by simp[Ty.beq]
def Ty.dec(a b:Ty):Decidable (a=b):=
 match h:a.beq b with
 |true=>isTrue (Ty.beq_eq h)
 |false=>isFalse λe=>by rw[e,Ty.beq_rfl]at h;cases h
@[reducible] def Den (D:Nat->Type):Ty->Type
 | .int _=>Int
 | .bool=>Bool
 | .str=>List UInt8
 | .sl t=>List (Den D t)
 | .rc n=>D n
structure TV(D:Nat->Type) where
 t:Ty
 x:Den D t
def My{D:Nat->Type}(t u:Ty)(x:Den D t):Option (Den D u):=
 match Ty.dec t u with
 |isTrue h=>some (h▸x)
 |isFalse _=>none
structure gT where
 D:Nat->Type
 fs:Nat->List Ty
 un:(n:Nat)->D n->List (TV D)
 of:(n:Nat)->List (TV D)->Option (D n)
 en:(n:Nat)->D n->List PV
 eq:(n:Nat)->Option (D n->D n->Bool)
 zero:(n:Nat)->D n
 sz:Nat->Nat
 lt:Nat->List Ty
structure TT where
 ty:TypeId->Option Ty
 by':TypeId->Nat
 fn:TypeId->Bool
 arr:TypeId->Bool
def G1(T:TT)(t:TypeId):Option Ty:=bif T.arr t then none else T.ty t
abbrev iL:=List (Nat×Bool)
inductive SV(D:Nat->Type) where
 |val (v:TV D)
 |tup (l:List (TV D))
 |nl
 |lc (k off:Nat) (path:List Nat)
 |ep (v:TV D)
 |rw (k:Nat)
 |rp (k:Nat) (i:Int) (off:Nat) (path:List Nat)
 |cl (f:Nat) (caps:List Nat)
 |nf
 |zr (l:List PV)
 |no
inductive BC(D:Nat->Type) where
 |bx (s:SV D) (r:iL)
 |row (t:Ty) (l:List (Den D t))
 |gone
abbrev TS(D:Nat->Type):=List (Nat×(SV D×iL))
structure TM(D:Nat->Type) where
 bx:List (Nat×BC D)
 wr:List Nat
def kT{D:Nat->Type}:TS D->Nat->SV D×iL
 |[],_=>(.no,[])
 |(k,x)::S,t=>bif Nat.beq k t then x else kT S t
def dE{D:Nat->Type}:List (Nat×BC D)->Nat->Option (BC D)
 |[],_=>none
 |(k,x)::S,t=>bif Nat.beq k t then some x else dE S t
def oV{D:Nat->Type}:List (Nat×BC D)->Nat->BC D->List (Nat×BC D)
 |[],_,_=>[]
 |(k,x)::S,t,y=>bif Nat.beq k t then(k,y)::S else(k,x)::oV S t y
def ob{N W:Type}(a:Option N)(K:N->Option W):Option W:=match a with|some x=>K x|none=>none
def jC{W:Type}(b:Bool)(K:Option W):Option W:=match b with|true=>K|false=>none
def cH{W:Type}(b:Bool)(A B:Option W):Option W:=match b with|true=>A|false=>B
@[reducible] def DenL (D:Nat->Type):List Ty->Type
 |[]=>Unit
 |t::ts=>Den D t×DenL D ts
def fH{D:Nat->Type}:(ts:List Ty)->List (TV D)->Option (DenL D ts)
 |[],[]=>some ()
 |t::ts,v::vs=>match My v.t t v.x,fH ts vs with
  |some x,some r=>some (x,r)
  |_,_=>none
 |_,_=>none
def aAY{D:Nat->Type}:(ts:List Ty)->DenL D ts->List (TV D)
 |[],_=>[]
 |t::ts,r=>⟨t,r.1⟩::aAY ts r.2
def fZ{D:Nat->Type}{W:Type}(ts:List Ty)(a:Option (List (TV D)))(K:DenL D ts->Option W):Option W:=
 match a with
 |some l=>match fH ts l with
  |some r=>K r
  |none=>none
 |none=>none
def eK{N:Type}(l:List N)(n:Int):Option N:=bif decide (0<=n)then l[n.toNat]? else none
def slc{N:Type}(l:List N)(lo hi:Int):Option (List N):=
 bif decide (0<=lo)&&decide (lo<=hi)&&decide (hi<=(l.length:Int))then some ((l.take hi.toNat).drop lo.toNat)else none
section
variable(U:gT)
abbrev V:=TV U.D
abbrev X:=SV U.D×iL
def cZ:Ty->Nat
 | .rc n=>U.sz n
 |_=>1
def iO:Ty->List Ty
 | .rc n=>U.lt n
 |t=>[t]
def eE:List Ty->Nat
 |[]=>0
 |t::ts=>cZ U t+eE ts
def jM(n i:Nat):Nat:=eE U ((U.fs n).take i)
def nH:(t:Ty)->Den U.D t
 | .int _=>(0:Int)
 | .bool=>false
 | .str=>[]
 | .sl _=>[]
 | .rc n=>U.zero n
def aLr:Nat->List Ty->Nat->iL
 |0,_,_=>[]
 |_,[],_=>[]
 |f+1,t::ts,o=>(match t with| .sl _=>[(o,true)]| .rc n=>aLr f (U.fs n) o|_=>[])++aLr f ts (o+cZ U t)
def vP:Ty->iL
 | .sl _=>[(0,true)]
 | .rc n=>aLr U 60 (U.fs n) 0
 |_=>[]
def Fx(v:V U)(i:Nat):Option (V U):=
 match v with
 |⟨.rc n,x⟩=>(U.un n x)[i]?
 |_=>none
def a0J(t:Ty)(i:Nat):Nat:=match t with| .rc n=>jM U n i|_=>0
def vX:List Nat->V U->Option (V U×Nat)
 |[],v=>some (v,0)
 |i::p,v=>match Fx U v i with
  |some w=>match vX p w with
   |some r=>some (r.1,a0J U v.t i+r.2)
   |none=>none
  |none=>none
def Sg:List Nat->V U->V U->Option (V U)
 |[],v,w=>bif v.t.beq w.t then some w else none
 |i::p,v,w=>match v with
  |⟨.rc n,x⟩=>match(U.un n x)[i]? with
   |some y=>match Sg p y w with
    |some y'=>match U.of n ((U.un n x).set i y')with
     |some z=>some ⟨.rc n,z⟩
     |none=>none
    |none=>none
   |none=>none
  |_=>none
def Bp(o:Nat):iL->Bool
 |[]=>false
 |x::xs=>Nat.beq x.1 o||Bp o xs
def Kb(o n:Nat):iL->iL
 |[]=>[]
 |x::xs=>bif Nat.ble o x.1&&Nat.blt x.1 (o+n)then(x.1-o,x.2)::Kb o n xs else Kb o n xs
def aMB(o n:Nat):iL->iL
 |[]=>[]
 |x::xs=>bif Nat.ble o x.1&&Nat.blt x.1 (o+n)then aMB o n xs else x::aMB o n xs
def aQq(o:Nat):iL->iL
 |[]=>[]
 |x::xs=>(x.1+o,x.2)::aQq o xs
def leR:iL->iL->Bool
 |[],_=>true
 |x::xs,r=>memW x r&&leR xs r
where memW (x:Nat×Bool):iL->Bool
 |[]=>false
 |y::ys=>(Nat.beq x.1 y.1&&(!x.2||y.2))||memW x ys
def Lx:Bool->iL
 |true=>[(0,true)]
 |false=>[]
def oD:iL->Bool
 |[]=>false
 |x::xs=>(Nat.beq x.1 0&&x.2)||oD xs
def aAX:Ty->List PV
 | .int k=>[.v (.int k 0)]
 | .bool=>[.v (.bool false)]
 | .str=>[.str []]
 | .sl _=>[.nil]
 | .rc _=>[]
def TA:List PV->List PV->Bool
 |[],[]=>true
 | .v (.int k n)::l,.v (.int j m)::r=>decide (k=j)&&decide (n=m)&&TA l r
 | .v (.bool b)::l,.v (.bool c)::r=>decide (b=c)&&TA l r
 | .v .nilFunc::l,.v .nilFunc::r=>TA l r
 | .str s::l,.str u::r=>s.isEmpty&&u.isEmpty&&TA l r
 | .nil::l,.nil::r=>TA l r
 |_,_=>false
def a3T:Value->SV U.D
 | .bool b=> .val ⟨.bool,b⟩
 | .int k n=> .val ⟨.int k,n⟩
 | .string s=> .val ⟨.str,s.data.toList⟩
 | .slice none _ _=> .nl
 | .nilFunc=> .nf
 | .agg ⟨cs⟩=> .zr (ofVs cs)
 |_=> .no
def iQ(S:TS U.D):Operand->X U
 | .tmp t=>kT S t
 | .const v=>match a3T U v with| .nl=>(.nl,[(0,true)])|x=>(x,[])
 | .func f=>(.cl f [],[])
 |_=>(.no,[])
def Em(t:Ty):SV U.D->Option (V U)
 | .val v=>bif v.t.beq t then some v else none
 | .nl=>match t with| .sl e=>some ⟨.sl e,[]⟩|_=>none
 | .zr l=>match t with| .rc n=>bif TA l ((U.lt n).flatMap aAX)then some ⟨.rc n,U.zero n⟩else none|_=>none
 |_=>none
def aXu(t:Option Ty)(s:SV U.D):SV U.D:=
 match s with
 | .zr l=>match t with|some ty=>(match Em U ty (.zr l)with|some v=> .val v|none=> .no)|none=> .no
 |s=>s
def kS:Ty->Bool
 | .rc _=>true
 |_=>false
def qU(x:X U):X U:=
 match x.1 with
 | .val v=>(x.1,bif kS v.t then x.2 else [])
 | .nl=>(.nl,[(0,true)])
 |_=>(x.1,[])
def rY(S:TS U.D):Operand->TS U.D
 | .tmp t=>(t,qU U (kT S t))::S
 |_=>S
def So(S:TS U.D)(d:Option Tmp)(x:X U):TS U.D:=
 match d with
 |some d=>(d,x)::S
 |none=>S
section
variable{W:Type}
def aUu(op:BinOp)(k:IntKind)(a b:Int)(K:V U->Option W):Option W:=
 match op with
 | .eql=>K ⟨.bool,decide (a=b)⟩
 | .neq=>K ⟨.bool,!decide (a=b)⟩
 | .lss=>K ⟨.bool,decide (a<b)⟩
 | .leq=>K ⟨.bool,decide (a<=b)⟩
 | .gtr=>K ⟨.bool,decide (b<a)⟩
 | .geq=>K ⟨.bool,decide (b<=a)⟩
 | .add=>K ⟨.int k,k.wrap (a+b)⟩
 | .sub=>K ⟨.int k,k.wrap (a-b)⟩
 | .mul=>K ⟨.int k,k.wrap (a*b)⟩
 | .quo=>jC (!decide (b=0)) (K ⟨.int k,k.wrap (a.tdiv b)⟩)
 | .rem=>jC (!decide (b=0)) (K ⟨.int k,a.tmod b⟩)
 | .and=>K ⟨.int k,k.wrap ((BitVec.ofInt k.bits a&&&BitVec.ofInt k.bits b).toNat:Int)⟩
 | .or=>K ⟨.int k,k.wrap ((BitVec.ofInt k.bits a|||BitVec.ofInt k.bits b).toNat:Int)⟩
 | .xor=>K ⟨.int k,k.wrap ((BitVec.ofInt k.bits a^^^BitVec.ofInt k.bits b).toNat:Int)⟩
 | .andNot=>K ⟨.int k,k.wrap ((BitVec.ofInt k.bits a&&& ~~~ BitVec.ofInt k.bits b).toNat:Int)⟩
 |_=>none
def a3v(op:BinOp)(k:IntKind)(a b:Int)(K:V U->Option W):Option W:=
 match op with
 | .shl=>jC (decide (0<=b)) (K ⟨.int k,k.wrap (a*2^(min b.toNat k.bits))⟩)
 | .shr=>jC (decide (0<=b)) (K ⟨.int k,a.fdiv (2^(min b.toNat k.bits))⟩)
 |_=>none
def aQg(op:BinOp)(a b:List UInt8)(K:V U->Option W):Option W:=
 match op with
 | .eql=>K ⟨.bool,decide (a=b)⟩
 | .neq=>K ⟨.bool,!decide (a=b)⟩
 | .lss=>K ⟨.bool,Op.bytesLess a b⟩
 | .leq=>K ⟨.bool,Op.bytesLess a b||decide (a=b)⟩
 | .gtr=>K ⟨.bool,!(Op.bytesLess a b||decide (a=b))⟩
 | .geq=>K ⟨.bool,!Op.bytesLess a b⟩
 | .add=>jC (Nat.ble (a.length+b.length) 1000000000) (K ⟨.str,a++b⟩)
 |_=>none
def Qg:BinOp->Bool
 | .shl| .shr=>true
 |_=>false
def aNF(op:BinOp)(t:Option Ty)(a b:SV U.D)(K:V U->Option W):Option W:=
 match a,b with
 | .val ⟨.int k,x⟩,.val ⟨.int j,y⟩=>bif Qg op then a3v U op k x y K else bif decide (k=j)then aUu U op k x y K else none
 | .val ⟨.bool,x⟩,.val ⟨.bool,y⟩=>match t,op with
  |some .bool,.eql=>K ⟨.bool,x==y⟩
  |some .bool,.neq=>K ⟨.bool,!(x==y)⟩
  |_,_=>none
 | .val ⟨.str,x⟩,.val ⟨.str,y⟩=>aQg U op x y K
 | .val ⟨.rc n,x⟩,.val ⟨.rc m,y⟩=>match t with
  |some (.rc i)=>match U.eq i,My (.rc n) (.rc i) x,My (.rc m) (.rc i) y with
   |some f,some x,some y=>match op with
    | .eql=>K ⟨.bool,f x y⟩
    | .neq=>K ⟨.bool,!f x y⟩
    |_=>none
   |_,_,_=>none
  |_=>none
 | .val ⟨.sl e,x⟩,.nl=>match t,op with
  |some (.sl _),.eql=>jC (!x.isEmpty) (K ⟨.bool,false⟩)
  |some (.sl _),.neq=>jC (!x.isEmpty) (K ⟨.bool,true⟩)
  |_,_=>none
 |_,_=>none
def aYw(op:UnOp)(a:SV U.D)(K:V U->Option W):Option W:=
 match op,a with
 | .not,.val ⟨.bool,b⟩=>K ⟨.bool,!b⟩
 | .neg,.val ⟨.int k,n⟩=>K ⟨.int k,k.wrap (0-n)⟩
 |_,_=>none
def Cd:List Int->Option (List UInt8)
 |[]=>some []
 |n::r=>match Cd r with|some l=>some (UInt8.ofNat n.toNat::l)|none=>none
def Xj(sq:Bool)(s d:Option Ty)(a:SV U.D)(K:V U->Option W):Option W:=
 match s,d,a with
 |some (.int _),some (.int j),.val ⟨.int k,n⟩=>K ⟨.int j,j.wrap n⟩
 |some .str,some .str,.val ⟨.str,x⟩=>K ⟨.str,x⟩
 |some (.sl (.int .u8)),some .str,.val ⟨.sl (.int .u8),l⟩=>bif sq then ob (Cd l) λx=>K ⟨.str,x⟩else none
 |_,_,_=>none
def Vd(w:Bool)(a b:X U)(K:X U->Option W):Option W:=
 match a.1,b.1 with
 | .val ⟨t,x⟩,.val ⟨u,y⟩=>match My u t y with
  |some y=>K (.val ⟨t,bif w then x else y⟩,[])
  |none=>none
 |_,_=>cH w (K (qU U a)) (K (qU U b))
def wK:List Ty->List (V U×Bool)
 |[]=>[]
 |t::ts=>(⟨t,nH U t⟩,true)::wK ts
def setF:List (V U×Bool)->Nat->V U×Bool->List (V U×Bool)
 |[],_,_=>[]
 |_::l,0,x=>x::l
 |y::l,i+1,x=>y::setF l i x
def S7(S:TS U.D):List (V U×Bool)->List (Nat×Operand)->Option (List (V U×Bool))
 |l,[]=>some l
 |l,(i,x)::r=>match l[i]? with
  |some y=>match Em U y.1.t (iQ U S x).1 with
   |some v=>S7 S (setF U l i (v,match(iQ U S x).1 with| .nl=>true|_=>false)) r
   |none=>none
  |none=>none
def VD:List (V U×Bool)->Nat->iL
 |[],_=>[]
 |y::l,o=>(match y.2 with|true=>aQq o (vP U y.1.t)|false=>[])++VD l (o+cZ U y.1.t)
def WE{N I:Type}:List (N×I)->List N
 |[]=>[]
 |x::l=>x.1::WE l
def aBD{N:Type}:List N->Nat->N->List N
 |[],_,_=>[]
 |_::l,0,x=>x::l
 |y::l,i+1,x=>y::aBD l i x
def S6(S:TS U.D)(e:Ty):List (Den U.D e)->List (Nat×Operand)->Option (List (Den U.D e))
 |l,[]=>some l
 |l,(i,x)::r=>match Em U e (iQ U S x).1 with
  |some v=>match My v.t e v.x with
   |some w=>bif Nat.blt i l.length then S6 S e (aBD l i w) r else none
   |none=>none
  |none=>none
def pT{N:Type}(x:N):Nat->List N
 |0=>[]
 |n+1=>x::pT x n
def Vj:Option (SV U.D)->Option (Option Int)
 |none=>some none
 |some (.val ⟨.int _,n⟩)=>some (some n)
 |_=>none
def aUt:Option Operand->Bool
 |some (.const (.int _ n))=>decide (n=0)
 |_=>false
def aYY(S:TS U.D)(t:Option Ty)(x:SV U.D)(lo hi mx:Option Operand)(K:X U->Option W):Option W:=
 match t,x,Vj U (lo.map λx=>(iQ U S x).1),Vj U (hi.map λx=>(iQ U S x).1),Vj U (mx.map λx=>(iQ U S x).1)with
 |some .str,.val ⟨.str,s⟩,some l,some h,some none=>ob (slc s (l.getD 0) (h.getD (s.length:Int))) λr=>K (.val ⟨.str,r⟩,[])
 |some (.sl e),.val ⟨.sl e',s⟩,some l,some h,some none=>bif e.beq e' then ob (slc s (l.getD 0) (h.getD (s.length:Int))) λr=>K (.val ⟨.sl e',r⟩,[])else none
 |some (.sl e),.val ⟨.sl e',s⟩,some l,some (some h),some (some m)=>bif e.beq e' then bif aUt mx then jC (List.isEmpty s&&decide (l.getD 0=0)&&decide (h=0)&&decide (m=0)) (K (.val ⟨.sl e',[]⟩,[(0,true)]))
  else jC (decide (h=m)&&decide (l.getD 0<h)) (ob (slc s (l.getD 0) h) λr=>K (.val ⟨.sl e',r⟩,[(0,true)]))else none
 |_,_,_,_,_=>none
def aLR(t:Option Ty)(x:SV U.D)(K:X U->Option W):Option W:=
 match t,x with
 |some (.sl e),.val ⟨.sl e',l⟩=>bif e.beq e' then K (.val ⟨.int .i64,(l.length:Int)⟩,[])else none
 |some .str,.val ⟨.str,l⟩=>K (.val ⟨.int .i64,(l.length:Int)⟩,[])
 |some (.sl _),.nl=>K (.val ⟨.int .i64,(0:Int)⟩,[])
 |_,_=>none
def aXG(mx:Bool)(a b:SV U.D)(K:X U->Option W):Option W:=
 match a,b with
 | .val ⟨.int .i64,x⟩,.val ⟨.int .i64,y⟩=>K (.val ⟨.int .i64,bif mx then(bif decide (x<y)then y else x)else(bif decide (y<x)then y else x)⟩,[])
 |_,_=>none
end
section
variable(T:TT){W:Type}
def zB:Ty->Bool
 | .sl _=>true
 |_=>false
def a0Y(take:Bool)(M:TM U.D)(t:TypeId)(a:SV U.D)(K:X U->TM U.D->Option W):Option W:=
 match a with
 | .ep v=>match T.ty t with
  |some ty=>bif v.t.beq ty then K (.val v,[]) M else none
  |none=>none
 | .lc k off p=>match dE M.bx k with
  |some (.bx c rs)=>match c with
   | .val c=>match T.ty t,vX U p c with
    |some ty,some (w,o)=>bif w.t.beq ty&&Nat.beq o off then
            (bif take&&zB ty&&Bp off rs then K (.val w,Kb off 1 rs) ⟨oV M.bx k (.bx (.val c) (aMB off 1 rs)),M.wr⟩else K (.val w,[]) M)else none
    |_,_=>none
   | .cl f caps=>match p with
    |[]=>bif T.fn t&&Nat.beq off 0 then K (.cl f caps,[]) M else none
    |_=>none
   |_=>none
  |_=>none
 | .rp k i off p=>match dE M.bx k with
  |some (.row e l)=>ob (eK l i) λy=>match T.ty t,vX U p ⟨e,y⟩with
   |some ty,some (w,o)=>bif w.t.beq ty&&Nat.beq o off then K (.val w,[]) M else none
   |_,_=>none
  |_=>none
 |_=>none
def stT(M:TM U.D)(t:TypeId)(a:SV U.D)(x:X U)(K:TM U.D->Option W):Option W:=
 match a with
 | .lc k off p=>match dE M.bx k with
  |some (.bx c rs)=>match c with
   | .val c=>match T.ty t,vX U p c with
    |some ty,some (w,o)=>bif w.t.beq ty&&Nat.beq o off then
            match Em U ty x.1 with
            |some v=>match Sg U p c v with
              |some c'=>K ⟨oV M.bx k (.bx (.val c') (aQq off x.2++aMB off (cZ U ty) rs)),k::M.wr⟩
              |none=>none
            |none=>none
     else none
    |_,_=>none
   |_=>match p,x.1 with
    |[],.cl f caps=>bif T.fn t&&Nat.beq off 0&&isF c then K ⟨oV M.bx k (.bx (.cl f caps) []),k::M.wr⟩else none
    |_,_=>none
  |_=>none
 | .rp k i off p=>match dE M.bx k with
  |some (.row e l)=>ob (eK l i) λy=>match T.ty t,vX U p ⟨e,y⟩with
   |some ty,some (w,o)=>bif w.t.beq ty&&Nat.beq o off then
          match Em U ty x.1 with
          |some v=>match Sg U p ⟨e,y⟩ v with
            |some c'=>match My c'.t e c'.x with
              |some z=>K ⟨oV M.bx k (.row e (l.set i.toNat z)),k::M.wr⟩
              |none=>none
            |none=>none
          |none=>none
    else none
   |_,_=>none
  |_=>none
 |_=>none
where isF:SV U.D->Bool
 | .cl _ _=>true
 | .nf=>true
 |_=>false
def LA(M:TM U.D)(k:Nat)(c:BC U.D)(K:TM U.D->Option W):Option W:=
 match dE M.bx k with
 |none=>K ⟨(k,c)::M.bx,M.wr⟩
 |some _=>none
def a2M(M:TM U.D)(d:Option Tmp)(t:TypeId)(K:X U->TM U.D->Option W):Option W:=
 match d with
 |some d=>match T.ty t with
  |some ty=>LA U M (100+d) (.bx (.val ⟨ty,nH U ty⟩) (vP U ty)) λM'=>K (.lc (100+d) 0 [],[]) M'
  |none=>bif T.fn t then LA U M (100+d) (.bx .nf []) λM'=>K (.lc (100+d) 0 [],[]) M' else none
 |none=>none
def a2J(M:TM U.D)(d:Option Tmp)(t:TypeId)(x:X U)(K:X U->TM U.D->Option W):Option W:=
 match d with
 |some d=>match T.ty t with
  |some ty=>match Em U ty x.1 with
   |some v=>LA U M (100+d) (.bx (.val v) (qU U x).2) λM'=>K (.lc (100+d) 0 [],[]) M'
   |none=>none
  |none=>match x.1 with
   | .cl f caps=>LA U M (100+d) (.bx (.cl f caps) []) λM'=>K (.lc (100+d) 0 [],[]) M'
   |_=>none
 |none=>none
def a1d:Operand->Bool
 | .const (.int _ n)=>decide (n=0)
 |_=>false
def a0U(M:TM U.D)(d:Option Tmp)(t:TypeId)(z:Bool)(e:TypeId->Option TypeId)(l c:SV U.D)(K:X U->TM U.D->Option W):Option W:=
 match T.ty t,e t,l,c with
 |some (.sl et),some fe,.val ⟨.int .i64,n⟩,.val ⟨.int .i64,k⟩=>
  jC (decide (0<=n)&&decide (n<=k)&&decide (k*(T.by' fe:Int)<=1073741824)&&decide (k<=1073741824))
   (bif z then jC (decide (n=0)) (K (.val ⟨.sl et,[]⟩,[(0,false)]) M)
    else jC (decide (n=k)) (match d with
    |some d=>LA U M (100+d) (.row et (pT (nH U et) n.toNat)) λM'=>K (.rw (100+d),[]) M'
    |none=>none))
 |_,_,_,_=>none
def a2L(e:TypeId->Option TypeId)(ts:List TypeId)(s:X U)(x:SV U.D)(K:X U->Option W):Option W:=
 match ts with
 |[t,t1]=>match T.ty t,e t,T.ty t1 with
  |some (.sl et),some fe,some (.sl _)=>match Em U (.sl et) s.1,Em U (.sl et) x with
   |some ⟨a,l⟩,some ⟨b,r⟩=>match My a (.sl et) l,My b (.sl et) r with
    |some l,some r=>bif Bp 0 s.2 then jC (Nat.ble ((l.length+r.length)*T.by' fe) 1073741824) (K (.val ⟨.sl et,l++r⟩,s.2))else jC r.isEmpty (K (.val ⟨.sl et,l⟩,[]))
    |_,_=>none
   |_,_=>none
  |_,_,_=>none
 |_=>none
def aNT(e:TypeId->Option TypeId)(ts:List TypeId)(t1 t2:TypeId)(s:X U)(zz n x:SV U.D)(K:V U->V U->Option W):Option W:=
 match ts with
 |[t,tz]=>match T.ty t,e t,T.ty tz with
  |some (.sl et),some fe,some (.sl _)=>match Em U (.sl et) s.1,Em U (.sl et) zz,n,Em U et x with
   |some ⟨a,l⟩,some ⟨b,y⟩,.val ⟨.int _,k⟩,some v=>match My a (.sl et) l,My b (.sl et) y,My v.t et v.x with
    |some l,some [_],some w=>bif Bp 0 s.2&&Nat.beq t1 t&&Nat.beq t2 fe then
            jC (Nat.ble ((l.length+1)*T.by' fe) 1073741824&&decide (k=(l.length:Int))) (K ⟨.sl et,l++ [w]⟩ ⟨et,w⟩)else none
    |_,_,_=>none
   |_,_,_,_=>none
  |_,_,_=>none
 |_=>none
end
inductive Sh where
 |val (t:Ty)
 |tup (ts:List Ty)
 |nl
 |lc (k off:Nat) (path:List Nat)
 |ep (t:Ty)
 |rw (k:Nat)
 |cl (f:Nat) (caps:List Nat)
 |nf
 |row (t:Ty)
 |no
structure Dj where
 f:Nat
 ps:List (Sh×Bool)
 bx:List (Sh×iL)
 bo:List iL
 rs:List Ty
 own:Bool
abbrev kX(D:Nat->Type):=Nat->List (TV D)->Option (List (TV D))
def jB:List Nat->Nat->Nat
 |[],_=>0
 |x::_,0=>x
 |_::l,i+1=>jB l i
def tP:List Nat->List Nat->Bool
 |[],[]=>true
 |x::xs,y::ys=>Nat.beq x y&&tP xs ys
 |_,_=>false
def Fb(f:Nat->Nat):List Nat->List Nat
 |[]=>[]
 |x::l=>f x::Fb f l
def dQ(i:Nat):List Nat->Bool
 |[]=>false
 |x::xs=>Nat.beq x i||dQ i xs
def sM:List Nat->Nat->Bool
 |[],_=>true
 |x::xs,n=>Nat.blt x n&&sM xs n
def yF:List Nat->List Nat->Bool
 |[],_=>true
 |x::xs,l=>dQ x l&&yF xs l
def IP:List Nat->Bool
 |[]=>true
 |x::xs=> !dQ x xs&&IP xs
def DI(take:Bool):TS U.D->List Operand->List (X U)×TS U.D
 |S,[]=>([],S)
 |S,x::xs=>(((iQ U S x).1,bif take then(iQ U S x).2 else [])::(DI take (bif take then rY U S x else S) xs).1,(DI take (bif take then rY U S x else S) xs).2)
def lW(bk:List Nat):List (Sh×Bool)->List (X U)->Option (List (V U))
 |[],[]=>some []
 |(.val t,own)::ps,x::xs=>match Em U t x.1,lW bk ps xs with
  |some v,some l=>bif !own||(oD x.2&& !kS t)then some (v::l)else none
  |_,_=>none
 |(.lc j off p,own)::ps,(.lc k fh p',_)::xs=>bif !own&&Nat.blt j bk.length&&Nat.beq k (jB bk j)&&Nat.beq off fh&&tP p p' then lW bk ps xs else none
 |(.cl f caps,own)::ps,(.cl f' co,_)::xs=>bif !own&&Nat.beq f f'&&sM caps bk.length&&tP (Fb (jB bk) caps) co then lW bk ps xs else none
 |(.rw j,own)::ps,(.rw k,_)::xs=>bif !own&&Nat.blt j bk.length&&Nat.beq k (jB bk j)then lW bk ps xs else none
 |_,_=>none
def Bq(bk:List Nat)(M:TM U.D):List (Sh×iL)->Nat->Option (List (V U))
 |[],_=>some []
 |(s,r)::l,j=>match dE M.bx (jB bk j),Bq bk M l (j+1)with
  |some (.bx c rs),some d=>bif leR r rs then
        match s,c with
        | .val t,.val v=>bif v.t.beq t then some (v::d)else none
        | .cl f caps,.cl f' co=>bif Nat.beq f f'&&sM caps bk.length&&tP (Fb (jB bk) caps) co then some d else none
        |_,_=>none
   else none
  |some (.row e x),some d=>match s with
   | .row t=>bif e.beq t then some (⟨.sl e,x⟩::d)else none
   |_=>none
  |_,_=>none
def DK:List (Sh×iL)->List Ty
 |[]=>[]
 |(.val t,_)::l=>t::DK l
 |(.row t,_)::l=> .sl t::DK l
 |_::l=>DK l
def fA:List (Sh×iL)->List iL->List (V U)->Option (List (BC U.D))
 |[],[],[]=>some []
 |(.val _,_)::l,r::rs,v::d=>match fA l rs d with|some m=>some (.bx (.val v) r::m)|none=>none
 |(.cl f caps,_)::l,_::rs,d=>match fA l rs d with|some m=>some (.bx (.cl f caps) []::m)|none=>none
 |(.row _,_)::l,_::rs,⟨.sl e,x⟩::d=>match fA l rs d with|some m=>some (.row e x::m)|none=>none
 |_,_,_=>none
def aRR(bk:List Nat):SV U.D->SV U.D
 | .cl f caps=> .cl f (Fb (jB bk) caps)
 |s=>s
def UB(bk:List Nat):BC U.D->BC U.D
 | .bx s r=> .bx (aRR U bk s) r
 |b=>b
def HS(bk:List Nat):List (BC U.D)->Nat->List (Nat×BC U.D)->List (Nat×BC U.D)
 |[],_,m=>m
 |x::l,j,m=>HS bk l (j+1) (oV m (jB bk j) (UB U bk x))
def zX(own:Bool):List (V U)->X U
 |[v]=>(.val v,Lx own)
 |[v,⟨.bool,b⟩]=>(.tup [v,⟨.bool,b⟩],Lx (own&&b))
 |l=>(.tup l,[])
def aJP{W:Type}(own:Bool)(l:List (V U))(K:X U->Option W):Option W:=
 match own,l with
 |true,[v,⟨.bool,b⟩]=>cH b (K (zX U true [v,⟨.bool,true⟩])) (K (zX U true [v,⟨.bool,false⟩]))
 |_,_=>K (zX U own l)
variable(T:TT)
structure TP(D:Nat->Type) where
 T:TT
 el:TypeId->Option TypeId
 sig:Nat->Option Dj
 orc:CJ
section
variable(TPr:TP U.D){W:Type}(c:kX U.D)
def Xs(take:Bool)(inst:Nat)(bk:List Nat)(S:TS U.D)(M:TM U.D)(f:SV U.D)(args:List Operand)(K:X U->TS U.D->TM U.D->Option W):Option W:=
 match f,TPr.sig inst with
 | .cl g caps,some s=>match lW U bk s.ps ((DI U take S args).1++caps.map λk=>(.lc k 0 [],[])),Bq U bk M s.bx 0 with
  |some d,some e=>bif Nat.beq g s.f&&IP bk&&Nat.beq bk.length s.bx.length then
        fZ (s.rs++DK s.bx) (c inst (d++e)) λr=>
          match fA U s.bx s.bo ((aAY (s.rs++DK s.bx) r).drop s.rs.length)with
          |some m=>aJP U s.own ((aAY (s.rs++DK s.bx) r).take s.rs.length) λx=>K x (DI U take S args).2 ⟨HS U bk m 0 M.bx,bk++M.wr⟩
          |none=>none
   else none
  |_,_=>none
 |_,_=>none
inductive TStep where
 |op (i:Nat) (take:Bool) (inst:Nat) (bk:List Nat)
 |app (a i s:Nat)
 |freeze (t:Nat)
def Ku(S:TS U.D):List Operand->Option (List Nat)
 |[]=>some []
 |x::l=>match(iQ U S x).1,Ku S l with
  | .lc k 0 [],some r=>some (k::r)
  |_,_=>none
def aWx{W:Type}(K:Nat->Option W)(m:Int):Nat->Nat->Option W
 |_,0=>none
 |j,f+1=>cH (decide (m=(j:Int))) (K j) (aWx K m (j+1) f)
def aLS(M:TM U.D)(t:Option Ty)(x:SV U.D)(K:X U->Option W):Option W:=
 match x with
 | .rw k=>match t,dE M.bx k with
  |some (.sl e),some (.row e' l)=>bif e.beq e' then K (.val ⟨.int .i64,(l.length:Int)⟩,[])else none
  |_,_=>none
 |y=>aLR U t y K
def Be(sq take:Bool)(inst:Nat)(bk:List Nat)(o:Oper)(S:TS U.D)(M:TM U.D)(K:X U->TS U.D->TM U.D->Option W):Option W:=
 match o.op with
 | .move x=>bif take then K (iQ U S x) (rY U S x) M else K (qU U (iQ U S x)) S M
 | .assign x=>bif take then K (iQ U S x) (rY U S x) M else K (qU U (iQ U S x)) S M
 | .pick c a b=>match(iQ U S c).1 with
  | .val ⟨.bool,w⟩=>Vd U w (iQ U S a) (iQ U S b) λr=>K r S M
  |_=>none
 | .build t parts=>match TPr.T.ty t with
  |some (.rc n)=>match S7 U S (wK U (U.fs n)) parts.toList with
   |some l=>ob (U.of n (WE l)) λx=>K (.val ⟨.rc n,x⟩,VD U l 0) S M
   |none=>none
  |_=>none
 | .nilCheck x=>match(iQ U S x).1 with
  | .lc k off p=>K (.lc k off p,[]) S M
  | .ep v=>K (.ep v,[]) S M
  | .rp k i off p=>K (.rp k i off p,[]) S M
  |_=>none
 | .binOp op t x y _=>aNF U op (TPr.T.ty t) (aXu U (TPr.T.ty t) (iQ U S x).1) (aXu U (TPr.T.ty t) (iQ U S y).1) λv=>K (.val v,[]) S M
 | .unOp op _ x=>aYw U op (iQ U S x).1 λv=>K (.val v,[]) S M
 | .convert s d x=>Xj U sq (TPr.T.ty s) (TPr.T.ty d) (iQ U S x).1 λv=>K (.val v,[]) S M
 | .makeFunc fn first captured=>match fn,first.toList,Ku U S captured.toList with
  | .func f,[],some ks=>K (.cl f ks,[]) S M
  |_,_,_=>none
 | .fieldAddr s x f=>match G1 TPr.T s,(iQ U S x).1 with
  |some (.rc n),.lc k off p=>bif Nat.blt f (U.fs n).length then K (.lc k (off+jM U n f) (p++ [f]),[]) S M else none
  |some (.rc n),.ep v=>bif v.t.beq (.rc n)then(match Fx U v f with|some w=>K (.ep w,[]) S M|none=>none)else none
  |some (.rc n),.rp k i off p=>bif Nat.blt f (U.fs n).length then K (.rp k i (off+jM U n f) (p++ [f]),[]) S M else none
  |_,_=>none
 | .field t x f=>match G1 TPr.T t,iQ U S x with
  |some (.rc n),(.val v,rs)=>bif v.t.beq (.rc n)then(match Fx U v f with|some w=>K (.val w,Kb (jM U n f) (cZ U w.t) rs) S M|none=>none)else none
  |_,_=>none
 | .indexAddr t x i=>match TPr.T.ty t,(iQ U S x).1,(iQ U S i).1 with
  |some (.sl e),.val ⟨.sl e',l⟩,.val ⟨.int _,n⟩=>bif e.beq e' then ob (eK l n) λy=>K (.ep ⟨e',y⟩,[]) S M else none
  |some (.sl e),.rw k,.val ⟨.int _,n⟩=>match dE M.bx k with
   |some (.row e' l)=>bif e.beq e' then jC (bV n l.length) (K (.rp k n 0 [],[]) S M)else none
   |_=>none
  |some (.rc n),.lc k off p,.val ⟨.int _,m⟩=>bif TPr.T.arr t then aWx (λj=>K (.lc k (off+jM U n j) (p++ [j]),[]) S M) m 0 (U.fs n).length else none
  |some (.rc n),.ep v,.val ⟨.int _,m⟩=>bif TPr.T.arr t&&v.t.beq (.rc n)then aWx (λj=>match Fx U v j with|some w=>K (.ep w,[]) S M|none=>none) m 0 (U.fs n).length else none
  |_,_,_=>none
 | .index t x i=>match TPr.T.ty t,(iQ U S x).1,(iQ U S i).1 with
  |some .str,.val ⟨.str,s⟩,.val ⟨.int _,n⟩=>ob (eK s n) λb=>K (.val ⟨.int .u8,(b.toNat:Int)⟩,[]) S M
  |_,_,_=>none
 | .extract x i=>match(iQ U S x).1 with
  | .tup l=>match l[i]? with
   |some v=>bif take&&Nat.beq i 0 then K (.val v,bif zB v.t then(iQ U S x).2 else []) (rY U S x) M else K (.val v,[]) S M
   |none=>none
  |_=>none
 | .load t a=>a0Y U TPr.T take M t (iQ U S a).1 λr M'=>K r S M'
 | .slice t x lo hi mx=>aYY U S (TPr.T.ty t) (iQ U S x).1 lo hi mx λr=>K r S M
 | .alloc t=>a2M U TPr.T M o.dst t λr M'=>K r S M'
 | .box t x=>a2J U TPr.T M o.dst t (iQ U S x) λr M'=>K r S M'
 | .buildSlice t len parts=>match TPr.T.ty t with
  |some (.sl e)=>bif Nat.ble (len*cZ U e) 1000000 then
        match S6 U S e (pT (nH U e) len) parts.toList with
        |some l=>K (.val ⟨.sl e,l⟩,[(0,true)]) S M
        |none=>none
   else none
  |_=>none
 | .makeSlice t l c=>a0U U TPr.T M o.dst t (a1d l) TPr.el (iQ U S l).1 (iQ U S c).1 λr M'=>K r S M'
 | .store t a x=>stT U TPr.T M t (iQ U S a).1 (iQ U S x) λM'=>K (.no,[]) (rY U S x) M'
 | .call c'=>match c'.callee with
  | .builtin .len=>match c'.argTypes[0]?,c'.args[0]? with
   |some t,some x=>aLS U M (TPr.T.ty t) (iQ U S x).1 λr=>K r S M
   |_,_=>none
  | .builtin .min=>match c'.args.toList with
   |[x,y]=>aXG U false (iQ U S x).1 (iQ U S y).1 λr=>K r S M
   |_=>none
  | .builtin .max=>match c'.args.toList with
   |[x,y]=>aXG U true (iQ U S x).1 (iQ U S y).1 λr=>K r S M
   |_=>none
  | .builtin .append=>match c'.args.toList with
   |[s,x]=>a2L U TPr.T TPr.el c'.argTypes.toList (iQ U S s) (iQ U S x).1 λr=>K r (rY U S s) M
   |_=>none
  | .value f=>Xs U TPr c take inst bk S M (iQ U S f).1 c'.args.toList K
  |_=>none
 |_=>none
def aXL(ops:Array Oper)(o:Oper)(S:TS U.D)(run skip:TS U.D->Option W):Option W:=
 match o.guard with
 |none=>run S
 |some (j,want)=>match ops[j]?.bind (·.dst)with
  |none=>none
  |some d=>match kT S d with
   |(.val ⟨.bool,b⟩,r)=>cH b (bif want then run ((d,(.val ⟨.bool,true⟩,r))::S)else skip ((d,(.val ⟨.bool,true⟩,r))::S))
          (bif want then skip ((d,(.val ⟨.bool,false⟩,r))::S)else run ((d,(.val ⟨.bool,false⟩,r))::S))
   |(.tup [],_)=>skip S
   |_=>none
def aED(oA oI oS:Oper)(S:TS U.D)(K:TS U.D->Option W):Option W:=
 match oA.op,oA.dst,oI.op,oI.dst,oS.op,oS.dst with
 | .call c,some a,.indexAddr t1 (.tmp a') n,some b,.store t2 (.tmp b') x,none=>
  match c.callee,c.args.toList with
  | .builtin .append,[s,zz]=>
   bif Nat.beq a a'&&Nat.beq b b'&& !Nat.beq a b&& !Gy a n&& !Gy a x&& !Gy b x&&oA.guard.isNone&&oI.guard.isNone&&oS.guard.isNone then
    aNT U TPr.T TPr.el c.argTypes.toList t1 t2 (iQ U S s) (iQ U S zz).1 (iQ U S n).1 (iQ U S x).1 λv w=>K ((b,(.ep w,[]))::(a,(.val v,[(0,true)]))::rY U S s)
   else none
  |_,_=>none
 |_,_,_,_,_,_=>none
def aOH(S:TS U.D)(M:TM U.D)(t:Nat):Option (TS U.D×TM U.D):=
 match kT S t with
 |(.rw k,_)=>match dE M.bx k with
  |some (.row e l)=>some ((t,(.val ⟨.sl e,l⟩,[]))::S,⟨oV M.bx k .gone,k::M.wr⟩)
  |_=>none
 |(.val v,r)=>some ((t,(.val v,r))::S,M)
 |(.nl,r)=>some ((t,(.nl,r))::S,M)
 |(.cl f caps,r)=>some ((t,(.cl f caps,r))::S,M)
 |_=>none
def CU(ops:Array Oper):List TStep->TS U.D->TM U.D->(TS U.D->TM U.D->Option W)->Option W
 |[],S,M,K=>K S M
 | .app a i s::rest,S,M,K=>match ops[a]?,ops[i]?,ops[s]? with
  |some oA,some oI,some oS=>aED U TPr oA oI oS S λS'=>CU ops rest S' M K
  |_,_,_=>none
 | .freeze t::rest,S,M,K=>match aOH U S M t with
  |some r=>CU ops rest r.1 r.2 K
  |none=>none
 | .op i take inst bk::rest,S,M,K=>match ops[i]? with
  |none=>none
  |some o=>aXL U ops o S (λS=>Be U TPr c true take inst bk o S M λr S' M'=>CU ops rest (So U S' o.dst r) M' K)
        (λS=>CU ops rest (So U S o.dst (.tup [],[])) M K)
structure KW where
 i:Nat
 k:Nat
 stale:Bool
 mr:Bool
def E4(wr:List Nat):List KW->Bool
 |[]=>true
 |r::l=>(!r.stale||(!r.mr&& !dQ r.k wr))&&E4 wr l
def Dn(ms:List Nat)(i:Nat)(ap:Bool):List KW->List KW
 |[]=>[]
 |r::l=>bif kK (ms.getD i 0) r.i then Dn ms i ap l else(bif ap&& !r.mr then r else⟨r.i,r.k,true,r.mr⟩)::Dn ms i ap l
def II(ms:List Nat)(i:Nat):List KW->List KW
 |[]=>[]
 |r::l=>bif kK (ms.getD i 0) r.i then II ms i l else r::II ms i l
def VC(ms:List Nat)(i:Nat):List KW->Bool
 |[]=>true
 |r::l=>(kK (ms.getD i 0) r.i|| !r.mr)&&VC ms i l
def aK7(o:Oper)(S:TS U.D)(x:X U)(i:Nat)(pend:List KW):Option (List KW):=
 match o.op with
 | .load _ a=>match(iQ U S a).1 with
  | .lc k _ _=>some (⟨i,k,false,false⟩::pend)
  | .rp k _ _ _=>some (⟨i,k,false,false⟩::pend)
  | .ep _=>some pend
  |_=>none
 | .alloc _=>match x.1 with
  | .lc k _ _=>some (⟨i,k,false,false⟩::pend)
  |_=>none
 | .box _ _=>match x.1 with
  | .lc k _ _=>some (⟨i,k,false,false⟩::pend)
  |_=>none
 | .makeSlice _ _ _=>some (⟨i,0,false,true⟩::pend)
 |_=>some pend
def qT(ops:Array Oper)(ms:List Nat):List TStep->List KW->TS U.D->TM U.D->(TS U.D->TM U.D->Option W)->Option W
 |[],pend,S,M,K=>bif E4 M.wr pend then K S M else none
 | .app a i s::rest,pend,S,M,K=>match ops[a]?,ops[i]?,ops[s]? with
  |some oA,some oI,some oS=>aED U TPr oA oI oS S λS'=>bif E4 M.wr pend&&VC ms a pend then qT ops ms rest (II ms s (Dn ms a true pend)) S' M K else none
  |_,_,_=>none
 | .freeze t::rest,pend,S,M,K=>match aOH U S M t with
  |some r=>qT ops ms rest pend r.1 r.2 K
  |none=>none
 | .op i take inst bk::rest,pend,S,M,K=>match ops[i]? with
  |none=>none
  |some o=>aXL U ops o S (λS=>Be U TPr c false take inst bk o S M λx S' M'=>
          bif jX o then(bif E4 M.wr pend then qT ops ms rest (Dn ms i (mM o) pend) (So U S' o.dst x) M' K else none)
          else match aK7 U o S x i pend with
            |some gn=>qT ops ms rest gn (So U S' o.dst x) M' K
            |none=>none)
        (λS=>qT ops ms rest pend (So U S o.dst (.tup [],[])) M K)
end
structure Cut where
 sl:List (Nat×Sh×iL)
 bx:List (Nat×Sh×iL)
def Cut.ts(c:Cut):List Nat:=c.sl.map (·.1)
def Dr:List (V U)->List Ty->Bool
 |[],[]=>true
 |v::l,t::ts=>v.t.beq t&&Dr l ts
 |_,_=>false
def tO(bx:List Nat):Sh->SV U.D->Option (List (V U))
 | .val t,s=>match Em U t s with|some v=>some [v]|none=>none
 | .tup ts,.tup l=>bif Dr U l ts then some l else none
 | .nl,.nl=>some []
 | .lc k off p,.lc k' fh p'=>bif Nat.beq k k'&&Nat.beq off fh&&tP p p'&&dQ k bx then some []else none
 | .ep t,.ep v=>bif v.t.beq t then some [v]else none
 | .rw k,.rw k'=>bif Nat.beq k k'&&dQ k bx then some []else none
 | .cl f caps,.cl f' co=>bif Nat.beq f f'&&tP caps co&&yF caps bx then some []else none
 | .nf,.nf=>some []
 | .no,_=>some []
 |_,_=>none
def WI(bx:List Nat)(S:TS U.D):List (Nat×Sh×iL)->Option (List (V U))
 |[]=>some []
 |(t,s,r)::l=>match tO U bx s (kT S t).1,WI bx S l with
  |some a,some d=>bif leR r (kT S t).2 then some (a++d)else none
  |_,_=>none
def SN(bx:List Nat)(M:List (Nat×BC U.D)):List (Nat×Sh×iL)->Option (List (V U))
 |[]=>some []
 |(k,s,r)::l=>match dE M k,SN bx M l with
  |some (.bx c rs),some d=>match s with
   | .row _=>none
   | .no=>none
   |s=>match tO U bx s c with
    |some a=>bif leR r rs then some (a++d)else none
    |none=>none
  |some (.row e v),some d=>match s with
   | .row t=>bif e.beq t then some (⟨.sl e,v⟩::d)else none
   |_=>none
  |_,_=>none
def LR(ct:Cut)(S:TS U.D)(M:TM U.D):Option (List (V U)):=
 match WI U (ct.bx.map (·.1)) S ct.sl,SN U (ct.bx.map (·.1)) M.bx ct.bx with
 |some a,some b=>some (a++b)
 |_,_=>none
def Li:Sh->List (V U)->Option (SV U.D×List (V U))
 | .val t,v::d=>bif v.t.beq t then some (.val v,d)else none
 | .tup ts,d=>bif Dr U (d.take ts.length) ts then some (.tup (d.take ts.length),d.drop ts.length)else none
 | .nl,d=>some (.nl,d)
 | .lc k off p,d=>some (.lc k off p,d)
 | .ep t,v::d=>bif v.t.beq t then some (.ep v,d)else none
 | .rw k,d=>some (.rw k,d)
 | .cl f caps,d=>some (.cl f caps,d)
 | .nf,d=>some (.nf,d)
 | .no,d=>some (.no,d)
 |_,_=>none
def Tt:List (Nat×Sh×iL)->List (V U)->Option (TS U.D×List (V U))
 |[],d=>some ([],d)
 |(t,s,r)::l,d=>match Li U s d with
  |some (x,d')=>match Tt l d' with
   |some (S,qb)=>some ((t,(x,r))::S,qb)
   |none=>none
  |none=>none
def zU:List (Nat×Sh×iL)->List (V U)->Option (List (Nat×BC U.D)×List (V U))
 |[],d=>some ([],d)
 |(k,.row t,_)::l,v::d=>match v with
  |⟨.sl e,x⟩=>bif e.beq t then(match zU l d with|some (M,d')=>some ((k,.row e x)::M,d')|none=>none)else none
  |_=>none
 |(k,s,r)::l,d=>match Li U s d with
  |some (x,d')=>match zU l d' with
   |some (M,qb)=>some ((k,.bx x r)::M,qb)
   |none=>none
  |none=>none
def EH(ct:Cut)(d:List (V U)):Option (TS U.D×TM U.D):=
 match Tt U ct.sl d with
 |some (S,d')=>match zU U ct.bx d' with
  |some (M,[])=>some (S,⟨M,[]⟩)
  |_=>none
 |none=>none
inductive TC where
 |skip
 |label (l:Nat)
 |region (id:Nat) (ops:Array Oper) (draw:Bool) (ms:List Nat) (sc:List TStep)
 |seq (a b:TC)
 |cond (c:Operand) (a b:TC)
 |block (id:Nat) (c:TC)
 |loop (ct:Cut) (c:TC)
 |exit (id:Nat)
 |ret
 |scope (c:TC)
 |cut (ct:Cut) (c:TC)
 |ice (t:Nat) (c:TC)
 |other (c:Code)
def TStep.un:TStep->wJ
 | .op i take _ _=> .op i take
 | .app a i s=> .app a i s
 | .freeze t=> .freeze t
def TC.pc:TC->PC
 | .skip=> .skip
 | .label l=> .label l
 | .region id ops draw ms sc=> .region id ops draw ms (sc.map TStep.un)
 | .seq a b=> .seq a.pc b.pc
 | .cond c a b=> .cond c a.pc b.pc
 | .block id c=> .block id c.pc
 | .loop ct c=> .loop (.drop ct.ts c.pc)
 | .exit id=> .exit id
 | .ret=> .ret
 | .scope c=> .scope c.pc
 | .cut ct c=> .drop ct.ts c.pc
 | .ice t c=> .ice t c.pc
 | .other c=> .other c
abbrev TK(D:Nat->Type)(W:Type):=Fl->TS D->TM D->Option W
section
variable(TPr:TP U.D){W:Type}(c:kX U.D)
def Do(run:TS U.D->TM U.D->TK U.D W->Option W)(K:TK U.D W):TK U.D W
 | .normal,S,M=>run S M K
 |fl,S,M=>K fl S M
def dK(id:Nat)(K:TK U.D W):TK U.D W
 | .exit n,S,M=>bif Nat.beq n id then K .normal S M else K (.exit n) S M
 |fl,S,M=>K fl S M
def gP(ct:Cut)(k:List (V U)->Option W)(K:TK U.D W):TK U.D W
 | .normal,S,M=>match LR U ct S M with|some d=>k d|none=>none
 |fl,S,M=>K fl S M
def lN(ct:Cut)(run:TS U.D->TM U.D->Option W)(d:List (V U)):Option W:=
 match EH U ct d with
 |some r=>run r.1 r.2
 |none=>none
def Bs(ct:Cut)(body:TS U.D->TM U.D->TK U.D W->Option W)(K:TK U.D W):Nat->List (V U)->Option W
 |0,_=>none
 |n+1,d=>lN U ct (λS M=>body S M (gP U ct (Bs ct body K n) K)) d
def DM(ops:Array Oper)(S:TS U.D)(M:TM U.D):Bool:=
 match R6 ops with
 |none=>true
 |some (.tmp s,.tmp t)=>match(kT S s).1,(kT S t).1 with
  | .ep _,.lc k _ _=>match dE M.bx k with
   |some (.bx _ _)=>true
   |_=>false
  |_,_=>false
 |_=>false
abbrev DT(U:gT)(W:Type):=Cut->TC->List (V U)->TK U.D W->Option W
def kI(D E:DT U W):TC->TS U.D->TM U.D->TK U.D W->Option W
 | .skip,S,M,K=>K .normal S M
 | .label _,S,M,K=>K .normal S M
 | .region _ ops draw ms sc,S,M,K=>match draw with
  |true=>qT U TPr c ops ms sc [] S ⟨M.bx,[]⟩ λS' M'=>bif DM U ops S' M' then K .normal S' M' else none
  |false=>CU U TPr c ops sc S M (K .normal)
 | .seq a b,S,M,K=>kI D E a S M (Do U (kI D E b) K)
 | .cond x a b,S,M,K=>match(iQ U S x).1 with
  | .val ⟨.bool,w⟩=>cH w (kI D E a S M K) (kI D E b S M K)
  |_=>none
 | .block id a,S,M,K=>kI D E a S M (dK U id K)
 | .loop ct a,S,M,K=>match LR U ct S M with
  |some d=>E ct a d K
  |none=>none
 | .exit id,S,M,K=>K (.exit id) S M
 | .ret,S,M,K=>K .ret S M
 | .scope a,S,M,K=>kI D E a S M K
 | .cut ct a,S,M,K=>match LR U ct S M with
  |some d=>D ct a d K
  |none=>none
 | .ice t a,S,M,K=>match aOH U S M t with
  |some r=>kI D E a r.1 r.2 K
  |none=>none
 | .other _,_,_,_=>none
def fM(L:Nat):TC->TS U.D->TM U.D->TK U.D W->Option W
 | .skip,S,M,K=>K .normal S M
 | .label _,S,M,K=>K .normal S M
 | .region _ ops draw ms sc,S,M,K=>match draw with
  |true=>qT U TPr c ops ms sc [] S ⟨M.bx,[]⟩ λS' M'=>bif DM U ops S' M' then K .normal S' M' else none
  |false=>CU U TPr c ops sc S M (K .normal)
 | .seq a b,S,M,K=>fM L a S M (Do U (fM L b) K)
 | .cond x a b,S,M,K=>match(iQ U S x).1 with
  | .val ⟨.bool,w⟩=>cH w (fM L a S M K) (fM L b S M K)
  |_=>none
 | .block id a,S,M,K=>fM L a S M (dK U id K)
 | .loop ct a,S,M,K=>match LR U ct S M with
  |some d=>Bs U ct (λS M K=>fM L a S M K) K L d
  |none=>none
 | .exit id,S,M,K=>K (.exit id) S M
 | .ret,S,M,K=>K .ret S M
 | .scope a,S,M,K=>fM L a S M K
 | .cut ct a,S,M,K=>match LR U ct S M with
  |some d=>lN U ct (λS M=>fM L a S M K) d
  |none=>none
 | .ice t a,S,M,K=>match aOH U S M t with
  |some r=>fM L a r.1 r.2 K
  |none=>none
 | .other _,_,_,_=>none
def Dx(L:Nat):DT U W:=λct a d K=>lN U ct (λS M=>fM U TPr c L a S M K) d
def Ex(L:Nat):DT U W:=λct a d K=>Bs U ct (λS M K=>fM U TPr c L a S M K) K L d
def CV(S:TS U.D)(M:TM U.D):List ResultVar->List Ty->Option (List (V U))
 |[],[]=>some []
 | .tmp t::rs,ty::ts=>match Em U ty (kT S t).1,CV S M rs ts with
  |some v,some l=>some (v::l)
  |_,_=>none
 | .cell a t::rs,ty::ts=>match(kT S a).1,TPr.T.ty t,CV S M rs ts with
  | .lc k off p,some ty',some l=>match dE M.bx k with
   |some (.bx (.val c) _)=>match vX U p c with
    |some (w,o)=>bif w.t.beq ty&&ty.beq ty'&&Nat.beq o off then some (w::l)else none
    |none=>none
   |_=>none
  |_,_,_=>none
 |_,_=>none
def aK9(S:TS U.D):List ResultVar->Bool
 |[.tmp t]=>oD (kT S t).2
 |_=>false
def IE(M:TM U.D):List (Sh×iL)->List iL->Nat->Option (List (V U))
 |[],[],_=>some []
 |(s,_)::l,r::bo,j=>match dE M.bx j,IE M l bo (j+1)with
  |some (.bx c rs),some d=>match s,c with
   | .val t,.val v=>bif v.t.beq t&&leR r rs then some (v::d)else none
   | .cl f caps,.cl f' co=>bif Nat.beq f f'&&tP caps co then some d else none
   |_,_=>none
  |some (.row e x),some d=>match s with
   | .row t=>bif e.beq t then some (⟨.sl e,x⟩::d)else none
   |_=>none
  |_,_=>none
 |_,_,_=>none
def IG:List Ty->Bool
 |[.sl _]=>true
 |_=>false
def aQj:List Ty->Bool
 |[.sl _,.bool]=>true
 |_=>false
def Vh(S:TS U.D):List ResultVar->Bool
 | .tmp t::_=>oD (kT S t).2
 |_=>false
def a3O:List (V U)->Bool
 |[_,⟨.bool,b⟩]=> !b
 |_=>false
def FA(S:TS U.D)(rs:List ResultVar)(own:Bool)(ts:List Ty)(a:List (V U)):Bool:=
 bif own then(bif Vh U S rs then IG ts&&aK9 U S rs||aQj ts else aQj ts&&a3O U a)else true
def JU(s:Dj)(rs:List ResultVar):TK U.D (List (V U)):=λfl S M=>
 match fl with
 | .exit _=>none
 |_=>match CV U TPr S M rs s.rs,IE U M s.bx s.bo 0 with
  |some a,some b=>bif FA U S rs s.own s.rs a then some (a++b)else none
  |_,_=>none
def cutOf(s:Dj):Cut:=⟨psL s.ps 0,bxL s.bx 0⟩
where
 psL:List (Sh×Bool)->Nat->List (Nat×Sh×iL)
  |[],_=>[]
  |(s,o)::l,i=>(i,s,Lx o)::psL l (i+1)
 bxL:List (Sh×iL)->Nat->List (Nat×Sh×iL)
  |[],_=>[]
  |(s,r)::l,j=>(j,s,r)::bxL l (j+1)
end
def Bk(n:Nat):List (Sh×iL)->Bool
 |[]=>true
 |(.cl _ caps,_)::l=>sM caps n&&Bk n l
 |_::l=>Bk n l
abbrev aN4:=Nat->Option (TC×List ResultVar)
def aCe(O:CJ)(s:Dj):Bool:=
 bif Nat.beq s.f O.n then(match s.ps,s.bx,s.bo,s.rs,s.own with
 |[(.val (.int .i64),false),(.val (.int .i64),false)],[],[],[.str],false=>true
 |_,_,_,_,_=>false)else bif Nat.beq s.f O.m then(match s.ps,s.bx,s.bo,s.rs,s.own with
 |[],[],[],[.bool],false=>true
 |_,_,_,_,_=>false)else true
def a0F:OV->V U
 | .s l=>⟨.str,l⟩
 | .t=>⟨.bool,true⟩
def aB9(O:CJ)(s:Dj)(d:List (V U)):Option OV:=
 bif Nat.beq s.f O.n then(match d with
 |[⟨.int .i64,a⟩,⟨.int .i64,b⟩]=>(O.s a b).map .s
 |_=>none)else bif Nat.beq s.f O.m then(match d with
 |[]=>some .t
 |_=>none)else none
def zF(TPr:TP U.D)(G:aN4)(L:Nat):Nat->kX U.D
 |0,_,_=>none
 |n+1,i,d=>match TPr.sig i,G i with
  |some s,some (code,rs)=>bif aCe TPr.orc s&&Nat.ble s.bx.length 100&&Bk s.bx.length s.bx then(match aB9 U TPr.orc s d with|some x=>some [a0F U x]|none=>lN U (cutOf s) (λS M=>fM U TPr (zF TPr G L n) L code S M (JU U TPr s rs)) d)else none
  |_,_=>none
end
end Go.TV
