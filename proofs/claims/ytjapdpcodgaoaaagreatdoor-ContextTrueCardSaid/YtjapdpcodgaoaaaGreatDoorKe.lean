import Derived.Test.YtjapdpcodgaoaaaGreatDoorKd
open Option renaming some->aa,none->ae
open Bool renaming true->ah,false->aj
open Decidable renaming decide->ak
open Nat renaming beq->ao,ble->aq,blt->d9
open Go renaming TypeId->aw,Operand->a8
set_option linter.all false
namespace Go.TV
open Go.AI Go.PI
inductive Ty where
 |int (k:IntKind)
 |bool
 |str
 |sl (t:Ty)
 |rc (n:Nat)
 deriving Inhabited
def Ty.beq:Ty->Ty->Bool
 | .int k,.int j=>decide (k=j)
 | .bool,.bool=>ah
 | .str,.str=>ah
 | .sl a,.sl b=>a.beq b
 | .rc n,.rc m=>ao n m
 |_,_=>aj
def Ty.beq_eq: ∀{a b:Ty},a.beq b=ah->a=b
 | .int k,.int j,h=>by simp only[Ty.beq,aD]at h;rw[h]
 | .bool,.bool,_=>rfl
 | .str,.str,_=>rfl
 | .sl a,.sl b,h=>by simp only[Ty.beq]at h;rw[Ty.beq_eq h]
 | .rc n,.rc m,h=>by simp only[Ty.beq]at h;rw[aE h]
 | .int _,.bool,h=>by cases h
 | .int _,.str,h=>by cases h
 | .int _,.sl _,h=>by cases h
 | .int _,.rc _,h=>by cases h
 | .bool,.int _,h=>by cases h
 | .bool,.str,h=>by cases h
 | .bool,.sl _,h=>by cases h
 | .bool,.rc _,h=>by cases h
 | .str,.int _,h=>by cases h
 | .str,.bool,h=>by cases h
 | .str,.sl _,h=>by cases h
 | .str,.rc _,h=>by cases h
 | .sl _,.int _,h=>by cases h
 | .sl _,.bool,h=>by cases h
 | .sl _,.str,h=>by cases h
 | .sl _,.rc _,h=>by cases h
 | .rc _,.int _,h=>by cases h
 | .rc _,.bool,h=>by cases h
 | .rc _,.str,h=>by cases h
 | .rc _,.sl _,h=>by cases h
def Ty.beq_rfl: ∀(a:Ty),a.beq a=ah
 | .int k=>by simp[Ty.beq]
 | .bool=>rfl
 | .str=>rfl
 | .sl a=>by simp only[Ty.beq,Ty.beq_rfl a]
 | .rc n=>by simp[Ty.beq]
def Ty.dec(a b:Ty):Decidable (a=b):=
 match h:a.beq b with
 |true=>isTrue (Ty.beq_eq h)
 |false=>isFalse λe=>by rw[e,Ty.beq_rfl]at h;cases h
@[reducible] def Den (D:Nat->Type):Ty->Type
 | .int _=>Int
 | .bool=>Bool
 | .str=>au UInt8
 | .sl t=>au (Den D t)
 | .rc n=>D n
structure TV(D:Nat->Type) where
 t:Ty
 x:Den D t
def Vr{D:Nat->Type}(t u:Ty)(x:Den D t):f9 (Den D u):=
 match Ty.dec t u with
 |isTrue h=>aa (h▸x)
 |isFalse _=>ae
structure iY where
 D:Nat->Type
 fs:Nat->List Ty
 un:(n:Nat)->D n->List (TV D)
 of:(n:Nat)->List (TV D)->Option (D n)
 en:(n:Nat)->D n->List PV
 eq:(n:Nat)->Option (D n->D n->Bool)
 zero:(n:Nat)->D n
 sz:Nat->Nat
 lt:Nat->List Ty
structure TT where
 ty:aw->Option Ty
 by':aw->Nat
 fn:aw->Bool
 arr:aw->Bool
def QF(T:TT)(t:aw):f9 Ty:=bif T.arr t then ae else T.ty t
abbrev kA:=au (Nat×Bool)
inductive SV(D:Nat->Type) where
 |val (v:TV D)
 |tup (l:List (TV D))
 |nl
 |lc (k off:Nat) (path:List Nat)
 |ep (v:TV D)
 |rw (k:Nat)
 |rp (k:Nat) (i:Int) (off:Nat) (path:List Nat)
 |cl (f:Nat) (caps:List Nat)
 |nf
 |zr (l:List PV)
 |no
inductive BC(D:Nat->Type) where
 |bx (s:SV D) (r:kA)
 |row (t:Ty) (l:List (Den D t))
 |gone
abbrev TS(D:Nat->Type):=au (Nat×(SV D×kA))
structure TM(D:Nat->Type) where
 bx:List (Nat×BC D)
 wr:List Nat
def mY{D:Nat->Type}:TS D->Nat->SV D×kA
 |[],_=>(.no,[])
 |(k,x)::S,t=>bif ao k t then x else mY S t
def eB{D:Nat->Type}:au (Nat×BC D)->Nat->f9 (BC D)
 |[],_=>ae
 |(k,x)::S,t=>bif ao k t then aa x else eB S t
def sP{D:Nat->Type}:au (Nat×BC D)->Nat->BC D->au (Nat×BC D)
 |[],_,_=>[]
 |(k,x)::S,t,y=>bif ao k t then(k,y)::S else(k,x)::sP S t y
def ob{N W:Type}(a:f9 N)(K:N->f9 W):f9 W:=match a with|some x=>K x|none=>ae
def lZ{W:Type}(b:Bool)(K:f9 W):f9 W:=match b with|true=>K|false=>ae
def bW{W:Type}(b:Bool)(A B:f9 W):f9 W:=match b with|true=>A|false=>B
@[reducible] def DenL (D:Nat->Type):au Ty->Type
 |[]=>Unit
 |t::ts=>Den D t×DenL D ts
def fY{D:Nat->Type}:(ts:au Ty)->au (TV D)->f9 (DenL D ts)
 |[],[]=>aa ()
 |t::ts,v::vs=>match Vr v.t t v.x,fY ts vs with
  |some x,aa r=>aa (x,r)
  |_,_=>ae
 |_,_=>ae
def aNi{D:Nat->Type}:(ts:au Ty)->DenL D ts->au (TV D)
 |[],_=>[]
 |t::ts,r=>⟨t,r.1⟩::aNi ts r.2
def gO{D:Nat->Type}{W:Type}(ts:au Ty)(a:f9 (au (TV D)))(K:DenL D ts->f9 W):f9 W:=
 match a with
 |some l=>match fY ts l with
  |some r=>K r
  |none=>ae
 |none=>ae
def dK{N:Type}(l:au N)(n:Int):f9 N:=bif ak (0<=n)then l[n.toNat]? else ae
def slc{N:Type}(l:au N)(lo hi:Int):f9 (au N):=
 bif ak (0<=lo)&&ak (lo<=hi)&&ak (hi<=(l.length:Int))then aa ((l.take hi.toNat).drop lo.toNat)else ae
section
variable(U:iY)
abbrev V:=TV U.D
abbrev X:=SV U.D×kA
def dW:Ty->Nat
 | .rc n=>U.sz n
 |_=>1
def kC:Ty->au Ty
 | .rc n=>U.lt n
 |t=>[t]
def fD:au Ty->Nat
 |[]=>0
 |t::ts=>dW U t+fD ts
def lG(n i:Nat):Nat:=fD U ((U.fs n).take i)
def qZ:(t:Ty)->Den U.D t
 | .int _=>(0:Int)
 | .bool=>aj
 | .str=>[]
 | .sl _=>[]
 | .rc n=>U.zero n
def a1H:Nat->au Ty->Nat->kA
 |0,_,_=>[]
 |_,[],_=>[]
 |f+1,t::ts,o=>(match t with| .sl _=>[(o,ah)]| .rc n=>a1H f (U.fs n) o|_=>[])++a1H f ts (o+dW U t)
def BJ:Ty->kA
 | .sl _=>[(0,ah)]
 | .rc n=>a1H U 60 (U.fs n) 0
 |_=>[]
def Me(v:V U)(i:Nat):f9 (V U):=
 match v with
 |⟨.rc n,x⟩=>(U.un n x)[i]?
 |_=>ae
def bJK(t:Ty)(i:Nat):Nat:=match t with| .rc n=>lG U n i|_=>0
def BW:au Nat->V U->f9 (V U×Nat)
 |[],v=>aa (v,0)
 |i::p,v=>match Me U v i with
  |some w=>match BW p w with
   |some r=>aa (r.1,bJK U v.t i+r.2)
   |none=>ae
  |none=>ae
def aCP:au Nat->V U->V U->f9 (V U)
 |[],v,w=>bif v.t.beq w.t then aa w else ae
 |i::p,v,w=>match v with
  |⟨.rc n,x⟩=>match(U.un n x)[i]? with
   |some y=>match aCP p y w with
    |some y'=>match U.of n ((U.un n x).set i y')with
     |some z=>aa ⟨.rc n,z⟩
     |none=>ae
    |none=>ae
   |none=>ae
  |_=>ae
def FG(o:Nat):kA->Bool
 |[]=>aj
 |x::xs=>ao x.1 o||FG o xs
def Se(o n:Nat):kA->kA
 |[]=>[]
 |x::xs=>bif aq o x.1&&d9 x.1 (o+n)then(x.1-o,x.2)::Se o n xs else Se o n xs
def a34(o n:Nat):kA->kA
 |[]=>[]
 |x::xs=>bif aq o x.1&&d9 x.1 (o+n)then a34 o n xs else x::a34 o n xs
def a8n(o:Nat):kA->kA
 |[]=>[]
 |x::xs=>(x.1+o,x.2)::a8n o xs
def leR:kA->kA->Bool
 |[],_=>ah
 |x::xs,r=>memW x r&&leR xs r
where memW (x:Nat×Bool):kA->Bool
 |[]=>aj
 |y::ys=>(ao x.1 y.1&&(!x.2||y.2))||memW x ys
def T9:Bool->kA
 |true=>[(0,ah)]
 |false=>[]
def rQ:kA->Bool
 |[]=>aj
 |x::xs=>(ao x.1 0&&x.2)||rQ xs
def aNh:Ty->au PV
 | .int k=>[.v (.int k 0)]
 | .bool=>[.v (.bool aj)]
 | .str=>[.str []]
 | .sl _=>[.nil]
 | .rc _=>[]
def aD8:au PV->au PV->Bool
 |[],[]=>ah
 | .v (.int k n)::l,.v (.int j m)::r=>decide (k=j)&&ak (n=m)&&aD8 l r
 | .v (.bool b)::l,.v (.bool c)::r=>decide (b=c)&&aD8 l r
 | .v .nilFunc::l,.v .nilFunc::r=>aD8 l r
 | .str s::l,.str u::r=>s.isEmpty&&u.isEmpty&&aD8 l r
 | .nil::l,.nil::r=>aD8 l r
 |_,_=>aj
def bOs:Value->SV U.D
 | .bool b=> .val ⟨.bool,b⟩
 | .int k n=> .val ⟨.int k,n⟩
 | .string s=> .val ⟨.str,s.data.toList⟩
 | .slice ae _ _=> .nl
 | .nilFunc=> .nf
 | .agg ⟨cs⟩=> .zr (ofVs cs)
 |_=> .no
def kE(S:TS U.D):a8->X U
 | .tmp t=>mY S t
 | .const v=>match bOs U v with| .nl=>(.nl,[(0,ah)])|x=>(x,[])
 | .func f=>(.cl f [],[])
 |_=>(.no,[])
def Ku(t:Ty):SV U.D->f9 (V U)
 | .val v=>bif v.t.beq t then aa v else ae
 | .nl=>match t with| .sl e=>aa ⟨.sl e,[]⟩|_=>ae
 | .zr l=>match t with| .rc n=>bif aD8 l ((U.lt n).flatMap aNh)then aa ⟨.rc n,U.zero n⟩else ae|_=>ae
 |_=>ae
def bGJ(t:f9 Ty)(s:SV U.D):SV U.D:=
 match s with
 | .zr l=>match t with|some ty=>(match Ku U ty (.zr l)with|some v=> .val v|none=> .no)|none=> .no
 |s=>s
def mW:Ty->Bool
 | .rc _=>ah
 |_=>aj
def vR(x:X U):X U:=
 match x.1 with
 | .val v=>(x.1,bif mW v.t then x.2 else [])
 | .nl=>(.nl,[(0,ah)])
 |_=>(x.1,[])
def xM(S:TS U.D):a8->TS U.D
 | .tmp t=>(t,vR U (mY S t))::S
 |_=>S
def aCY(S:TS U.D)(d:f9 Tmp)(x:X U):TS U.D:=
 match d with
 |some d=>(d,x)::S
 |none=>S
section
variable{W:Type}
def aHj(op:BinOp)(k:IntKind)(a b:Int)(K:V U->f9 W):f9 W:=
 match op with
 | .eql=>K ⟨.bool,ak (a=b)⟩
 | .neq=>K ⟨.bool,!decide (a=b)⟩
 | .lss=>K ⟨.bool,ak (a<b)⟩
 | .leq=>K ⟨.bool,ak (a<=b)⟩
 | .gtr=>K ⟨.bool,ak (b<a)⟩
 | .geq=>K ⟨.bool,ak (b<=a)⟩
 | .add=>K ⟨.int k,k.wrap (a+b)⟩
 | .sub=>K ⟨.int k,k.wrap (a-b)⟩
 | .mul=>K ⟨.int k,k.wrap (a*b)⟩
 | .quo=>lZ (!decide (b=0)) (K ⟨.int k,k.wrap (a.tdiv b)⟩)
 | .rem=>lZ (!decide (b=0)) (K ⟨.int k,a.tmod b⟩)
 | .and=>K ⟨.int k,k.wrap ((BitVec.ofInt k.bits a&&&BitVec.ofInt k.bits b).toNat:Int)⟩
 | .or=>K ⟨.int k,k.wrap ((BitVec.ofInt k.bits a|||BitVec.ofInt k.bits b).toNat:Int)⟩
 | .xor=>K ⟨.int k,k.wrap ((BitVec.ofInt k.bits a^^^BitVec.ofInt k.bits b).toNat:Int)⟩
 | .andNot=>K ⟨.int k,k.wrap ((BitVec.ofInt k.bits a&&& ~~~ BitVec.ofInt k.bits b).toNat:Int)⟩
 |_=>ae
def a8m(op:BinOp)(k:IntKind)(a b:Int)(K:V U->f9 W):f9 W:=
 match op with
 | .shl=>lZ (ak (0<=b)) (K ⟨.int k,k.wrap (a*2^(min b.toNat k.bits))⟩)
 | .shr=>lZ (ak (0<=b)) (K ⟨.int k,a.fdiv (2^(min b.toNat k.bits))⟩)
 |_=>ae
def aEN(op:BinOp)(a b:au UInt8)(K:V U->f9 W):f9 W:=
 match op with
 | .eql=>K ⟨.bool,ak (a=b)⟩
 | .neq=>K ⟨.bool,!decide (a=b)⟩
 | .lss=>K ⟨.bool,Op.bytesLess a b⟩
 | .leq=>K ⟨.bool,Op.bytesLess a b||ak (a=b)⟩
 | .gtr=>K ⟨.bool,!(Op.bytesLess a b||ak (a=b))⟩
 | .geq=>K ⟨.bool,!Op.bytesLess a b⟩
 | .add=>lZ (aq (a.length+b.length) 1000000000) (K ⟨.str,a++b⟩)
 |_=>ae
def aAZ:BinOp->Bool
 | .shl| .shr=>ah
 |_=>aj
def aDD(op:BinOp)(t:f9 Ty)(a b:SV U.D)(K:V U->f9 W):f9 W:=
 match a,b with
 | .val ⟨.int k,x⟩,.val ⟨.int j,y⟩=>bif aAZ op then a8m U op k x y K else bif ak (k=j)then aHj U op k x y K else ae
 | .val ⟨.bool,x⟩,.val ⟨.bool,y⟩=>match t,op with
  |some .bool,.eql=>K ⟨.bool,x==y⟩
  |some .bool,.neq=>K ⟨.bool,!(x==y)⟩
  |_,_=>ae
 | .val ⟨.str,x⟩,.val ⟨.str,y⟩=>aEN U op x y K
 | .val ⟨.rc n,x⟩,.val ⟨.rc m,y⟩=>match t with
  |some (.rc i)=>match U.eq i,Vr (.rc n) (.rc i) x,Vr (.rc m) (.rc i) y with
   |some f,aa x,aa y=>match op with
    | .eql=>K ⟨.bool,f x y⟩
    | .neq=>K ⟨.bool,!f x y⟩
    |_=>ae
   |_,_,_=>ae
  |_=>ae
 | .val ⟨.sl e,x⟩,.nl=>match t,op with
  |some (.sl _),.eql=>lZ (!x.isEmpty) (K ⟨.bool,aj⟩)
  |some (.sl _),.neq=>lZ (!x.isEmpty) (K ⟨.bool,ah⟩)
  |_,_=>ae
 |_,_=>ae
def a6s(op:UnOp)(a:SV U.D)(K:V U->f9 W):f9 W:=
 match op,a with
 | .not,.val ⟨.bool,b⟩=>K ⟨.bool,!b⟩
 | .neg,.val ⟨.int k,n⟩=>K ⟨.int k,k.wrap (0-n)⟩
 |_,_=>ae
def sC:au Int->f9 (au UInt8)
 |[]=>aa []
 |n::r=>match sC r with|some l=>aa (UInt8.ofNat n.toNat::l)|none=>ae
def Kj(sq:Bool)(s d:f9 Ty)(a:SV U.D)(K:V U->f9 W):f9 W:=
 match s,d,a with
 |some (.int _),aa (.int j),.val ⟨.int k,n⟩=>K ⟨.int j,j.wrap n⟩
 |some .str,aa .str,.val ⟨.str,x⟩=>K ⟨.str,x⟩
 |some (.sl (.int .u8)),aa .str,.val ⟨.sl (.int .u8),l⟩=>bif sq then ob (sC l) λx=>K ⟨.str,x⟩else ae
 |_,_,_=>ae
def JM(w:Bool)(a b:X U)(K:X U->f9 W):f9 W:=
 match a.1,b.1 with
 | .val ⟨t,x⟩,.val ⟨u,y⟩=>match Vr u t y with
  |some y=>K (.val ⟨t,bif w then x else y⟩,[])
  |none=>ae
 |_,_=>bW w (K (vR U a)) (K (vR U b))
def Cp:au Ty->au (V U×Bool)
 |[]=>[]
 |t::ts=>(⟨t,qZ U t⟩,ah)::Cp ts
def setF:au (V U×Bool)->Nat->V U×Bool->au (V U×Bool)
 |[],_,_=>[]
 |_::l,0,x=>x::l
 |y::l,i+1,x=>y::setF l i x
def aDB(S:TS U.D):au (V U×Bool)->au (Nat×a8)->f9 (au (V U×Bool))
 |l,[]=>aa l
 |l,(i,x)::r=>match l[i]? with
  |some y=>match Ku U y.1.t (kE U S x).1 with
   |some v=>aDB S (setF U l i (v,match(kE U S x).1 with| .nl=>ah|_=>aj)) r
   |none=>ae
  |none=>ae
def aGW:au (V U×Bool)->Nat->kA
 |[],_=>[]
 |y::l,o=>(match y.2 with|true=>a8n o (BJ U y.1.t)|false=>[])++aGW l (o+dW U y.1.t)
def aHR{N I:Type}:au (N×I)->au N
 |[]=>[]
 |x::l=>x.1::aHR l
def aNY{N:Type}:au N->Nat->N->au N
 |[],_,_=>[]
 |_::l,0,x=>x::l
 |y::l,i+1,x=>y::aNY l i x
def aDA(S:TS U.D)(e:Ty):au (Den U.D e)->au (Nat×a8)->f9 (au (Den U.D e))
 |l,[]=>aa l
 |l,(i,x)::r=>match Ku U e (kE U S x).1 with
  |some v=>match Vr v.t e v.x with
   |some w=>bif d9 i l.length then aDA S e (aNY l i w) r else ae
   |none=>ae
  |none=>ae
def rV{N:Type}(x:N):Nat->au N
 |0=>[]
 |n+1=>x::rV x n
def aGu:f9 (SV U.D)->f9 (f9 Int)
 |none=>aa ae
 |some (.val ⟨.int _,n⟩)=>aa (aa n)
 |_=>ae
def bDq:f9 a8->Bool
 |some (.const (.int _ n))=>decide (n=0)
 |_=>aj
def a6w(S:TS U.D)(t:f9 Ty)(x:SV U.D)(lo hi mx:f9 a8)(K:X U->f9 W):f9 W:=
 match t,x,aGu U (lo.map λx=>(kE U S x).1),aGu U (hi.map λx=>(kE U S x).1),aGu U (mx.map λx=>(kE U S x).1)with
 |some .str,.val ⟨.str,s⟩,aa l,aa h,aa ae=>ob (slc s (l.getD 0) (h.getD (s.length:Int))) λr=>K (.val ⟨.str,r⟩,[])
 |some (.sl e),.val ⟨.sl e',s⟩,aa l,aa h,aa ae=>bif e.beq e' then ob (slc s (l.getD 0) (h.getD (s.length:Int))) λr=>K (.val ⟨.sl e',r⟩,[])else ae
 |some (.sl e),.val ⟨.sl e',s⟩,aa l,aa (aa h),aa (aa m)=>bif e.beq e' then bif bDq mx then lZ (List.isEmpty s&&ak (l.getD 0=0)&&ak (h=0)&&ak (m=0)) (K (.val ⟨.sl e',[]⟩,[(0,ah)]))
  else lZ (ak (h=m)&&ak (l.getD 0<h)) (ob (slc s (l.getD 0) h) λr=>K (.val ⟨.sl e',r⟩,[(0,ah)]))else ae
 |_,_,_,_,_=>ae
def aDf(t:f9 Ty)(x:SV U.D)(K:X U->f9 W):f9 W:=
 match t,x with
 |some (.sl e),.val ⟨.sl e',l⟩=>bif e.beq e' then K (.val ⟨.int .i64,(l.length:Int)⟩,[])else ae
 |some .str,.val ⟨.str,l⟩=>K (.val ⟨.int .i64,(l.length:Int)⟩,[])
 |some (.sl _),.nl=>K (.val ⟨.int .i64,(0:Int)⟩,[])
 |_,_=>ae
def a1O(mx:Bool)(a b:SV U.D)(K:X U->f9 W):f9 W:=
 match a,b with
 | .val ⟨.int .i64,x⟩,.val ⟨.int .i64,y⟩=>K (.val ⟨.int .i64,bif mx then(bif ak (x<y)then y else x)else(bif ak (y<x)then y else x)⟩,[])
 |_,_=>ae
end
section
variable(T:TT){W:Type}
def Do:Ty->Bool
 | .sl _=>ah
 |_=>aj
def a6D(take:Bool)(M:TM U.D)(t:aw)(a:SV U.D)(K:X U->TM U.D->f9 W):f9 W:=
 match a with
 | .ep v=>match T.ty t with
  |some ty=>bif v.t.beq ty then K (.val v,[]) M else ae
  |none=>ae
 | .lc k off p=>match eB M.bx k with
  |some (.bx c rs)=>match c with
   | .val c=>match T.ty t,BW U p c with
    |some ty,aa (w,o)=>bif w.t.beq ty&&ao o off then
            (bif take&&Do ty&&FG off rs then K (.val w,Se off 1 rs) ⟨sP M.bx k (.bx (.val c) (a34 off 1 rs)),M.wr⟩else K (.val w,[]) M)else ae
    |_,_=>ae
   | .cl f caps=>match p with
    |[]=>bif T.fn t&&ao off 0 then K (.cl f caps,[]) M else ae
    |_=>ae
   |_=>ae
  |_=>ae
 | .rp k i off p=>match eB M.bx k with
  |some (.row e l)=>ob (dK l i) λy=>match T.ty t,BW U p ⟨e,y⟩with
   |some ty,aa (w,o)=>bif w.t.beq ty&&ao o off then K (.val w,[]) M else ae
   |_,_=>ae
  |_=>ae
 |_=>ae
def stT(M:TM U.D)(t:aw)(a:SV U.D)(x:X U)(K:TM U.D->f9 W):f9 W:=
 match a with
 | .lc k off p=>match eB M.bx k with
  |some (.bx c rs)=>match c with
   | .val c=>match T.ty t,BW U p c with
    |some ty,aa (w,o)=>bif w.t.beq ty&&ao o off then
            match Ku U ty x.1 with
            |some v=>match aCP U p c v with
              |some c'=>K ⟨sP M.bx k (.bx (.val c') (a8n off x.2++a34 off (dW U ty) rs)),k::M.wr⟩
              |none=>ae
            |none=>ae
     else ae
    |_,_=>ae
   |_=>match p,x.1 with
    |[],.cl f caps=>bif T.fn t&&ao off 0&&isF c then K ⟨sP M.bx k (.bx (.cl f caps) []),k::M.wr⟩else ae
    |_,_=>ae
  |_=>ae
 | .rp k i off p=>match eB M.bx k with
  |some (.row e l)=>ob (dK l i) λy=>match T.ty t,BW U p ⟨e,y⟩with
   |some ty,aa (w,o)=>bif w.t.beq ty&&ao o off then
          match Ku U ty x.1 with
          |some v=>match aCP U p ⟨e,y⟩ v with
            |some c'=>match Vr c'.t e c'.x with
              |some z=>K ⟨sP M.bx k (.row e (l.set i.toNat z)),k::M.wr⟩
              |none=>ae
            |none=>ae
          |none=>ae
    else ae
   |_,_=>ae
  |_=>ae
 |_=>ae
where isF:SV U.D->Bool
 | .cl _ _=>ah
 | .nf=>ah
 |_=>aj
def IJ(M:TM U.D)(k:Nat)(c:BC U.D)(K:TM U.D->f9 W):f9 W:=
 match eB M.bx k with
 |none=>K ⟨(k,c)::M.bx,M.wr⟩
 |some _=>ae
def a6L(M:TM U.D)(d:f9 Tmp)(t:aw)(K:X U->TM U.D->f9 W):f9 W:=
 match d with
 |some d=>match T.ty t with
  |some ty=>IJ U M (100+d) (.bx (.val ⟨ty,qZ U ty⟩) (BJ U ty)) λM'=>K (.lc (100+d) 0 [],[]) M'
  |none=>bif T.fn t then IJ U M (100+d) (.bx .nf []) λM'=>K (.lc (100+d) 0 [],[]) M' else ae
 |none=>ae
def a6J(M:TM U.D)(d:f9 Tmp)(t:aw)(x:X U)(K:X U->TM U.D->f9 W):f9 W:=
 match d with
 |some d=>match T.ty t with
  |some ty=>match Ku U ty x.1 with
   |some v=>IJ U M (100+d) (.bx (.val v) (vR U x).2) λM'=>K (.lc (100+d) 0 [],[]) M'
   |none=>ae
  |none=>match x.1 with
   | .cl f caps=>IJ U M (100+d) (.bx (.cl f caps) []) λM'=>K (.lc (100+d) 0 [],[]) M'
   |_=>ae
 |none=>ae
def bKk:a8->Bool
 | .const (.int _ n)=>decide (n=0)
 |_=>aj
def a6C(M:TM U.D)(d:f9 Tmp)(t:aw)(z:Bool)(e:aw->f9 aw)(l c:SV U.D)(K:X U->TM U.D->f9 W):f9 W:=
 match T.ty t,e t,l,c with
 |some (.sl et),aa fp,.val ⟨.int .i64,n⟩,.val ⟨.int .i64,k⟩=>
  lZ (ak (0<=n)&&ak (n<=k)&&ak (k*(T.by' fp:Int)<=1073741824)&&ak (k<=1073741824))
   (bif z then lZ (ak (n=0)) (K (.val ⟨.sl et,[]⟩,[(0,aj)]) M)
    else lZ (ak (n=k)) (match d with
    |some d=>IJ U M (100+d) (.row et (rV (qZ U et) n.toNat)) λM'=>K (.rw (100+d),[]) M'
    |none=>ae))
 |_,_,_,_=>ae
def a6K(e:aw->f9 aw)(ts:au aw)(s:X U)(x:SV U.D)(K:X U->f9 W):f9 W:=
 match ts with
 |[t,t1]=>match T.ty t,e t,T.ty t1 with
  |some (.sl et),aa fp,aa (.sl _)=>match Ku U (.sl et) s.1,Ku U (.sl et) x with
   |some ⟨a,l⟩,aa ⟨b,r⟩=>match Vr a (.sl et) l,Vr b (.sl et) r with
    |some l,aa r=>bif FG 0 s.2 then lZ (aq ((l.length+r.length)*T.by' fp) 1073741824) (K (.val ⟨.sl et,l++r⟩,s.2))else lZ r.isEmpty (K (.val ⟨.sl et,l⟩,[]))
    |_,_=>ae
   |_,_=>ae
  |_,_,_=>ae
 |_=>ae
def aDH(e:aw->f9 aw)(ts:au aw)(t1 t2:aw)(s:X U)(zz n x:SV U.D)(K:V U->V U->f9 W):f9 W:=
 match ts with
 |[t,tz]=>match T.ty t,e t,T.ty tz with
  |some (.sl et),aa fp,aa (.sl _)=>match Ku U (.sl et) s.1,Ku U (.sl et) zz,n,Ku U et x with
   |some ⟨a,l⟩,aa ⟨b,y⟩,.val ⟨.int _,k⟩,aa v=>match Vr a (.sl et) l,Vr b (.sl et) y,Vr v.t et v.x with
    |some l,aa [_],aa w=>bif FG 0 s.2&&ao t1 t&&ao t2 fp then
            lZ (aq ((l.length+1)*T.by' fp) 1073741824&&ak (k=(l.length:Int))) (K ⟨.sl et,l++ [w]⟩ ⟨et,w⟩)else ae
    |_,_,_=>ae
   |_,_,_,_=>ae
  |_,_,_=>ae
 |_=>ae
end
inductive Sh where
 |val (t:Ty)
 |tup (ts:List Ty)
 |nl
 |lc (k off:Nat) (path:List Nat)
 |ep (t:Ty)
 |rw (k:Nat)
 |cl (f:Nat) (caps:List Nat)
 |nf
 |row (t:Ty)
 |no
structure Tf where
 f:Nat
 ps:List (Sh×Bool)
 bx:List (Sh×kA)
 bo:List kA
 rs:List Ty
 own:Bool
abbrev rM(D:Nat->Type):=Nat->au (TV D)->f9 (au (TV D))
def kO:au Nat->Nat->Nat
 |[],_=>0
 |x::_,0=>x
 |_::l,i+1=>kO l i
def As:au Nat->au Nat->Bool
 |[],[]=>ah
 |x::xs,y::ys=>ao x y&&As xs ys
 |_,_=>aj
def LS(f:Nat->Nat):au Nat->au Nat
 |[]=>[]
 |x::l=>f x::LS f l
def eM(i:Nat):au Nat->Bool
 |[]=>aj
 |x::xs=>ao x i||eM i xs
def yK:au Nat->Nat->Bool
 |[],_=>ah
 |x::xs,n=>d9 x n&&yK xs n
def CY:au Nat->au Nat->Bool
 |[],_=>ah
 |x::xs,l=>eM x l&&CY xs l
def RA:au Nat->Bool
 |[]=>ah
 |x::xs=> !eM x xs&&RA xs
def JN(take:Bool):TS U.D->au a8->au (X U)×TS U.D
 |S,[]=>([],S)
 |S,x::xs=>(((kE U S x).1,bif take then(kE U S x).2 else [])::(JN take (bif take then xM U S x else S) xs).1,(JN take (bif take then xM U S x else S) xs).2)
def pM(bk:au Nat):au (Sh×Bool)->au (X U)->f9 (au (V U))
 |[],[]=>aa []
 |(.val t,own)::ps,x::xs=>match Ku U t x.1,pM bk ps xs with
  |some v,aa l=>bif !own||(rQ x.2&& !mW t)then aa (v::l)else ae
  |_,_=>ae
 |(.lc j off p,own)::ps,(.lc k fu p',_)::xs=>bif !own&&d9 j bk.length&&ao k (kO bk j)&&ao off fu&&As p p' then pM bk ps xs else ae
 |(.cl f caps,own)::ps,(.cl f' cj,_)::xs=>bif !own&&ao f f'&&yK caps bk.length&&As (LS (kO bk) caps) cj then pM bk ps xs else ae
 |(.rw j,own)::ps,(.rw k,_)::xs=>bif !own&&d9 j bk.length&&ao k (kO bk j)then pM bk ps xs else ae
 |_,_=>ae
def FH(bk:au Nat)(M:TM U.D):au (Sh×kA)->Nat->f9 (au (V U))
 |[],_=>aa []
 |(s,r)::l,j=>match eB M.bx (kO bk j),FH bk M l (j+1)with
  |some (.bx c rs),aa d=>bif leR r rs then
        match s,c with
        | .val t,.val v=>bif v.t.beq t then aa (v::d)else ae
        | .cl f caps,.cl f' cj=>bif ao f f'&&yK caps bk.length&&As (LS (kO bk) caps) cj then aa d else ae
        |_,_=>ae
   else ae
  |some (.row e x),aa d=>match s with
   | .row t=>bif e.beq t then aa (⟨.sl e,x⟩::d)else ae
   |_=>ae
  |_,_=>ae
def JP:au (Sh×kA)->au Ty
 |[]=>[]
 |(.val t,_)::l=>t::JP l
 |(.row t,_)::l=> .sl t::JP l
 |_::l=>JP l
def fZ:au (Sh×kA)->au kA->au (V U)->f9 (au (BC U.D))
 |[],[],[]=>aa []
 |(.val _,_)::l,r::rs,v::d=>match fZ l rs d with|some m=>aa (.bx (.val v) r::m)|none=>ae
 |(.cl f caps,_)::l,_::rs,d=>match fZ l rs d with|some m=>aa (.bx (.cl f caps) []::m)|none=>ae
 |(.row _,_)::l,_::rs,⟨.sl e,x⟩::d=>match fZ l rs d with|some m=>aa (.row e x::m)|none=>ae
 |_,_,_=>ae
def a9W(bk:au Nat):SV U.D->SV U.D
 | .cl f caps=> .cl f (LS (kO bk) caps)
 |s=>s
def aFl(bk:au Nat):BC U.D->BC U.D
 | .bx s r=> .bx (a9W U bk s) r
 |b=>b
def Q1(bk:au Nat):au (BC U.D)->Nat->au (Nat×BC U.D)->au (Nat×BC U.D)
 |[],_,m=>m
 |x::l,j,m=>Q1 bk l (j+1) (sP m (kO bk j) (aFl U bk x))
def DN(own:Bool):au (V U)->X U
 |[v]=>(.val v,T9 own)
 |[v,⟨.bool,b⟩]=>(.tup [v,⟨.bool,b⟩],T9 (own&&b))
 |l=>(.tup l,[])
def aCN{W:Type}(own:Bool)(l:au (V U))(K:X U->f9 W):f9 W:=
 match own,l with
 |true,[v,⟨.bool,b⟩]=>bW b (K (DN U ah [v,⟨.bool,ah⟩])) (K (DN U ah [v,⟨.bool,aj⟩]))
 |_,_=>K (DN U own l)
variable(T:TT)
structure TP(D:Nat->Type) where
 T:TT
 el:aw->Option aw
 sig:Nat->Option Tf
 orc:HU
section
variable(TPr:TP U.D){W:Type}(c:rM U.D)
def Km(take:Bool)(inst:Nat)(bk:au Nat)(S:TS U.D)(M:TM U.D)(f:SV U.D)(args:au a8)(K:X U->TS U.D->TM U.D->f9 W):f9 W:=
 match f,TPr.sig inst with
 | .cl g caps,aa s=>match pM U bk s.ps ((JN U take S args).1++caps.map λk=>(.lc k 0 [],[])),FH U bk M s.bx 0 with
  |some d,aa e=>bif ao g s.f&&RA bk&&ao bk.length s.bx.length then
        gO (s.rs++JP s.bx) (c inst (d++e)) λr=>
          match fZ U s.bx s.bo ((aNi (s.rs++JP s.bx) r).drop s.rs.length)with
          |some m=>aCN U s.own ((aNi (s.rs++JP s.bx) r).take s.rs.length) λx=>K x (JN U take S args).2 ⟨Q1 U bk m 0 M.bx,bk++M.wr⟩
          |none=>ae
   else ae
  |_,_=>ae
 |_,_=>ae
inductive TStep where
 |op (i:Nat) (take:Bool) (inst:Nat) (bk:List Nat)
 |app (a i s:Nat)
 |freeze (t:Nat)
def Sp(S:TS U.D):au a8->f9 (au Nat)
 |[]=>aa []
 |x::l=>match(kE U S x).1,Sp S l with
  | .lc k 0 [],aa r=>aa (k::r)
  |_,_=>ae
def a5l{W:Type}(K:Nat->f9 W)(m:Int):Nat->Nat->f9 W
 |_,0=>ae
 |j,f+1=>bW (ak (m=(j:Int))) (K j) (a5l K m (j+1) f)
def aDg(M:TM U.D)(t:f9 Ty)(x:SV U.D)(K:X U->f9 W):f9 W:=
 match x with
 | .rw k=>match t,eB M.bx k with
  |some (.sl e),aa (.row e' l)=>bif e.beq e' then K (.val ⟨.int .i64,(l.length:Int)⟩,[])else ae
  |_,_=>ae
 |y=>aDf U t y K
def Dj(sq take:Bool)(inst:Nat)(bk:au Nat)(o:Oper)(S:TS U.D)(M:TM U.D)(K:X U->TS U.D->TM U.D->f9 W):f9 W:=
 match o.op with
 | .move x=>bif take then K (kE U S x) (xM U S x) M else K (vR U (kE U S x)) S M
 | .assign x=>bif take then K (kE U S x) (xM U S x) M else K (vR U (kE U S x)) S M
 | .pick c a b=>match(kE U S c).1 with
  | .val ⟨.bool,w⟩=>JM U w (kE U S a) (kE U S b) λr=>K r S M
  |_=>ae
 | .build t parts=>match TPr.T.ty t with
  |some (.rc n)=>match aDB U S (Cp U (U.fs n)) parts.toList with
   |some l=>ob (U.of n (aHR l)) λx=>K (.val ⟨.rc n,x⟩,aGW U l 0) S M
   |none=>ae
  |_=>ae
 | .nilCheck x=>match(kE U S x).1 with
  | .lc k off p=>K (.lc k off p,[]) S M
  | .ep v=>K (.ep v,[]) S M
  | .rp k i off p=>K (.rp k i off p,[]) S M
  |_=>ae
 | .binOp op t x y _=>aDD U op (TPr.T.ty t) (bGJ U (TPr.T.ty t) (kE U S x).1) (bGJ U (TPr.T.ty t) (kE U S y).1) λv=>K (.val v,[]) S M
 | .unOp op _ x=>a6s U op (kE U S x).1 λv=>K (.val v,[]) S M
 | .convert s d x=>Kj U sq (TPr.T.ty s) (TPr.T.ty d) (kE U S x).1 λv=>K (.val v,[]) S M
 | .makeFunc fn first captured=>match fn,first.toList,Sp U S captured.toList with
  | .func f,[],aa ks=>K (.cl f ks,[]) S M
  |_,_,_=>ae
 | .fieldAddr s x f=>match QF TPr.T s,(kE U S x).1 with
  |some (.rc n),.lc k off p=>bif d9 f (U.fs n).length then K (.lc k (off+lG U n f) (p++ [f]),[]) S M else ae
  |some (.rc n),.ep v=>bif v.t.beq (.rc n)then(match Me U v f with|some w=>K (.ep w,[]) S M|none=>ae)else ae
  |some (.rc n),.rp k i off p=>bif d9 f (U.fs n).length then K (.rp k i (off+lG U n f) (p++ [f]),[]) S M else ae
  |_,_=>ae
 | .field t x f=>match QF TPr.T t,kE U S x with
  |some (.rc n),(.val v,rs)=>bif v.t.beq (.rc n)then(match Me U v f with|some w=>K (.val w,Se (lG U n f) (dW U w.t) rs) S M|none=>ae)else ae
  |_,_=>ae
 | .indexAddr t x i=>match TPr.T.ty t,(kE U S x).1,(kE U S i).1 with
  |some (.sl e),.val ⟨.sl e',l⟩,.val ⟨.int _,n⟩=>bif e.beq e' then ob (dK l n) λy=>K (.ep ⟨e',y⟩,[]) S M else ae
  |some (.sl e),.rw k,.val ⟨.int _,n⟩=>match eB M.bx k with
   |some (.row e' l)=>bif e.beq e' then lZ (dJ n l.length) (K (.rp k n 0 [],[]) S M)else ae
   |_=>ae
  |some (.rc n),.lc k off p,.val ⟨.int _,m⟩=>bif TPr.T.arr t then a5l (λj=>K (.lc k (off+lG U n j) (p++ [j]),[]) S M) m 0 (U.fs n).length else ae
  |some (.rc n),.ep v,.val ⟨.int _,m⟩=>bif TPr.T.arr t&&v.t.beq (.rc n)then a5l (λj=>match Me U v j with|some w=>K (.ep w,[]) S M|none=>ae) m 0 (U.fs n).length else ae
  |_,_,_=>ae
 | .index t x i=>match TPr.T.ty t,(kE U S x).1,(kE U S i).1 with
  |some .str,.val ⟨.str,s⟩,.val ⟨.int _,n⟩=>ob (dK s n) λb=>K (.val ⟨.int .u8,(b.toNat:Int)⟩,[]) S M
  |_,_,_=>ae
 | .extract x i=>match(kE U S x).1 with
  | .tup l=>match l[i]? with
   |some v=>bif take&&ao i 0 then K (.val v,bif Do v.t then(kE U S x).2 else []) (xM U S x) M else K (.val v,[]) S M
   |none=>ae
  |_=>ae
 | .load t a=>a6D U TPr.T take M t (kE U S a).1 λr M'=>K r S M'
 | .slice t x lo hi mx=>a6w U S (TPr.T.ty t) (kE U S x).1 lo hi mx λr=>K r S M
 | .alloc t=>a6L U TPr.T M o.dst t λr M'=>K r S M'
 | .box t x=>a6J U TPr.T M o.dst t (kE U S x) λr M'=>K r S M'
 | .buildSlice t len parts=>match TPr.T.ty t with
  |some (.sl e)=>bif aq (len*dW U e) 1000000 then
        match aDA U S e (rV (qZ U e) len) parts.toList with
        |some l=>K (.val ⟨.sl e,l⟩,[(0,ah)]) S M
        |none=>ae
   else ae
  |_=>ae
 | .makeSlice t l c=>a6C U TPr.T M o.dst t (bKk l) TPr.el (kE U S l).1 (kE U S c).1 λr M'=>K r S M'
 | .store t a x=>stT U TPr.T M t (kE U S a).1 (kE U S x) λM'=>K (.no,[]) (xM U S x) M'
 | .call c'=>match c'.callee with
  | .builtin .len=>match c'.argTypes[0]?,c'.args[0]? with
   |some t,aa x=>aDg U M (TPr.T.ty t) (kE U S x).1 λr=>K r S M
   |_,_=>ae
  | .builtin .min=>match c'.args.toList with
   |[x,y]=>a1O U aj (kE U S x).1 (kE U S y).1 λr=>K r S M
   |_=>ae
  | .builtin .max=>match c'.args.toList with
   |[x,y]=>a1O U ah (kE U S x).1 (kE U S y).1 λr=>K r S M
   |_=>ae
  | .builtin .append=>match c'.args.toList with
   |[s,x]=>a6K U TPr.T TPr.el c'.argTypes.toList (kE U S s) (kE U S x).1 λr=>K r (xM U S s) M
   |_=>ae
  | .value f=>Km U TPr c take inst bk S M (kE U S f).1 c'.args.toList K
  |_=>ae
 |_=>ae
def a3V(ops:Array Oper)(o:Oper)(S:TS U.D)(run skip:TS U.D->f9 W):f9 W:=
 match o.guard with
 |none=>run S
 |some (j,want)=>match ops[j]?.bind (·.dst)with
  |none=>ae
  |some d=>match mY S d with
   |(.val ⟨.bool,b⟩,r)=>bW b (bif want then run ((d,(.val ⟨.bool,ah⟩,r))::S)else skip ((d,(.val ⟨.bool,ah⟩,r))::S))
          (bif want then skip ((d,(.val ⟨.bool,aj⟩,r))::S)else run ((d,(.val ⟨.bool,aj⟩,r))::S))
   |(.tup [],_)=>skip S
   |_=>ae
def VA(oA oI oS:Oper)(S:TS U.D)(K:TS U.D->f9 W):f9 W:=
 match oA.op,oA.dst,oI.op,oI.dst,oS.op,oS.dst with
 | .call c,aa a,.indexAddr t1 (.tmp a') n,aa b,.store t2 (.tmp b') x,ae=>
  match c.callee,c.args.toList with
  | .builtin .append,[s,zz]=>
   bif ao a a'&&ao b b'&& !Nat.beq a b&& !Qq a n&& !Qq a x&& !Qq b x&&oA.guard.isNone&&oI.guard.isNone&&oS.guard.isNone then
    aDH U TPr.T TPr.el c.argTypes.toList t1 t2 (kE U S s) (kE U S zz).1 (kE U S n).1 (kE U S x).1 λv w=>K ((b,(.ep w,[]))::(a,(.val v,[(0,ah)]))::xM U S s)
   else ae
  |_,_=>ae
 |_,_,_,_,_,_=>ae
def a6E(S:TS U.D)(M:TM U.D)(t:Nat):f9 (TS U.D×TM U.D):=
 match mY S t with
 |(.rw k,_)=>match eB M.bx k with
  |some (.row e l)=>aa ((t,(.val ⟨.sl e,l⟩,[]))::S,⟨sP M.bx k .gone,k::M.wr⟩)
  |_=>ae
 |(.val v,r)=>aa ((t,(.val v,r))::S,M)
 |(.nl,r)=>aa ((t,(.nl,r))::S,M)
 |(.cl f caps,r)=>aa ((t,(.cl f caps,r))::S,M)
 |_=>ae
def AX(ops:Array Oper):au TStep->TS U.D->TM U.D->(TS U.D->TM U.D->f9 W)->f9 W
 |[],S,M,K=>K S M
 | .app a i s::rest,S,M,K=>match ops[a]?,ops[i]?,ops[s]? with
  |some oA,aa oI,aa oS=>VA U TPr oA oI oS S λS'=>AX ops rest S' M K
  |_,_,_=>ae
 | .freeze t::rest,S,M,K=>match a6E U S M t with
  |some r=>AX ops rest r.1 r.2 K
  |none=>ae
 | .op i take inst bk::rest,S,M,K=>match ops[i]? with
  |none=>ae
  |some o=>a3V U ops o S (λS=>Dj U TPr c ah take inst bk o S M λr S' M'=>AX ops rest (aCY U S' o.dst r) M' K)
        (λS=>AX ops rest (aCY U S o.dst (.tup [],[])) M K)
structure Qv where
 i:Nat
 k:Nat
 stale:Bool
 mr:Bool
def LJ(wr:au Nat):au Qv->Bool
 |[]=>ah
 |r::l=>(!r.stale||(!r.mr&& !eM r.k wr))&&LJ wr l
def IV(ms:au Nat)(i:Nat)(ap:Bool):au Qv->au Qv
 |[]=>[]
 |r::l=>bif mP (ms.getD i 0) r.i then IV ms i ap l else(bif ap&& !r.mr then r else⟨r.i,r.k,ah,r.mr⟩)::IV ms i ap l
def Rq(ms:au Nat)(i:Nat):au Qv->au Qv
 |[]=>[]
 |r::l=>bif mP (ms.getD i 0) r.i then Rq ms i l else r::Rq ms i l
def aGU(ms:au Nat)(i:Nat):au Qv->Bool
 |[]=>ah
 |r::l=>(mP (ms.getD i 0) r.i|| !r.mr)&&aGU ms i l
def a1g(o:Oper)(S:TS U.D)(x:X U)(i:Nat)(pend:au Qv):f9 (au Qv):=
 match o.op with
 | .load _ a=>match(kE U S a).1 with
  | .lc k _ _=>aa (⟨i,k,aj,aj⟩::pend)
  | .rp k _ _ _=>aa (⟨i,k,aj,aj⟩::pend)
  | .ep _=>aa pend
  |_=>ae
 | .alloc _=>match x.1 with
  | .lc k _ _=>aa (⟨i,k,aj,aj⟩::pend)
  |_=>ae
 | .box _ _=>match x.1 with
  | .lc k _ _=>aa (⟨i,k,aj,aj⟩::pend)
  |_=>ae
 | .makeSlice _ _ _=>aa (⟨i,0,aj,ah⟩::pend)
 |_=>aa pend
def oT(ops:Array Oper)(ms:au Nat):au TStep->au Qv->TS U.D->TM U.D->(TS U.D->TM U.D->f9 W)->f9 W
 |[],pend,S,M,K=>bif LJ M.wr pend then K S M else ae
 | .app a i s::rest,pend,S,M,K=>match ops[a]?,ops[i]?,ops[s]? with
  |some oA,aa oI,aa oS=>VA U TPr oA oI oS S λS'=>bif LJ M.wr pend&&aGU ms a pend then oT ops ms rest (Rq ms s (IV ms a ah pend)) S' M K else ae
  |_,_,_=>ae
 | .freeze t::rest,pend,S,M,K=>match a6E U S M t with
  |some r=>oT ops ms rest pend r.1 r.2 K
  |none=>ae
 | .op i take inst bk::rest,pend,S,M,K=>match ops[i]? with
  |none=>ae
  |some o=>a3V U ops o S (λS=>Dj U TPr c aj take inst bk o S M λx S' M'=>
          bif lW o then(bif LJ M.wr pend then oT ops ms rest (IV ms i (qG o) pend) (aCY U S' o.dst x) M' K else ae)
          else match a1g U o S x i pend with
            |some gw=>oT ops ms rest gw (aCY U S' o.dst x) M' K
            |none=>ae)
        (λS=>oT ops ms rest pend (aCY U S o.dst (.tup [],[])) M K)
end
structure Cut where
 sl:List (Nat×Sh×kA)
 bx:List (Nat×Sh×kA)
def Cut.ts(c:Cut):au Nat:=c.sl.map (·.1)
def IY:au (V U)->au Ty->Bool
 |[],[]=>ah
 |v::l,t::ts=>v.t.beq t&&IY l ts
 |_,_=>aj
def Ar(bx:au Nat):Sh->SV U.D->f9 (au (V U))
 | .val t,s=>match Ku U t s with|some v=>aa [v]|none=>ae
 | .tup ts,.tup l=>bif IY U l ts then aa l else ae
 | .nl,.nl=>aa []
 | .lc k off p,.lc k' fu p'=>bif ao k k'&&ao off fu&&As p p'&&eM k bx then aa []else ae
 | .ep t,.ep v=>bif v.t.beq t then aa [v]else ae
 | .rw k,.rw k'=>bif ao k k'&&eM k bx then aa []else ae
 | .cl f caps,.cl f' cj=>bif ao f f'&&As caps cj&&CY caps bx then aa []else ae
 | .nf,.nf=>aa []
 | .no,_=>aa []
 |_,_=>ae
def aHX(bx:au Nat)(S:TS U.D):au (Nat×Sh×kA)->f9 (au (V U))
 |[]=>aa []
 |(t,s,r)::l=>match Ar U bx s (mY S t).1,aHX bx S l with
  |some a,aa d=>bif leR r (mY S t).2 then aa (a++d)else ae
  |_,_=>ae
def aDp(bx:au Nat)(M:au (Nat×BC U.D)):au (Nat×Sh×kA)->f9 (au (V U))
 |[]=>aa []
 |(k,s,r)::l=>match eB M k,aDp bx M l with
  |some (.bx c rs),aa d=>match s with
   | .row _=>ae
   | .no=>ae
   |s=>match Ar U bx s c with
    |some a=>bif leR r rs then aa (a++d)else ae
    |none=>ae
  |some (.row e v),aa d=>match s with
   | .row t=>bif e.beq t then aa (⟨.sl e,v⟩::d)else ae
   |_=>ae
  |_,_=>ae
def IN(ct:Cut)(S:TS U.D)(M:TM U.D):f9 (au (V U)):=
 match aHX U (ct.bx.map (·.1)) S ct.sl,aDp U (ct.bx.map (·.1)) M.bx ct.bx with
 |some a,aa b=>aa (a++b)
 |_,_=>ae
def Tq:Sh->au (V U)->f9 (SV U.D×au (V U))
 | .val t,v::d=>bif v.t.beq t then aa (.val v,d)else ae
 | .tup ts,d=>bif IY U (d.take ts.length) ts then aa (.tup (d.take ts.length),d.drop ts.length)else ae
 | .nl,d=>aa (.nl,d)
 | .lc k off p,d=>aa (.lc k off p,d)
 | .ep t,v::d=>bif v.t.beq t then aa (.ep v,d)else ae
 | .rw k,d=>aa (.rw k,d)
 | .cl f caps,d=>aa (.cl f caps,d)
 | .nf,d=>aa (.nf,d)
 | .no,d=>aa (.no,d)
 |_,_=>ae
def aD0:au (Nat×Sh×kA)->au (V U)->f9 (TS U.D×au (V U))
 |[],d=>aa ([],d)
 |(t,s,r)::l,d=>match Tq U s d with
  |some (x,d')=>match aD0 l d' with
   |some (S,qw)=>aa ((t,(x,r))::S,qw)
   |none=>ae
  |none=>ae
def DJ:au (Nat×Sh×kA)->au (V U)->f9 (au (Nat×BC U.D)×au (V U))
 |[],d=>aa ([],d)
 |(k,.row t,_)::l,v::d=>match v with
  |⟨.sl e,x⟩=>bif e.beq t then(match DJ l d with|some (M,d')=>aa ((k,.row e x)::M,d')|none=>ae)else ae
  |_=>ae
 |(k,s,r)::l,d=>match Tq U s d with
  |some (x,d')=>match DJ l d' with
   |some (M,qw)=>aa ((k,.bx x r)::M,qw)
   |none=>ae
  |none=>ae
def KT(ct:Cut)(d:au (V U)):f9 (TS U.D×TM U.D):=
 match aD0 U ct.sl d with
 |some (S,d')=>match DJ U ct.bx d' with
  |some (M,[])=>aa (S,⟨M,[]⟩)
  |_=>ae
 |none=>ae
inductive TC where
 |skip
 |label (l:Nat)
 |region (id:Nat) (ops:Array Oper) (draw:Bool) (ms:List Nat) (sc:List TStep)
 |seq (a b:TC)
 |cond (c:a8) (a b:TC)
 |block (id:Nat) (c:TC)
 |loop (ct:Cut) (c:TC)
 |exit (id:Nat)
 |ret
 |scope (c:TC)
 |cut (ct:Cut) (c:TC)
 |ice (t:Nat) (c:TC)
 |other (c:Code)
def TStep.un:TStep->Co
 | .op i take _ _=> .op i take
 | .app a i s=> .app a i s
 | .freeze t=> .freeze t
def TC.pc:TC->PC
 | .skip=> .skip
 | .label l=> .label l
 | .region id ops draw ms sc=> .region id ops draw ms (sc.map TStep.un)
 | .seq a b=> .seq a.pc b.pc
 | .cond c a b=> .cond c a.pc b.pc
 | .block id c=> .block id c.pc
 | .loop ct c=> .loop (.drop ct.ts c.pc)
 | .exit id=> .exit id
 | .ret=> .ret
 | .scope c=> .scope c.pc
 | .cut ct c=> .drop ct.ts c.pc
 | .ice t c=> .ice t c.pc
 | .other c=> .other c
abbrev TK(D:Nat->Type)(W:Type):=Fl->TS D->TM D->f9 W
section
variable(TPr:TP U.D){W:Type}(c:rM U.D)
def EF(run:TS U.D->TM U.D->TK U.D W->f9 W)(K:TK U.D W):TK U.D W
 | .normal,S,M=>run S M K
 |fl,S,M=>K fl S M
def dM(id:Nat)(K:TK U.D W):TK U.D W
 | .exit n,S,M=>bif ao n id then K .normal S M else K (.exit n) S M
 |fl,S,M=>K fl S M
def iL(ct:Cut)(k:au (V U)->f9 W)(K:TK U.D W):TK U.D W
 | .normal,S,M=>match IN U ct S M with|some d=>k d|none=>ae
 |fl,S,M=>K fl S M
def qJ(ct:Cut)(run:TS U.D->TM U.D->f9 W)(d:au (V U)):f9 W:=
 match KT U ct d with
 |some r=>run r.1 r.2
 |none=>ae
def Dn(ct:Cut)(body:TS U.D->TM U.D->TK U.D W->f9 W)(K:TK U.D W):Nat->au (V U)->f9 W
 |0,_=>ae
 |n+1,d=>qJ U ct (λS M=>body S M (iL U ct (Dn ct body K n) K)) d
def JR(ops:Array Oper)(S:TS U.D)(M:TM U.D):Bool:=
 match aCC ops with
 |none=>ah
 |some (.tmp s,.tmp t)=>match(mY S s).1,(mY S t).1 with
  | .ep _,.lc k _ _=>match eB M.bx k with
   |some (.bx _ _)=>ah
   |_=>aj
  |_,_=>aj
 |_=>aj
abbrev DT(U:iY)(W:Type):=Cut->TC->au (V U)->TK U.D W->f9 W
def pP(D E:DT U W):TC->TS U.D->TM U.D->TK U.D W->f9 W
 | .skip,S,M,K=>K .normal S M
 | .label _,S,M,K=>K .normal S M
 | .region _ ops draw ms sc,S,M,K=>match draw with
  |true=>oT U TPr c ops ms sc [] S ⟨M.bx,[]⟩ λS' M'=>bif JR U ops S' M' then K .normal S' M' else ae
  |false=>AX U TPr c ops sc S M (K .normal)
 | .seq a b,S,M,K=>pP D E a S M (EF U (pP D E b) K)
 | .cond x a b,S,M,K=>match(kE U S x).1 with
  | .val ⟨.bool,w⟩=>bW w (pP D E a S M K) (pP D E b S M K)
  |_=>ae
 | .block id a,S,M,K=>pP D E a S M (dM U id K)
 | .loop ct a,S,M,K=>match IN U ct S M with
  |some d=>E ct a d K
  |none=>ae
 | .exit id,S,M,K=>K (.exit id) S M
 | .ret,S,M,K=>K .ret S M
 | .scope a,S,M,K=>pP D E a S M K
 | .cut ct a,S,M,K=>match IN U ct S M with
  |some d=>D ct a d K
  |none=>ae
 | .ice t a,S,M,K=>match a6E U S M t with
  |some r=>pP D E a r.1 r.2 K
  |none=>ae
 | .other _,_,_,_=>ae
def gD(L:Nat):TC->TS U.D->TM U.D->TK U.D W->f9 W
 | .skip,S,M,K=>K .normal S M
 | .label _,S,M,K=>K .normal S M
 | .region _ ops draw ms sc,S,M,K=>match draw with
  |true=>oT U TPr c ops ms sc [] S ⟨M.bx,[]⟩ λS' M'=>bif JR U ops S' M' then K .normal S' M' else ae
  |false=>AX U TPr c ops sc S M (K .normal)
 | .seq a b,S,M,K=>gD L a S M (EF U (gD L b) K)
 | .cond x a b,S,M,K=>match(kE U S x).1 with
  | .val ⟨.bool,w⟩=>bW w (gD L a S M K) (gD L b S M K)
  |_=>ae
 | .block id a,S,M,K=>gD L a S M (dM U id K)
 | .loop ct a,S,M,K=>match IN U ct S M with
  |some d=>Dn U ct (λS M K=>gD L a S M K) K L d
  |none=>ae
 | .exit id,S,M,K=>K (.exit id) S M
 | .ret,S,M,K=>K .ret S M
 | .scope a,S,M,K=>gD L a S M K
 | .cut ct a,S,M,K=>match IN U ct S M with
  |some d=>qJ U ct (λS M=>gD L a S M K) d
  |none=>ae
 | .ice t a,S,M,K=>match a6E U S M t with
  |some r=>gD L a r.1 r.2 K
  |none=>ae
 | .other _,_,_,_=>ae
def Dx(L:Nat):DT U W:=λct a d K=>qJ U ct (λS M=>gD U TPr c L a S M K) d
def Ex(L:Nat):DT U W:=λct a d K=>Dn U ct (λS M K=>gD U TPr c L a S M K) K L d
def HZ(S:TS U.D)(M:TM U.D):au ResultVar->au Ty->f9 (au (V U))
 |[],[]=>aa []
 | .tmp t::rs,ty::ts=>match Ku U ty (mY S t).1,HZ S M rs ts with
  |some v,aa l=>aa (v::l)
  |_,_=>ae
 | .cell a t::rs,ty::ts=>match(mY S a).1,TPr.T.ty t,HZ S M rs ts with
  | .lc k off p,aa ty',aa l=>match eB M.bx k with
   |some (.bx (.val c) _)=>match BW U p c with
    |some (w,o)=>bif w.t.beq ty&&ty.beq ty'&&ao o off then aa (w::l)else ae
    |none=>ae
   |_=>ae
  |_,_,_=>ae
 |_,_=>ae
def a1h(S:TS U.D):au ResultVar->Bool
 |[.tmp t]=>rQ (mY S t).2
 |_=>aj
def Rg(M:TM U.D):au (Sh×kA)->au kA->Nat->f9 (au (V U))
 |[],[],_=>aa []
 |(s,_)::l,r::bo,j=>match eB M.bx j,Rg M l bo (j+1)with
  |some (.bx c rs),aa d=>match s,c with
   | .val t,.val v=>bif v.t.beq t&&leR r rs then aa (v::d)else ae
   | .cl f caps,.cl f' cj=>bif ao f f'&&As caps cj then aa d else ae
   |_,_=>ae
  |some (.row e x),aa d=>match s with
   | .row t=>bif e.beq t then aa (⟨.sl e,x⟩::d)else ae
   |_=>ae
  |_,_=>ae
 |_,_,_=>ae
def Rm:au Ty->Bool
 |[.sl _]=>ah
 |_=>aj
def a8k:au Ty->Bool
 |[.sl _,.bool]=>ah
 |_=>aj
def aGs(S:TS U.D):au ResultVar->Bool
 | .tmp t::_=>rQ (mY S t).2
 |_=>aj
def bOl:au (V U)->Bool
 |[_,⟨.bool,b⟩]=> !b
 |_=>aj
def Mh(S:TS U.D)(rs:au ResultVar)(own:Bool)(ts:au Ty)(a:au (V U)):Bool:=
 bif own then(bif aGs U S rs then Rm ts&&a1h U S rs||a8k ts else a8k ts&&bOl U a)else ah
def aPE(s:Tf)(rs:au ResultVar):TK U.D (au (V U)):=λfl S M=>
 match fl with
 | .exit _=>ae
 |_=>match HZ U TPr S M rs s.rs,Rg U M s.bx s.bo 0 with
  |some a,aa b=>bif Mh U S rs s.own s.rs a then aa (a++b)else ae
  |_,_=>ae
def cutOf(s:Tf):Cut:=⟨psL s.ps 0,bxL s.bx 0⟩
where
 psL:au (Sh×Bool)->Nat->au (Nat×Sh×kA)
  |[],_=>[]
  |(s,o)::l,i=>(i,s,T9 o)::psL l (i+1)
 bxL:au (Sh×kA)->Nat->au (Nat×Sh×kA)
  |[],_=>[]
  |(s,r)::l,j=>(j,s,r)::bxL l (j+1)
end
def II(n:Nat):au (Sh×kA)->Bool
 |[]=>ah
 |(.cl _ caps,_)::l=>yK caps n&&II n l
 |_::l=>II n l
abbrev aRp:=Nat->f9 (TC×au ResultVar)
def aOG(O:HU)(s:Tf):Bool:=
 bif ao s.f O.n then(match s.ps,s.bx,s.bo,s.rs,s.own with
 |[(.val (.int .i64),aj),(.val (.int .i64),aj)],[],[],[.str],aj=>ah
 |_,_,_,_,_=>aj)else bif ao s.f O.m then(match s.ps,s.bx,s.bo,s.rs,s.own with
 |[],[],[],[.bool],aj=>ah
 |_,_,_,_,_=>aj)else ah
def bJE:OV->V U
 | .s l=>⟨.str,l⟩
 | .t=>⟨.bool,ah⟩
def aOz(O:HU)(s:Tf)(d:au (V U)):f9 OV:=
 bif ao s.f O.n then(match d with
 |[⟨.int .i64,a⟩,⟨.int .i64,b⟩]=>(O.s a b).map .s
 |_=>ae)else bif ao s.f O.m then(match d with
 |[]=>aa .t
 |_=>ae)else ae
def yA(TPr:TP U.D)(G:aRp)(L:Nat):Nat->rM U.D
 |0,_,_=>ae
 |n+1,i,d=>match TPr.sig i,G i with
  |some s,aa (code,rs)=>bif aOG TPr.orc s&&aq s.bx.length 100&&II s.bx.length s.bx then(match aOz U TPr.orc s d with|some x=>aa [bJE U x]|none=>qJ U (cutOf s) (λS M=>gD U TPr (yA TPr G L n) L code S M (aPE U TPr s rs)) d)else ae
  |_,_=>ae
end
end Go.TV
