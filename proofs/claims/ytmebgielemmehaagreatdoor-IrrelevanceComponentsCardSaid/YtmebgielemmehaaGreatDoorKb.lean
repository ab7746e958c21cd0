import Derived.Test.YtmebgielemmehaaGreatDoorKa
set_option linter.unusedVariables false
set_option linter.unusedSimpArgs false
set_option linter.constructorNameAsVariable false
set_option linter.defProp false
namespace Go.PI
open Go.AI
inductive PV where
 |v (x:Value)
 |str (s:List UInt8)
 |agg (cs:List PV)
 |tup (vs:List PV)
 |nil
 |emp
 |sl (z:Nat) (es:List PV)
 |pin (es:List PV) (i off:Nat)
 |ptr (id off:Nat)
 |rs (id off len:Nat)
 |mp (id:Nat)
 |fn (f:Nat) (first captured:List PV)
 |und
 deriving Inhabited
def PV.cells:PV->List PV
 | .agg cs=>cs
 |x=>[x]
def PV.one:PV->Bool
 | .agg _| .tup _| .und=>false
 |_=>true
def PV.pur:PV->Bool
 | .v _| .str _| .nil| .emp| .sl _ _=>true
 |_=>false
def dD(z:Nat):List PV->PV
 |[]=> .emp
 |e::es=> .sl z (e::es)
mutual
def wW:Value->PV
 | .string s=> .str s.data.toList
 | .slice none _ _=> .nil
 | .agg ⟨cs⟩=> .agg (ofVs cs)
 | .tuple ⟨cs⟩=> .tup (ofVs cs)
 |x=> .v x
def ofVs:List Value->List PV
 |[]=>[]
 |x::xs=>wW x::ofVs xs
end
mutual
def wk:PV->PV
 | .nil=> .emp
 | .sl _ []=> .emp
 | .agg cs=> .agg (wks cs)
 | .tup cs=> .tup (wks cs)
 |x=>x
def wks:List PV->List PV
 |[]=>[]
 |x::xs=>wk x::wks xs
end
mutual
def below(n:Nat):PV->Bool
 | .agg cs=>iU n cs
 | .tup cs=>iU n cs
 | .ptr id _=>Nat.blt id n
 | .rs id _ _=>Nat.blt id n
 | .mp id=>Nat.blt id n
 | .fn _ a b=>iU n a&&iU n b
 |_=>true
def iU(n:Nat):List PV->Bool
 |[]=>true
 |x::xs=>below n x&&iU n xs
end
inductive jU where
 |box (cs:List (PV×Bool))
 |row (z:Nat) (a:Bool) (cs:List PV)
 |gone
 |map (es:List (PV×PV))
structure PSt where
 mem:Tr jU
 next:Nat
 dirty:List Nat
 wr:List Nat:=[]
def PSt.get(p:PSt)(id:Nat):Option jU:=bif Nat.blt id p.next then p.mem.get id else none
def CQ(id:Nat)(l:List Nat):List Nat:=bif l.contains id then l else id::l
def PSt.upd(p:PSt)(id:Nat)(o:jU):PSt:={p with mem:=p.mem.set id o,dirty:=CQ id p.dirty,wr:=CQ id p.wr}
def PSt.mark(p:PSt)(id:Nat)(o:jU):PSt:={p with mem:=p.mem.set id o,dirty:=CQ id p.dirty}
def PSt.new(p:PSt)(o:jU):PSt:={p with mem:=p.mem.set p.next o,next:=p.next+1}
def qR(n:Nat):jU->Bool
 | .box cs=>cs.all λc=>below n c.1
 | .row _ _ cs=>iU n cs
 | .gone=>true
 | .map es=>es.all λe=>below n e.1&&below n e.2
section
variable(P:Program)
def i64(n:Int):PV:= .v (.int .i64 n)
def pb(b:Bool):PV:= .v (.bool b)
def pA(t:TypeId)(cs:List PV)(off:Nat):Option PV:=
 match jZ P t with
 |some true=>match gC P t with
  |some n=>bif Nat.beq ((cs.drop off).take n).length n then some (.agg ((cs.drop off).take n))else none
  |none=>none
 |some false=>cs[off]?
 |none=>none
def Bc(t:TypeId)(v:PV)(f:Nat):Option PV:=
 match P.underlying t with
 |some (.struct fs)=>match fs[f]? with
  |some fd=>match v with
   | .agg cs=>pA P fd.type cs fd.offset
   |_=>none
  |none=>none
 |_=>none
def gY(s:TypeId)(v:PV)(f:Nat):Option PV:=
 match P.underlying s with
 |some (.struct fs)=>match fs[f]? with
  |some fd=>match gC P fd.type with
   |some n=>bif Nat.beq n 0 then none else match v with
    | .ptr id off=>some (.ptr id (off+fd.offset))
    | .pin es i off=>some (.pin es i (off+fd.offset))
    |_=>none
   |none=>none
  |none=>none
 |_=>none
def mQ(z:Nat):PV->Option (List PV)
 | .emp=>some []
 | .nil=>some []
 | .sl z' es=>bif Nat.beq z z' then some es else none
 |_=>none
def fR(t:TypeId)(v i:PV):Option PV:=
 match i with
 | .v (.int _ n)=>
  match P.underlying t with
  |some (.slice e)=>match gC P e with
   |some z=>match v with
    | .sl z' es=>bif Nat.beq z z'&&bV n es.length then some (.pin es n.toNat 0)else none
    | .rs id off len=>bif bV n len then some (.ptr id (off+n.toNat*z))else none
    |_=>none
   |none=>none
  |some (.array len e)=>match gC P e with
   |some z=>match v with
    | .ptr id off=>bif bV n len then some (.ptr id (off+n.toNat*z))else none
    | .pin es j off=>bif bV n len then some (.pin es j (off+n.toNat*z))else none
    |_=>none
   |none=>none
  |_=>none
 |_=>none
def oU:PV->Option Value
 | .v x=>bif bR x then some x else none
 | .str s=>some (.string ⟨s.toArray⟩)
 |_=>none
def R8:List PV->Option (List Value)
 |[]=>some []
 |x::xs=>match oU x,R8 xs with
  |some a,some l=>some (a::l)
  |_,_=>none
def Uf:PV->Option Value
 | .agg cs=>(R8 cs).map λl=> .agg l.toArray
 |x=>oU x
def wT(t:TypeId)(v i:PV):Option PV:=
 match P.underlying t with
 |some .string=>match oU v,oU i with
  |some a,some b=>(cV P (Instr.index t a b)).map wW
  |_,_=>none
 |some (.array len e)=>match i,v with
  | .v (.int _ n),.agg cs=>match gC P e with
   |some z=>bif bV n len then pA P e cs (n.toNat*z)else none
   |none=>none
  |_,_=>none
 |_=>none
def aK5(op:BinOp):PV->Option PV
 | .sl _ _=>match op with
  | .eql=>some (pb false)
  | .neq=>some (pb true)
  |_=>none
 |_=>none
def lT(op:BinOp)(t:TypeId)(x y:Operand)(a b:PV):Option PV:=
 match Uf a,Uf b with
 |some u,some w=>(cV P (do eqGuard op t x y u w;binOp op t u w)).map wW
 |_,_=>match P.underlying t,b with
  |some (.slice _),.nil=>aK5 op a
  |_,_=>none
def aSW(op:UnOp)(a:PV):Option PV:=
 match oU a with
 |some u=>(cV P (Op.unary op u)).map wW
 |none=>none
def tU(s d:TypeId)(a:PV):Option PV:=
 match oU a with
 |some u=>(cV P (convert s d u)).map wW
 |none=>none
def lU:Option PV->Option (Option Int)
 |none=>some none
 |some (.v (.int _ n))=>some (some n)
 |_=>none
def Ly:Option PV->Option (Option Value)
 |none=>some none
 |some x=>match oU x with
  |some v=>some (some v)
  |none=>none
def kE(p:PSt)(t:TypeId)(v:PV)(lo hi mx:Option PV):Option (PV×Bool):=
 match P.underlying t with
 |some .string=>match v,Ly lo,Ly hi,mx with
  | .str s,some l,some h,none=>(cV P (Instr.sliceAt t (.string ⟨s.toArray⟩) l h none)).map λw=>(wW w,false)
  |_,_,_,_=>none
 |some (.slice e)=>match gC P e,lU lo,lU hi,lU mx with
  |some z,some l,some h,some m=>match v,m with
   | .rs id off len,none=>match p.get id with
    |some (.row z' _ _)=>bif Nat.beq z z'&&decide (0<=l.getD 0)&&decide (l.getD 0<h.getD (len:Int))&&decide (h.getD (len:Int)<=(len:Int))then
            some (.rs id (off+(l.getD 0).toNat*z) ((h.getD (len:Int)).toNat-(l.getD 0).toNat),false)else none
    |_=>none
   | .sl z' es,none=>bif Nat.beq z z'&&decide (0<=l.getD 0)&&decide (l.getD 0<=h.getD (es.length:Int))&&decide (h.getD (es.length:Int)<=(es.length:Int))then
            some (dD z ((es.take (h.getD (es.length:Int)).toNat).drop (l.getD 0).toNat),false)else none
   | .emp,none=>bif decide (0<=l.getD 0)&&decide (l.getD 0<=h.getD 0)&&decide (h.getD 0<=0)then some (.emp,false)else none
   | .sl z' es,some m=>bif Nat.beq z z'&&decide (0<=l.getD 0)&&decide (l.getD 0<h.getD (es.length:Int))&&decide (h.getD (es.length:Int)<=(es.length:Int))&&h.isSome&&decide (h.getD (es.length:Int)=m)then
            some (dD z ((es.take (h.getD (es.length:Int)).toNat).drop (l.getD 0).toNat),true)else bif List.isEmpty es&&(decide (0<=l.getD 0)&&decide (l.getD 0<=h.getD 0)&&decide (h.getD 0<=0)&&h.isSome&&decide (m=0))then some (.emp,true)else none
   | .nil,none=>bif decide (0<=l.getD 0)&&decide (l.getD 0<=h.getD 0)&&decide (h.getD 0<=0)then some (.emp,false)else none
   | .emp,some m=>bif decide (0<=l.getD 0)&&decide (l.getD 0<=h.getD 0)&&decide (h.getD 0<=0)&&h.isSome&&decide (m=0)then some (.emp,true)else none
   | .nil,some m=>bif decide (0<=l.getD 0)&&decide (l.getD 0<=h.getD 0)&&decide (h.getD 0<=0)&&h.isSome&&decide (m=0)then some (.emp,true)else none
   |_,_=>none
  |_,_,_,_=>none
 |_=>none
def wQ:List PV->Nat->List PV->List PV
 |cs,_,[]=>cs
 |cs,off,x::xs=>wQ (cs.set off x) (off+1) xs
def vK(place:Nat->Option (Nat×Nat))(cs:List PV):List (Nat×PV)->Option (List PV)
 |[]=>some cs
 |(i,x)::rest=>match place i with
  |none=>none
  |some (off,size)=>bif Nat.beq x.cells.length size&&Nat.ble (off+size) cs.length&&x.cells.all PV.one then vK place (wQ cs off x.cells) rest else none
def zeroCells(t:TypeId):Option (List PV):=
 match bX P (zeroValue t)with
 |some z=>bif z.cells.toList.all bR then some (ofVs z.cells.toList)else none
 |none=>none
def uI(t:TypeId)(parts:List (Nat×PV)):Option PV:=
 match zeroCells P t with
 |some z=>match P.underlying t with
  |some (.struct fs)=>match bX P (fs.mapM λf=>do pure (f.offset,<-Go.sizeOf f.type))with
   |some pl=>(vK (λi=>pl[i]?) z parts).map .agg
   |none=>none
  |some (.array _ e)=>match gC P e with
   |some s=>(vK (λi=>some (i*s,s)) z parts).map .agg
   |none=>none
  |_=>none
 |none=>none
def zY(t:TypeId)(v:PV):Option PV:=
 match P.underlying t with
 |some (.slice _)=>match v with
  | .sl _ es=>some (i64 es.length)
  | .emp=>some (i64 0)
  | .nil=>some (i64 0)
  | .rs _ _ n=>some (i64 n)
  |_=>none
 |some .string=>match v with
  | .str s=>some (i64 s.length)
  |_=>none
 |some (.array n _)=>some (i64 n)
 |_=>none
def Lk:List PV->Option (List Value)
 |[]=>some []
 |x::xs=>match oU x,Lk xs with
  |some a,some l=>some (a::l)
  |_,_=>none
def mB(mx:Bool)(ts:Array TypeId)(ty:TypeId)(as:List PV):Option PV:=
 match Lk as with
 |some l=>(cV P (bif mx then Builtin.max_ ts ty l.toArray else Builtin.min_ ts ty l.toArray)).map wW
 |none=>none
structure PS where
 get:Nat->PV×Bool
def PS.none:PS:=⟨λ_=>(.und,false)⟩
def PS.set(S:PS)(t:Nat)(x:PV×Bool):PS:=⟨λk=>bif Nat.beq k t then x else S.get k⟩
def PS.at(S:PS)(i:Nat):PV×Bool:=S.get i
def fl(x:PV)(own:Bool):PV×Bool:=match x with| .nil=>(.emp,true)|x=>(x,own)
def PS.put(S:PS)(d:Option Tmp)(x:PV)(own:Bool):PS:=
 match d with
 |some d=>S.set d (x,own)
 |none=>S
def cP(S:PS):Operand->PV
 | .tmp t=>(S.at t).1
 | .const v=>wW v
 | .global _=> .und
 | .func f=> .fn f [] []
def jW:PV->Bool
 | .nil=>true
 |_=>false
def gZ(S:PS):Operand->Bool
 | .tmp t=>(S.at t).2||jW (S.at t).1
 | .const (.slice none _ _)=>true
 |_=>false
def lK(S:PS):Operand->PS
 | .tmp t=>S.set t ((S.at t).1,false)
 |_=>S
def jF(p:PSt)(t:TypeId):PV->Option PV
 | .pin es i off=>match es[i]? with
  |some e=>pA P t e.cells off
  |none=>none
 | .ptr id off=>match p.get id with
  |some (.box cs)=>pA P t (cs.map (·.1)) off
  |some (.row _ _ cs)=>pA P t cs off
  |_=>none
 |_=>none
def fK(p:PSt):PV->PSt×Bool
 | .ptr id off=>match p.get id with
  |some (.box cs)=>match cs[off]? with
   |some (x,true)=>(p.mark id (.box (cs.set off (x,false))),true)
   |_=>(p,false)
  |_=>(p,false)
 |_=>(p,false)
def Aa:PV->Bool
 | .sl _ _| .emp=>true
 |_=>false
def dP(take:Bool)(S:PS)(o:Oper):Option (PV×Bool×PS):=
 let r (x:Option PV):Option (PV×Bool×PS):=x.map λv=>(v,false,S)
 match o.op with
 | .move x=>bif take then some (cP S x,gZ S x,lK S x)else some (cP S x,false,S)
 | .assign x=>bif take then some (cP S x,gZ S x,lK S x)else some (cP S x,false,S)
 | .pick c a b=>match cP S c with
  | .v (.bool true)=>some (cP S a,false,S)
  | .v (.bool false)=>some (cP S b,false,S)
  |_=>none
 | .build t parts=>r (uI P t (parts.toList.map λ(i,x)=>(i,cP S x)))
 | .nilCheck x=>match cP S x with
  | .ptr id off=>some (.ptr id off,false,S)
  | .pin es i off=>some (.pin es i off,false,S)
  |_=>none
 | .binOp op t x y _=>r (lT P op t x y (cP S x) (cP S y))
 | .unOp op _ x=>r (aSW P op (cP S x))
 | .convert s d x=>r (tU P s d (cP S x))
 | .makeFunc fn first captured=>match fn with
  | .func f=>some (.fn f (wks (first.toList.map (cP S))) (wks (captured.toList.map (cP S))),false,S)
  |_=>none
 | .fieldAddr s x f=>r (gY P s (cP S x) f)
 | .field t x f=>r (Bc P t (cP S x) f)
 | .indexAddr t x i=>r (fR P t (cP S x) (cP S i))
 | .index t x i=>r (wT P t (cP S x) (cP S i))
 | .extract t i=>match cP S t with
  | .tup vs=>bif take&&Nat.beq i 0 then vs[0]?.map λv=>(v,gZ S t,lK S t)else r vs[i]?
  |_=>none
 | .call c=>match c.callee with
  | .builtin .len=>match c.argTypes[0]?,c.args[0]? with
   |some t,some x=>r (zY P t (cP S x))
   |_,_=>none
  | .builtin .min=>r (mB P false c.argTypes o.type (c.args.toList.map (cP S)))
  | .builtin .max=>r (mB P true c.argTypes o.type (c.args.toList.map (cP S)))
  |_=>none
 |_=>none
def lJ(p:PSt)(S:PS)(o:Oper)(take:Bool):Option (PV×Bool×PSt):=
 match o.op with
 | .load t a=>match jF P p t (cP S a)with
  |some v=>bif take&&Aa v then some (v,(fK p (cP S a)).2,(fK p (cP S a)).1)else some (v,false,p)
  |none=>none
 | .slice t x lo hi mx=>(kE P p t (cP S x) (lo.map (cP S)) (hi.map (cP S)) (mx.map (cP S))).map λr=>(r.1,r.2,p)
 |_=>none
def shape(a:Bool)(s:Nat)(x:PV):Bool:=
 match x with
 | .agg cs=>a&&Nat.beq cs.length s&&cs.all PV.pur
 |x=> !a&&Nat.beq s 1&&x.pur
def mJ(a:Bool)(s:Nat):List PV->List (Nat×PV)->Option (List PV)
 |es,[]=>some es
 |es,(i,x)::rest=>bif Nat.blt i es.length&&shape a s x then mJ a s (es.set i (wk x)) rest else none
def lS(x:PV):Nat->List PV
 |0=>[]
 |n+1=>x::lS x n
def iJ(l:List PV):Nat->List PV
 |0=>[]
 |n+1=>l++iJ l n
def eO(p:PSt)(S:PS)(o:Oper):Option (PV×Bool×PSt):=
 match o.op with
 | .alloc t=>match zeroCells P t with
  |some z=>some (.ptr p.next 0,false,p.new (.box (z.map λc=>fl c false)))
  |none=>none
 | .box _ x=>bif (cP S x).cells.all PV.one then some (.ptr p.next 0,false,p.new (.box ((cP S x).cells.map λc=>fl c false)))else none
 | .buildSlice t len parts=>
  match P.underlying t with
  |some (.slice e)=>match gC P e,jZ P e,zeroCells P e with
   |some s,some a,some z=>
    bif Nat.ble (len*s) 1000000&&Nat.beq z.length s&&Nat.ble 1 s&&(a||Nat.beq s 1)then
     match mJ a s (lS (wk (bif a then .agg z else z.headD .und)) len) (parts.toList.map λ(i,x)=>(i,cP S x))with
     |some es=>some (dD s es,true,p)
     |none=>none
    else none
   |_,_,_=>none
  |_=>none
 | .makeSlice t l c=>
  match P.underlying t,cP S l,cP S c with
  |some (.slice e),.v (.int .i64 n),.v (.int .i64 k)=>match P.info? e,jZ P e with
   |some info,some a=>match info.zero with
    |some z=>
     bif decide (0<=n)&&decide (n<=k)&&decide (k*(info.bytes:Int)<=1073741824)&&decide (k<=1073741824)&&z.cells.toList.all bR&&Nat.beq z.cells.size info.size&&Nat.ble 1 info.size&&(a||Nat.beq info.size 1)then
      bif decide (n=0)then some (.sl info.size [],true,p)
      else bif decide (n=k)then some (.rs p.next 0 n.toNat,false,p.new (.row info.size a (iJ (wks (ofVs z.cells.toList)) n.toNat)))
      else none
     else none
    |none=>none
   |_,_=>none
  |_,_,_=>none
 |_=>none
def mK(p:PSt)(t:TypeId)(a x:PV)(own:Bool):Option PSt:=
 match a with
 | .ptr id off=>match p.get id,gC P t with
  |some (.box cs),some n=>bif Nat.beq x.cells.length n&&Nat.ble (off+n) cs.length&&x.cells.all PV.one then
        some (p.upd id (.box (cs.take off++x.cells.map (λc=>fl c own)++cs.drop (off+n))))else none
  |some (.row z a cs),some n=>bif Nat.beq x.cells.length n&&Nat.ble (off+n) cs.length&&x.cells.all PV.one then
        some (p.upd id (.row z a (cs.take off++wks x.cells++cs.drop (off+n))))else none
  |_,_=>none
 |_=>none
def sQ(z:Nat)(u:TypeDesc)(x:PV):Option (List PV):=
 match u with
 | .slice _=>mQ z x
 | .string=>match x with
  | .str s=>bif Nat.beq z 1 then some (s.map λb=> .v (.int .u8 b.toNat))else none
  |_=>none
 |_=>none
def sR(S:PS)(c:Call)(s x:Operand):Option (PV×Bool×PS):=
 match c.argTypes.toList with
 |[t,t1]=>
  match P.underlying t,P.underlying t1 with
  |some (.slice e),some u=>
   match P.info? e with
   |some info=>match mQ info.size (cP S s),sQ info.size u (cP S x),info.zero with
    |some es,some xs,some z=>
     bif Nat.ble 1 info.size&&Nat.ble 1 info.bytes&&Nat.beq z.cells.size info.size then
      match xs with
      |[]=>some (cP S s,gZ S s,lK S s)
      |_=>bif gZ S s&&Nat.ble ((es.length+xs.length)*info.bytes) 1073741824 then some (dD info.size (es++xs),true,lK S s)else none
     else none
    |_,_,_=>none
   |none=>none
  |_,_=>none
 |_=>none
def Ff:PV->Bool
 | .sl _ []=>true
 | .tup (.sl _ []::_)=>true
 |_=>false
abbrev fI:=Nat->List (PV×Bool)->PSt->Option (PV×Bool×PSt)
def kV(take:Bool):PS->List Operand->List (PV×Bool)×PS
 |S,[]=>([],S)
 |S,x::xs=>((wk (cP S x),take&&gZ S x&& !Ff (cP S x))::(kV take (bif take then lK S x else S) xs).1,(kV take (bif take then lK S x else S) xs).2)
def pD:List PV->List (PV×Bool)
 |[]=>[]
 |x::xs=>(wk x,false)::pD xs
def pW(take:Bool)(S:PS)(c:Call):Option (Nat×List (PV×Bool)):=
 match c.callee with
 | .value f=>match cP S f with
  | .fn g first captured=>some (g,pD first++((kV take S c.args.toList).1++pD captured))
  |_=>none
 |_=>none
def CZ(call:fI)(take:Bool)(p:PSt)(S:PS)(o:Oper):Option (PV×Bool×PS×PSt):=
 match o.op with
 | .store t a x=>(mK P p t (cP S a) (cP S x) (gZ S x)).map λp'=>(.und,false,lK S x,p')
 | .call c=>match c.callee with
  | .builtin .append=>match c.args.toList with
   |[s,x]=>(sR P S c s x).map λr=>(r.1,r.2.1,r.2.2,p)
   |_=>none
  |_=>match pW take S c with
   |some (g,args)=>(call g args p).map λr=>(r.1,r.2.1,(kV take S c.args.toList).2,r.2.2)
   |none=>none
 |_=>none
inductive wJ where
 |op (i:Nat) (take:Bool)
 |app (a i s:Nat)
 |freeze (t:Nat)
def lE(ops:Array Oper)(S:PS)(o:Oper):Option Bool:=
 match o.guard with
 |none=>some true
 |some (j,want)=>
  match(ops[j]?.bind (·.dst)).map λd=>(S.at d).1 with
  |some (.v (.bool b))=>some (b==want)
  |some (.tup [])=>some false
  |_=>none
def keeps(S:PS):List Nat->PS
 |[]=> .none
 |t::ts=>(keeps S ts).set t (S.at t)
def mS(z:Nat):Nat->List PV->List PV
 |0,_=>[]
 |n+1,cs=> .agg (cs.take z)::mS z n (cs.drop z)
def aV2(p:PSt)(x:PV×Bool):Option ((PV×Bool)×PSt):=
 match x with
 |(.rs id off len,_)=>match p.get id with
  |some (.row z a cs)=>
   bif Nat.ble (off+len*z) cs.length&&Nat.ble 1 z&&(a||Nat.beq z 1)&&cs.all PV.pur then
    some ((dD z (bif a then mS z len ((cs.drop off).take (len*z))else(cs.drop off).take (len*z)),false),p.upd id .gone)else none
  |_=>none
 |y=>some (y,p)
def jI(p:PSt)(S:PS)(t:Nat):Option (PS×PSt):=match aV2 p (S.at t)with|some r=>some (S.set t r.1,r.2)|none=>none
def jG:List PV->Option (List UInt8)
 |[]=>some []
 | .v (.int .u8 n)::r=>(jG r).map (UInt8.ofNat n.toNat:: ·)
 |_=>none
def wU(s d:TypeId)(v:PV):Option PV:=
 match P.underlying s,P.underlying d with
 |some (.slice e),some .string=>match P.underlying e with
  |some (.int .u8)=>match mQ 1 v with
   |some es=>(jG es).map .str
   |none=>none
  |_=>none
 |_,_=>none
def A8(sq take:Bool)(S:PS)(o:Oper):Option (PV×Bool×PS):=
 match dP P take S o with
 |some r=>some r
 |none=>bif sq then(match o.op with
  | .convert s d x=>(wU P s d (cP S x)).map λv=>(v,false,S)
  |_=>none)else none
def DH(call:fI)(sq:Bool)(o:Oper)(take:Bool)(S:PS)(p:PSt):Option (PV×Bool×PS×PSt):=
 match cL o with
 | .pure=>(A8 P sq take S o).map λr=>(r.1,r.2.1,r.2.2,p)
 | .read=>(lJ P p S o take).map λr=>(r.1,r.2.1,S,r.2.2)
 | .alloc=>(eO P p S o).map λr=>(r.1,r.2.1,S,r.2.2)
 | .eff=>CZ P call take p S o
def Gy(t:Nat):Operand->Bool
 | .tmp u=>Nat.beq t u
 |_=>false
def PY(ts:List TypeId)(t1 t2:TypeId)(s:PV)(own:Bool)(zz n x:PV):Option PV:=
 match ts with
 |[t,tz]=>match P.underlying t,P.underlying tz with
  |some (.slice e),some u=>match P.info? e,jZ P e with
   |some info,some ag=>match mQ info.size s,sQ info.size u zz,info.zero,n with
    |some es,some [_],some zv,.v (.int _ k)=>
     bif Nat.ble 1 info.size&&Nat.ble 1 info.bytes&&Nat.beq zv.cells.size info.size&&own&&Nat.ble ((es.length+1)*info.bytes) 1073741824&&Nat.beq t1 t&&Nat.beq t2 e&&decide (k=(es.length:Int))&&shape ag info.size x then
      some (.sl info.size (es++ [wk x]))else none
    |_,_,_,_=>none
   |_,_=>none
  |_,_=>none
 |_=>none
def Sx:PV->PV
 | .sl _ es=> .pin es (es.length-1) 0
 |_=> .und
def DJ(S:PS)(oA oI oS:Oper):Option PS:=
 match oA.op,oA.dst,oI.op,oI.dst,oS.op,oS.dst with
 | .call c,some a,.indexAddr t1 (.tmp a') n,some b,.store t2 (.tmp b') x,none=>
  match c.callee,c.args.toList with
  | .builtin .append,[s,zz]=>
   bif Nat.beq a a'&&Nat.beq b b'&& !Nat.beq a b&& !Gy a n&& !Gy a x&& !Gy b x&&oA.guard.isNone&&oI.guard.isNone&&oS.guard.isNone then
    (PY P c.argTypes.toList t1 t2 (cP S s) (gZ S s) (cP S zz) (cP S n) (cP S x)).map λv=>((lK S s).put (some a) v true).put (some b) (Sx v) false
   else none
  |_,_=>none
 |_,_,_,_,_,_=>none
def tK(call:fI)(ops:Array Oper):List wJ->PS->PSt->Option (PS×PSt)
 |[],S,p=>some (S,p)
 | .app a i s::rest,S,p=>
  match ops[a]?,ops[i]?,ops[s]? with
  |some oA,some oI,some oS=>match DJ P S oA oI oS with
   |some S'=>tK call ops rest S' p
   |none=>none
  |_,_,_=>none
 | .freeze t::rest,S,p=>match jI p S t with
  |some (S',p')=>tK call ops rest S' p'
  |none=>none
 | .op i take::rest,S,p=>
  match ops[i]? with
  |none=>none
  |some o=>match lE ops S o with
   |some true=>match DH P call true o take S p with
    |some (v,own,S',p')=>tK call ops rest (S'.put o.dst v own) p'
    |none=>none
   |some false=>tK call ops rest (S.put o.dst (.tup []) false) p
   |none=>none
structure jE where
 i:Nat
 o:Oper
 a:PV
 v:PV
 stale:Bool
mutual
def yV:PV->PV->Bool
 | .v x,.v y=>fB x y
 | .str a,.str b=>a==b
 | .agg xs,.agg ys=>AX xs ys
 |_,_=>false
def AX:List PV->List PV->Bool
 |[],[]=>true
 |x::xs,y::ys=>yV x y&&AX xs ys
 |_,_=>false
end
def aOJ(a:PV):Option Nat:=match a with| .ptr id _=>some id|_=>none
def vid(v:PV):Option Nat:=match v with| .ptr id _=>some id| .rs id _ _=>some id|_=>none
def aA1(o:Oper)(a v:PV):Option Nat:=match o.op with| .load _ _=>aOJ a|_=>vid v
def QA(p:PSt)(x:Option Nat):Bool:=match x with|some id=> !p.wr.contains id|none=>false
def oJ(p:PSt)(r:jE):Bool:=
 !r.stale||(QA p (aA1 r.o r.a r.v)||(match r.o.op with
  | .load t _=>(Uf r.v).isSome&&(match jF P p t r.a with|some v=>yV v r.v|none=>false)
  |_=>false))
def jO(o:Oper)(S:PS):Bool:=
 match o.op with
 | .load _ a=>match cP S a with| .ptr _ _=>true|_=>false
 | .alloc _| .box _ _| .makeSlice _ _ _=>true
 |_=>false
def mV(o:Oper)(S:PS):PV:=
 match o.op with
 | .load _ a=>cP S a
 |_=> .und
def kF(o:Oper):Bool:=
 match o.op with
 | .makeSlice _ _ _=>true
 |_=>false
def mM(o:Oper):Bool:=
 match o.op with
 | .call c=>match c.callee with| .builtin .append=>true|_=>false
 |_=>false
def jV(call:fI)(ops:Array Oper)(ms:List Nat):List wJ->List jE->PS->PSt->Option (PS×PSt)
 |[],pend,S,p=>bif pend.all (oJ P p)then some (S,p)else none
 | .app a i s::rest,pend,S,p=>
  match ops[a]?,ops[i]?,ops[s]? with
  |some oA,some oI,some oS=>match DJ P S oA oI oS with
   |some S'=>bif pend.all (oJ P p)&&(pend.filter λr=> !kK (ms.getD a 0) r.i).all (λr=> !kF r.o)then
          jV call ops ms rest (((pend.filter λr=> !kK (ms.getD a 0) r.i).map λr=>bif !kF r.o then r else{r with stale:=true}).filter λr=> !kK (ms.getD s 0) r.i) S' p
    else none
   |none=>none
  |_,_,_=>none
 | .freeze t::rest,pend,S,p=>match jI p S t with
  |some (S',p')=>jV call ops ms rest pend S' p'
  |none=>none
 | .op i take::rest,pend,S,p=>
  match ops[i]? with
  |none=>none
  |some o=>match lE ops S o with
   |some true=>match DH P call false o take S p with
    |some (v,own,S',p')=>
     bif jX o then
      bif pend.all (oJ P p)then
       jV call ops ms rest ((pend.filter λr=> !kK (ms.getD i 0) r.i).map λr=>bif mM o&& !kF r.o then r else{r with stale:=true}) (S'.put o.dst v own) p'
      else none
     else jV call ops ms rest (bif jO o S then⟨i,o,mV o S,v,false⟩::pend else pend) (S'.put o.dst v own) p'
    |none=>none
   |some false=>jV call ops ms rest pend (S.put o.dst (.tup []) false) p
   |none=>none
inductive PC where
 |skip
 |label (l:Nat)
 |region (id:Nat) (ops:Array Oper) (draw:Bool) (ms:List Nat) (sc:List wJ)
 |seq (a b:PC)
 |cond (c:Operand) (a b:PC)
 |block (id:Nat) (c:PC)
 |loop (c:PC)
 |exit (id:Nat)
 |ret
 |scope (c:PC)
 |other (c:Code)
 |drop (ts:List Nat) (c:PC)
 |ice (t:Nat) (c:PC)
def dY:PC->Code
 | .skip=> .skip
 | .label l=> .label l
 | .region id ops draw _ _=> .region id ops draw
 | .seq a b=> .seq (dY a) (dY b)
 | .cond c a b=> .cond c (dY a) (dY b)
 | .block id c=> .block id (dY c)
 | .loop c=> .loop (dY c)
 | .exit id=> .exit id
 | .ret=> .ret
 | .scope c=> .scope (dY c)
 | .other c=>c
 | .drop _ c=>dY c
 | .ice _ c=>dY c
def vR(body:PS->PSt->Option (Fl×PS×PSt)):Nat->PS->PSt->Option (Fl×PS×PSt)
 |0,_,_=>none
 |n+1,S,p=>match body S p with
  |some (.normal,S',p')=>vR body n S' p'
  |r=>r
def cln(p:PSt):PSt:={p with wr:=[]}
def dty(p p':PSt):PSt:={p' with wr:=p'.wr.foldr CQ p.wr}
def aOC(p:PSt):PSt:={p with dirty:=[],wr:=[]}
def Bh(ops:Array Oper)(S:PS)(p:PSt):Bool:=
 match R6 ops with
 |none=>true
 |some (.tmp s,.tmp t)=>match(S.at s).1,(S.at t).1 with
  | .pin _ _ _,.ptr id _=>match p.get id with
   |some (.box _)=>true
   |_=>false
  |_,_=>false
 |_=>false
def WJ(ops:Array Oper):Option (PS×PSt)->Option (PS×PSt)
 |some r=>bif Bh ops r.1 r.2 then some r else none
 |none=>none
def eM(call:fI)(L:Nat):PC->PS->PSt->Option (Fl×PS×PSt)
 | .skip,S,p=>some (.normal,S,p)
 | .label _,S,p=>some (.normal,S,p)
 | .region _ ops draw ms sc,S,p=>
  (bif draw then(WJ ops (jV P call ops ms sc [] S (cln p))).map (λr=>(r.1,dty p r.2))else tK P call ops sc S p).map λr=>(.normal,r.1,r.2)
 | .seq a b,S,p=>match eM call L a S p with
  |some (.normal,S',p')=>eM call L b S' p'
  |r=>r
 | .cond c a b,S,p=>match cP S c with
  | .v (.bool true)=>eM call L a S p
  | .v (.bool false)=>eM call L b S p
  |_=>none
 | .block id c,S,p=>match eM call L c S p with
  |some (.exit n,S',p')=>bif Nat.beq n id then some (.normal,S',p')else some (.exit n,S',p')
  |r=>r
 | .loop c,S,p=>vR (λS p=>eM call L c S p) L S p
 | .exit id,S,p=>some (.exit id,S,p)
 | .ret,S,p=>some (.ret,S,p)
 | .scope c,S,p=>eM call L c S p
 | .other _,_,_=>none
 | .drop ts c,S,p=>eM call L c (keeps S ts) p
 | .ice t c,S,p=>match jI p S t with
  |some (S',p')=>eM call L c S' p'
  |none=>none
def pV(S:PS)(p:PSt):ResultVar->Option (PV×Bool)
 | .tmp t=>some (S.at t)
 | .cell a t=>(jF P p t (S.at a).1).map λv=>(v,false)
def fX(S:PS)(p:PSt):List ResultVar->Option (List (PV×Bool))
 |[]=>some []
 |r::rs=>match pV P S p r,fX S p rs with
  |some v,some vs=>some (v::vs)
  |_,_=>none
def V5:PV->Bool
 | .sl _ _| .emp| .nil=>true
 |_=>false
def dZ:List (PV×Bool)->PV×Bool
 |[v]=>(wk v.1,(v.2||jW v.1)&& !Ff v.1)
 |v::vs=>(.tup (wks ((v::vs).map (·.1))),(v.2||jW v.1)&& !Ff v.1&&V5 v.1)
 |[]=>(.tup [],false)
def wA:List (PV×Bool)->Nat->PS->PS
 |[],_,S=>S
 |v::vs,i,S=>wA vs (i+1) (S.set i v)
def XG(q:Tr jU)(id:Nat)(m:Tr jU):Tr jU:=match q.get id with|some o=>m.set id o|none=>m
def sL(n:Nat)(q:Tr jU)(id:Nat):Bool:=match q.get id with|some o=>qR n o|none=>false
def settle(p:PSt)(r:PV)(p':PSt):PSt:=
 bif below p.next r&&(p'.dirty.filter λid=>Nat.blt id p.next).all (sL p.next p'.mem)then
  ⟨(p'.dirty.filter λid=>Nat.blt id p.next).foldr (XG p'.mem) p.mem,p.next,(p'.dirty.filter λid=>Nat.blt id p.next).foldr CQ p.dirty,(p'.wr.filter λid=>Nat.blt id p.next).foldr CQ p.wr⟩
 else⟨p'.mem,p'.next,(p'.dirty.filter λid=>Nat.blt id p.next).foldr CQ p.dirty,(p'.wr.filter λid=>Nat.blt id p.next).foldr CQ p.wr⟩
abbrev ZI:=Nat->Option (PC×List ResultVar)
end
end Go.PI
