import Derived.Test.YtgddcoodncbkoaaGreatDoorKa
set_option linter.unusedVariables false
set_option linter.unusedSimpArgs false
set_option linter.constructorNameAsVariable false
set_option linter.defProp false
namespace Go.PI
open Go.AI
inductive PV where
 |v (x:Value)
 |str (s:List UInt8)
 |agg (cs:List PV)
 |tup (vs:List PV)
 |nil
 |emp
 |sl (z:Nat) (es:List PV)
 |pin (es:List PV) (i off:Nat)
 |ptr (id off:Nat)
 |rs (id off len:Nat)
 |mp (id:Nat)
 |fn (f:Nat) (first captured:List PV)
 |und
 deriving Inhabited
def PV.cells:PV->List PV
 | .agg cs=>cs
 |x=>[x]
def PV.one:PV->Bool
 | .agg _| .tup _| .und=>false
 |_=>true
def PV.pur:PV->Bool
 | .v _| .str _| .nil| .emp| .sl _ _=>true
 |_=>false
def dN(z:Nat):List PV->PV
 |[]=> .emp
 |e::es=> .sl z (e::es)
mutual
def ofV:Value->PV
 | .string s=> .str s.data.toList
 | .slice none _ _=> .nil
 | .agg ⟨cs⟩=> .agg (ofVs cs)
 | .tuple ⟨cs⟩=> .tup (ofVs cs)
 |x=> .v x
def ofVs:List Value->List PV
 |[]=>[]
 |x::xs=>ofV x::ofVs xs
end
mutual
def wk:PV->PV
 | .nil=> .emp
 | .sl _ []=> .emp
 | .agg cs=> .agg (wks cs)
 | .tup cs=> .tup (wks cs)
 |x=>x
def wks:List PV->List PV
 |[]=>[]
 |x::xs=>wk x::wks xs
end
mutual
def below(n:Nat):PV->Bool
 | .agg cs=>fT n cs
 | .tup cs=>fT n cs
 | .ptr id _=>Nat.blt id n
 | .rs id _ _=>Nat.blt id n
 | .mp id=>Nat.blt id n
 | .fn _ a b=>fT n a&&fT n b
 |_=>true
def fT(n:Nat):List PV->Bool
 |[]=>true
 |x::xs=>below n x&&fT n xs
end
inductive mW where
 |box (cs:List (PV×Bool))
 |row (z:Nat) (a:Bool) (cs:List PV)
 |gone
 |map (es:List (PV×PV))
structure PSt where
 mem:Tr mW
 next:Nat
 dirty:List Nat
 wr:List Nat:=[]
def PSt.get(p:PSt)(id:Nat):Option mW:=bif Nat.blt id p.next then p.mem.get id else none
def ins(id:Nat)(l:List Nat):List Nat:=bif l.contains id then l else id::l
def PSt.upd(p:PSt)(id:Nat)(o:mW):PSt:={p with mem:=p.mem.set id o,dirty:=ins id p.dirty,wr:=ins id p.wr}
def PSt.mark(p:PSt)(id:Nat)(o:mW):PSt:={p with mem:=p.mem.set id o,dirty:=ins id p.dirty}
def PSt.new(p:PSt)(o:mW):PSt:={p with mem:=p.mem.set p.next o,next:=p.next+1}
def oN(n:Nat):mW->Bool
 | .box cs=>cs.all λc=>below n c.1
 | .row _ _ cs=>fT n cs
 | .gone=>true
 | .map es=>es.all λe=>below n e.1&&below n e.2
section
variable(P:Program)
def i64(n:Int):PV:= .v (.int .i64 n)
def pb(b:Bool):PV:= .v (.bool b)
def pI(t:TypeId)(cs:List PV)(off:Nat):Option PV:=
 match gU P t with
 |some true=>match iK P t with
  |some n=>bif Nat.beq ((cs.drop off).take n).length n then some (.agg ((cs.drop off).take n))else none
  |none=>none
 |some false=>cs[off]?
 |none=>none
def aBo(t:TypeId)(v:PV)(f:Nat):Option PV:=
 match P.underlying t with
 |some (.struct fs)=>match fs[f]? with
  |some fd=>match v with
   | .agg cs=>pI P fd.type cs fd.offset
   |_=>none
  |none=>none
 |_=>none
def dZ(s:TypeId)(v:PV)(f:Nat):Option PV:=
 match P.underlying s with
 |some (.struct fs)=>match fs[f]? with
  |some fd=>match iK P fd.type with
   |some n=>bif Nat.beq n 0 then none else match v with
    | .ptr id off=>some (.ptr id (off+fd.offset))
    | .pin es i off=>some (.pin es i (off+fd.offset))
    |_=>none
   |none=>none
  |none=>none
 |_=>none
def mO(z:Nat):PV->Option (List PV)
 | .emp=>some []
 | .nil=>some []
 | .sl z' es=>bif Nat.beq z z' then some es else none
 |_=>none
def cZ(t:TypeId)(v i:PV):Option PV:=
 match i with
 | .v (.int _ n)=>
  match P.underlying t with
  |some (.slice e)=>match iK P e with
   |some z=>match v with
    | .sl z' es=>bif Nat.beq z z'&&bC n es.length then some (.pin es n.toNat 0)else none
    | .rs id off len=>bif bC n len then some (.ptr id (off+n.toNat*z))else none
    |_=>none
   |none=>none
  |some (.array len e)=>match iK P e with
   |some z=>match v with
    | .ptr id off=>bif bC n len then some (.ptr id (off+n.toNat*z))else none
    | .pin es j off=>bif bC n len then some (.pin es j (off+n.toNat*z))else none
    |_=>none
   |none=>none
  |_=>none
 |_=>none
def vG:PV->Option Value
 | .v x=>bif aE x then some x else none
 | .str s=>some (.string ⟨s.toArray⟩)
 |_=>none
def toVs:List PV->Option (List Value)
 |[]=>some []
 |x::xs=>match vG x,toVs xs with
  |some a,some l=>some (a::l)
  |_,_=>none
def toV:PV->Option Value
 | .agg cs=>(toVs cs).map λl=> .agg l.toArray
 |x=>vG x
def wW(t:TypeId)(v i:PV):Option PV:=
 match P.underlying t with
 |some .string=>match vG v,vG i with
  |some a,some b=>(aY P (Instr.index t a b)).map ofV
  |_,_=>none
 |some (.array len e)=>match i,v with
  | .v (.int _ n),.agg cs=>match iK P e with
   |some z=>bif bC n len then pI P e cs (n.toNat*z)else none
   |none=>none
  |_,_=>none
 |_=>none
def pnil(op:BinOp):PV->Option PV
 | .sl _ _=>match op with
  | .eql=>some (pb false)
  | .neq=>some (pb true)
  |_=>none
 |_=>none
def nU(op:BinOp)(t:TypeId)(x y:Operand)(a b:PV):Option PV:=
 match toV a,toV b with
 |some u,some w=>(aY P (do eqGuard op t x y u w;binOp op t u w)).map ofV
 |_,_=>match P.underlying t,b with
  |some (.slice _),.nil=>pnil op a
  |_,_=>none
def pun(op:UnOp)(a:PV):Option PV:=
 match vG a with
 |some u=>(aY P (Op.unary op u)).map ofV
 |none=>none
def vJ(s d:TypeId)(a:PV):Option PV:=
 match vG a with
 |some u=>(aY P (convert s d u)).map ofV
 |none=>none
def jT:Option PV->Option (Option Int)
 |none=>some none
 |some (.v (.int _ n))=>some (some n)
 |_=>none
def optV:Option PV->Option (Option Value)
 |none=>some none
 |some x=>match vG x with
  |some v=>some (some v)
  |none=>none
def gX(p:PSt)(t:TypeId)(v:PV)(lo hi mx:Option PV):Option (PV×Bool):=
 match P.underlying t with
 |some .string=>match v,optV lo,optV hi,mx with
  | .str s,some l,some h,none=>(aY P (Instr.sliceAt t (.string ⟨s.toArray⟩) l h none)).map λw=>(ofV w,false)
  |_,_,_,_=>none
 |some (.slice e)=>match iK P e,jT lo,jT hi,jT mx with
  |some z,some l,some h,some m=>match v,m with
   | .rs id off len,none=>match p.get id with
    |some (.row z' _ _)=>bif Nat.beq z z'&&decide (0<=l.getD 0)&&decide (l.getD 0<h.getD (len:Int))&&decide (h.getD (len:Int)<=(len:Int))then
            some (.rs id (off+(l.getD 0).toNat*z) ((h.getD (len:Int)).toNat-(l.getD 0).toNat),false)else none
    |_=>none
   | .sl z' es,none=>bif Nat.beq z z'&&decide (0<=l.getD 0)&&decide (l.getD 0<=h.getD (es.length:Int))&&decide (h.getD (es.length:Int)<=(es.length:Int))then
            some (dN z ((es.take (h.getD (es.length:Int)).toNat).drop (l.getD 0).toNat),false)else none
   | .emp,none=>bif decide (0<=l.getD 0)&&decide (l.getD 0<=h.getD 0)&&decide (h.getD 0<=0)then some (.emp,false)else none
   | .sl z' es,some m=>bif Nat.beq z z'&&decide (0<=l.getD 0)&&decide (l.getD 0<h.getD (es.length:Int))&&decide (h.getD (es.length:Int)<=(es.length:Int))&&h.isSome&&decide (h.getD (es.length:Int)=m)then
            some (dN z ((es.take (h.getD (es.length:Int)).toNat).drop (l.getD 0).toNat),true)else bif List.isEmpty es&&(decide (0<=l.getD 0)&&decide (l.getD 0<=h.getD 0)&&decide (h.getD 0<=0)&&h.isSome&&decide (m=0))then some (.emp,true)else none
   | .nil,none=>bif decide (0<=l.getD 0)&&decide (l.getD 0<=h.getD 0)&&decide (h.getD 0<=0)then some (.emp,false)else none
   | .emp,some m=>bif decide (0<=l.getD 0)&&decide (l.getD 0<=h.getD 0)&&decide (h.getD 0<=0)&&h.isSome&&decide (m=0)then some (.emp,true)else none
   | .nil,some m=>bif decide (0<=l.getD 0)&&decide (l.getD 0<=h.getD 0)&&decide (h.getD 0<=0)&&h.isSome&&decide (m=0)then some (.emp,true)else none
   |_,_=>none
  |_,_,_,_=>none
 |_=>none
def aH5:List PV->Nat->List PV->List PV
 |cs,_,[]=>cs
 |cs,off,x::xs=>aH5 (cs.set off x) (off+1) xs
def aAc(place:Nat->Option (Nat×Nat))(cs:List PV):List (Nat×PV)->Option (List PV)
 |[]=>some cs
 |(i,x)::rest=>match place i with
  |none=>none
  |some (off,size)=>bif Nat.beq x.cells.length size&&Nat.ble (off+size) cs.length&&x.cells.all PV.one then aAc place (aH5 cs off x.cells) rest else none
def zeroCells(t:TypeId):Option (List PV):=
 match aR P (zeroValue t)with
 |some z=>bif z.cells.toList.all aE then some (ofVs z.cells.toList)else none
 |none=>none
def sO(t:TypeId)(parts:List (Nat×PV)):Option PV:=
 match zeroCells P t with
 |some z=>match P.underlying t with
  |some (.struct fs)=>match aR P (fs.mapM λf=>do pure (f.offset,<-Go.sizeOf f.type))with
   |some pl=>(aAc (λi=>pl[i]?) z parts).map .agg
   |none=>none
  |some (.array _ e)=>match iK P e with
   |some s=>(aAc (λi=>some (i*s,s)) z parts).map .agg
   |none=>none
  |_=>none
 |none=>none
def aIX(t:TypeId)(v:PV):Option PV:=
 match P.underlying t with
 |some (.slice _)=>match v with
  | .sl _ es=>some (i64 es.length)
  | .emp=>some (i64 0)
  | .nil=>some (i64 0)
  | .rs _ _ n=>some (i64 n)
  |_=>none
 |some .string=>match v with
  | .str s=>some (i64 s.length)
  |_=>none
 |some (.array n _)=>some (i64 n)
 |_=>none
def toVl:List PV->Option (List Value)
 |[]=>some []
 |x::xs=>match vG x,toVl xs with
  |some a,some l=>some (a::l)
  |_,_=>none
def jC(mx:Bool)(ts:Array TypeId)(ty:TypeId)(as:List PV):Option PV:=
 match toVl as with
 |some l=>(aY P (bif mx then Builtin.max_ ts ty l.toArray else Builtin.min_ ts ty l.toArray)).map ofV
 |none=>none
structure PS where
 get:Nat->PV×Bool
def PS.none:PS:=⟨λ_=>(.und,false)⟩
def PS.set(S:PS)(t:Nat)(x:PV×Bool):PS:=⟨λk=>bif Nat.beq k t then x else S.get k⟩
def PS.at(S:PS)(i:Nat):PV×Bool:=S.get i
def fl(x:PV)(own:Bool):PV×Bool:=match x with| .nil=>(.emp,true)|x=>(x,own)
def PS.put(S:PS)(d:Option Tmp)(x:PV)(own:Bool):PS:=
 match d with
 |some d=>S.set d (x,own)
 |none=>S
def pev(S:PS):Operand->PV
 | .tmp t=>(S.at t).1
 | .const v=>ofV v
 | .global _=> .und
 | .func f=> .fn f [] []
def iO:PV->Bool
 | .nil=>true
 |_=>false
def jD(S:PS):Operand->Bool
 | .tmp t=>(S.at t).2||iO (S.at t).1
 | .const (.slice none _ _)=>true
 |_=>false
def qU(S:PS):Operand->PS
 | .tmp t=>S.set t ((S.at t).1,false)
 |_=>S
def iF(p:PSt)(t:TypeId):PV->Option PV
 | .pin es i off=>match es[i]? with
  |some e=>pI P t e.cells off
  |none=>none
 | .ptr id off=>match p.get id with
  |some (.box cs)=>pI P t (cs.map (·.1)) off
  |some (.row _ _ cs)=>pI P t cs off
  |_=>none
 |_=>none
def eI(p:PSt):PV->PSt×Bool
 | .ptr id off=>match p.get id with
  |some (.box cs)=>match cs[off]? with
   |some (x,true)=>(p.mark id (.box (cs.set off (x,false))),true)
   |_=>(p,false)
  |_=>(p,false)
 |_=>(p,false)
def aIY:PV->Bool
 | .sl _ _| .emp=>true
 |_=>false
def bV(take:Bool)(S:PS)(o:Oper):Option (PV×Bool×PS):=
 let r (x:Option PV):Option (PV×Bool×PS):=x.map λv=>(v,false,S)
 match o.op with
 | .move x=>bif take then some (pev S x,jD S x,qU S x)else some (pev S x,false,S)
 | .assign x=>bif take then some (pev S x,jD S x,qU S x)else some (pev S x,false,S)
 | .pick c a b=>match pev S c with
  | .v (.bool true)=>some (pev S a,false,S)
  | .v (.bool false)=>some (pev S b,false,S)
  |_=>none
 | .build t parts=>r (sO P t (parts.toList.map λ(i,x)=>(i,pev S x)))
 | .nilCheck x=>match pev S x with
  | .ptr id off=>some (.ptr id off,false,S)
  | .pin es i off=>some (.pin es i off,false,S)
  |_=>none
 | .binOp op t x y _=>r (nU P op t x y (pev S x) (pev S y))
 | .unOp op _ x=>r (pun P op (pev S x))
 | .convert s d x=>r (vJ P s d (pev S x))
 | .makeFunc fn first captured=>match fn with
  | .func f=>some (.fn f (wks (first.toList.map (pev S))) (wks (captured.toList.map (pev S))),false,S)
  |_=>none
 | .fieldAddr s x f=>r (dZ P s (pev S x) f)
 | .field t x f=>r (aBo P t (pev S x) f)
 | .indexAddr t x i=>r (cZ P t (pev S x) (pev S i))
 | .index t x i=>r (wW P t (pev S x) (pev S i))
 | .extract t i=>match pev S t with
  | .tup vs=>bif take&&Nat.beq i 0 then vs[0]?.map λv=>(v,jD S t,qU S t)else r vs[i]?
  |_=>none
 | .call c=>match c.callee with
  | .builtin .len=>match c.argTypes[0]?,c.args[0]? with
   |some t,some x=>r (aIX P t (pev S x))
   |_,_=>none
  | .builtin .min=>r (jC P false c.argTypes o.type (c.args.toList.map (pev S)))
  | .builtin .max=>r (jC P true c.argTypes o.type (c.args.toList.map (pev S)))
  |_=>none
 |_=>none
def kJ(p:PSt)(S:PS)(o:Oper)(take:Bool):Option (PV×Bool×PSt):=
 match o.op with
 | .load t a=>match iF P p t (pev S a)with
  |some v=>bif take&&aIY v then some (v,(eI p (pev S a)).2,(eI p (pev S a)).1)else some (v,false,p)
  |none=>none
 | .slice t x lo hi mx=>(gX P p t (pev S x) (lo.map (pev S)) (hi.map (pev S)) (mx.map (pev S))).map λr=>(r.1,r.2,p)
 |_=>none
def shape(a:Bool)(s:Nat)(x:PV):Bool:=
 match x with
 | .agg cs=>a&&Nat.beq cs.length s&&cs.all PV.pur
 |x=> !a&&Nat.beq s 1&&x.pur
def jA(a:Bool)(s:Nat):List PV->List (Nat×PV)->Option (List PV)
 |es,[]=>some es
 |es,(i,x)::rest=>bif Nat.blt i es.length&&shape a s x then jA a s (es.set i (wk x)) rest else none
def jS(x:PV):Nat->List PV
 |0=>[]
 |n+1=>x::jS x n
def eT(l:List PV):Nat->List PV
 |0=>[]
 |n+1=>l++eT l n
def dB(p:PSt)(S:PS)(o:Oper):Option (PV×Bool×PSt):=
 match o.op with
 | .alloc t=>match zeroCells P t with
  |some z=>some (.ptr p.next 0,false,p.new (.box (z.map λc=>fl c false)))
  |none=>none
 | .box _ x=>bif (pev S x).cells.all PV.one then some (.ptr p.next 0,false,p.new (.box ((pev S x).cells.map λc=>fl c false)))else none
 | .buildSlice t len parts=>
  match P.underlying t with
  |some (.slice e)=>match iK P e,gU P e,zeroCells P e with
   |some s,some a,some z=>
    bif Nat.ble (len*s) 1000000&&Nat.beq z.length s&&Nat.ble 1 s&&(a||Nat.beq s 1)then
     match jA a s (jS (wk (bif a then .agg z else z.headD .und)) len) (parts.toList.map λ(i,x)=>(i,pev S x))with
     |some es=>some (dN s es,true,p)
     |none=>none
    else none
   |_,_,_=>none
  |_=>none
 | .makeSlice t l c=>
  match P.underlying t,pev S l,pev S c with
  |some (.slice e),.v (.int .i64 n),.v (.int .i64 k)=>match P.info? e,gU P e with
   |some info,some a=>match info.zero with
    |some z=>
     bif decide (0<=n)&&decide (n<=k)&&decide (k*(info.bytes:Int)<=1073741824)&&decide (k<=1073741824)&&z.cells.toList.all aE&&Nat.beq z.cells.size info.size&&Nat.ble 1 info.size&&(a||Nat.beq info.size 1)then
      bif decide (n=0)then some (.sl info.size [],true,p)
      else bif decide (n=k)then some (.rs p.next 0 n.toNat,false,p.new (.row info.size a (eT (wks (ofVs z.cells.toList)) n.toNat)))
      else none
     else none
    |none=>none
   |_,_=>none
  |_,_,_=>none
 |_=>none
def kI(p:PSt)(t:TypeId)(a x:PV)(own:Bool):Option PSt:=
 match a with
 | .ptr id off=>match p.get id,iK P t with
  |some (.box cs),some n=>bif Nat.beq x.cells.length n&&Nat.ble (off+n) cs.length&&x.cells.all PV.one then
        some (p.upd id (.box (cs.take off++x.cells.map (λc=>fl c own)++cs.drop (off+n))))else none
  |some (.row z a cs),some n=>bif Nat.beq x.cells.length n&&Nat.ble (off+n) cs.length&&x.cells.all PV.one then
        some (p.upd id (.row z a (cs.take off++wks x.cells++cs.drop (off+n))))else none
  |_,_=>none
 |_=>none
def pG(z:Nat)(u:TypeDesc)(x:PV):Option (List PV):=
 match u with
 | .slice _=>mO z x
 | .string=>match x with
  | .str s=>bif Nat.beq z 1 then some (s.map λb=> .v (.int .u8 b.toNat))else none
  |_=>none
 |_=>none
def pL(S:PS)(c:Call)(s x:Operand):Option (PV×Bool×PS):=
 match c.argTypes.toList with
 |[t,t1]=>
  match P.underlying t,P.underlying t1 with
  |some (.slice e),some u=>
   match P.info? e with
   |some info=>match mO info.size (pev S s),pG info.size u (pev S x),info.zero with
    |some es,some xs,some z=>
     bif Nat.ble 1 info.size&&Nat.ble 1 info.bytes&&Nat.beq z.cells.size info.size then
      match xs with
      |[]=>some (pev S s,jD S s,qU S s)
      |_=>bif jD S s&&Nat.ble ((es.length+xs.length)*info.bytes) 1073741824 then some (dN info.size (es++xs),true,qU S s)else none
     else none
    |_,_,_=>none
   |none=>none
  |_,_=>none
 |_=>none
def isE:PV->Bool
 | .sl _ []=>true
 | .tup (.sl _ []::_)=>true
 |_=>false
abbrev fB:=Nat->List (PV×Bool)->PSt->Option (PV×Bool×PSt)
def jY(take:Bool):PS->List Operand->List (PV×Bool)×PS
 |S,[]=>([],S)
 |S,x::xs=>((wk (pev S x),take&&jD S x&& !isE (pev S x))::(jY take (bif take then qU S x else S) xs).1,(jY take (bif take then qU S x else S) xs).2)
def pN:List PV->List (PV×Bool)
 |[]=>[]
 |x::xs=>(wk x,false)::pN xs
def mA(take:Bool)(S:PS)(c:Call):Option (Nat×List (PV×Bool)):=
 match c.callee with
 | .value f=>match pev S f with
  | .fn g first captured=>some (g,pN first++((jY take S c.args.toList).1++pN captured))
  |_=>none
 |_=>none
def peff(call:fB)(take:Bool)(p:PSt)(S:PS)(o:Oper):Option (PV×Bool×PS×PSt):=
 match o.op with
 | .store t a x=>(kI P p t (pev S a) (pev S x) (jD S x)).map λp'=>(.und,false,qU S x,p')
 | .call c=>match c.callee with
  | .builtin .append=>match c.args.toList with
   |[s,x]=>(pL P S c s x).map λr=>(r.1,r.2.1,r.2.2,p)
   |_=>none
  |_=>match mA take S c with
   |some (g,args)=>(call g args p).map λr=>(r.1,r.2.1,(jY take S c.args.toList).2,r.2.2)
   |none=>none
 |_=>none
inductive aHx where
 |op (i:Nat) (take:Bool)
 |app (a i s:Nat)
 |freeze (t:Nat)
def iE(ops:Array Oper)(S:PS)(o:Oper):Option Bool:=
 match o.guard with
 |none=>some true
 |some (j,want)=>
  match(ops[j]?.bind (·.dst)).map λd=>(S.at d).1 with
  |some (.v (.bool b))=>some (b==want)
  |some (.tup [])=>some false
  |_=>none
def keeps(S:PS):List Nat->PS
 |[]=> .none
 |t::ts=>(keeps S ts).set t (S.at t)
def mQ(z:Nat):Nat->List PV->List PV
 |0,_=>[]
 |n+1,cs=> .agg (cs.take z)::mQ z n (cs.drop z)
def frz(p:PSt)(x:PV×Bool):Option ((PV×Bool)×PSt):=
 match x with
 |(.rs id off len,_)=>match p.get id with
  |some (.row z a cs)=>
   bif Nat.ble (off+len*z) cs.length&&Nat.ble 1 z&&(a||Nat.beq z 1)&&cs.all PV.pur then
    some ((dN z (bif a then mQ z len ((cs.drop off).take (len*z))else(cs.drop off).take (len*z)),false),p.upd id .gone)else none
  |_=>none
 |y=>some (y,p)
def fX(p:PSt)(S:PS)(t:Nat):Option (PS×PSt):=match frz p (S.at t)with|some r=>some (S.set t r.1,r.2)|none=>none
def fO:List PV->Option (List UInt8)
 |[]=>some []
 | .v (.int .u8 n)::r=>(fO r).map (UInt8.ofNat n.toNat:: ·)
 |_=>none
def wX(s d:TypeId)(v:PV):Option PV:=
 match P.underlying s,P.underlying d with
 |some (.slice e),some .string=>match P.underlying e with
  |some (.int .u8)=>match mO 1 v with
   |some es=>(fO es).map .str
   |none=>none
  |_=>none
 |_,_=>none
def aBn(sq take:Bool)(S:PS)(o:Oper):Option (PV×Bool×PS):=
 match bV P take S o with
 |some r=>some r
 |none=>bif sq then(match o.op with
  | .convert s d x=>(wX P s d (pev S x)).map λv=>(v,false,S)
  |_=>none)else none
def pop(call:fB)(sq:Bool)(o:Oper)(take:Bool)(S:PS)(p:PSt):Option (PV×Bool×PS×PSt):=
 match aW o with
 | .pure=>(aBn P sq take S o).map λr=>(r.1,r.2.1,r.2.2,p)
 | .read=>(kJ P p S o take).map λr=>(r.1,r.2.1,S,r.2.2)
 | .alloc=>(dB P p S o).map λr=>(r.1,r.2.1,S,r.2.2)
 | .eff=>peff P call take p S o
def isT(t:Nat):Operand->Bool
 | .tmp u=>Nat.beq t u
 |_=>false
def pappV(ts:List TypeId)(t1 t2:TypeId)(s:PV)(own:Bool)(zz n x:PV):Option PV:=
 match ts with
 |[t,tz]=>match P.underlying t,P.underlying tz with
  |some (.slice e),some u=>match P.info? e,gU P e with
   |some info,some ag=>match mO info.size s,pG info.size u zz,info.zero,n with
    |some es,some [_],some zv,.v (.int _ k)=>
     bif Nat.ble 1 info.size&&Nat.ble 1 info.bytes&&Nat.beq zv.cells.size info.size&&own&&Nat.ble ((es.length+1)*info.bytes) 1073741824&&Nat.beq t1 t&&Nat.beq t2 e&&decide (k=(es.length:Int))&&shape ag info.size x then
      some (.sl info.size (es++ [wk x]))else none
    |_,_,_,_=>none
   |_,_=>none
  |_,_=>none
 |_=>none
def pinL:PV->PV
 | .sl _ es=> .pin es (es.length-1) 0
 |_=> .und
def aH8(S:PS)(oA oI oS:Oper):Option PS:=
 match oA.op,oA.dst,oI.op,oI.dst,oS.op,oS.dst with
 | .call c,some a,.indexAddr t1 (.tmp a') n,some b,.store t2 (.tmp b') x,none=>
  match c.callee,c.args.toList with
  | .builtin .append,[s,zz]=>
   bif Nat.beq a a'&&Nat.beq b b'&& !Nat.beq a b&& !isT a n&& !isT a x&& !isT b x&&oA.guard.isNone&&oI.guard.isNone&&oS.guard.isNone then
    (pappV P c.argTypes.toList t1 t2 (pev S s) (jD S s) (pev S zz) (pev S n) (pev S x)).map λv=>((qU S s).put (some a) v true).put (some b) (pinL v) false
   else none
  |_,_=>none
 |_,_,_,_,_,_=>none
def aCW(call:fB)(ops:Array Oper):List aHx->PS->PSt->Option (PS×PSt)
 |[],S,p=>some (S,p)
 | .app a i s::rest,S,p=>
  match ops[a]?,ops[i]?,ops[s]? with
  |some oA,some oI,some oS=>match aH8 P S oA oI oS with
   |some S'=>aCW call ops rest S' p
   |none=>none
  |_,_,_=>none
 | .freeze t::rest,S,p=>match fX p S t with
  |some (S',p')=>aCW call ops rest S' p'
  |none=>none
 | .op i take::rest,S,p=>
  match ops[i]? with
  |none=>none
  |some o=>match iE ops S o with
   |some true=>match pop P call true o take S p with
    |some (v,own,S',p')=>aCW call ops rest (S'.put o.dst v own) p'
    |none=>none
   |some false=>aCW call ops rest (S.put o.dst (.tup []) false) p
   |none=>none
structure gV where
 i:Nat
 o:Oper
 a:PV
 v:PV
 stale:Bool
mutual
def aBi:PV->PV->Bool
 | .v x,.v y=>dY x y
 | .str a,.str b=>a==b
 | .agg xs,.agg ys=>aBh xs ys
 |_,_=>false
def aBh:List PV->List PV->Bool
 |[],[]=>true
 |x::xs,y::ys=>aBi x y&&aBh xs ys
 |_,_=>false
end
def aid(a:PV):Option Nat:=match a with| .ptr id _=>some id|_=>none
def vid(v:PV):Option Nat:=match v with| .ptr id _=>some id| .rs id _ _=>some id|_=>none
def cid(o:Oper)(a v:PV):Option Nat:=match o.op with| .load _ _=>aid a|_=>vid v
def clean(p:PSt)(x:Option Nat):Bool:=match x with|some id=> !p.wr.contains id|none=>false
def lT(p:PSt)(r:gV):Bool:=
 !r.stale||(clean p (cid r.o r.a r.v)||(match r.o.op with
  | .load t _=>(toV r.v).isSome&&(match iF P p t r.a with|some v=>aBi v r.v|none=>false)
  |_=>false))
def gN(o:Oper)(S:PS):Bool:=
 match o.op with
 | .load _ a=>match pev S a with| .ptr _ _=>true|_=>false
 | .alloc _| .box _ _| .makeSlice _ _ _=>true
 |_=>false
def kW(o:Oper)(S:PS):PV:=
 match o.op with
 | .load _ a=>pev S a
 |_=> .und
def gZ(o:Oper):Bool:=
 match o.op with
 | .makeSlice _ _ _=>true
 |_=>false
def jI(o:Oper):Bool:=
 match o.op with
 | .call c=>match c.callee with| .builtin .append=>true|_=>false
 |_=>false
def iL(call:fB)(ops:Array Oper)(ms:List Nat):List aHx->List gV->PS->PSt->Option (PS×PSt)
 |[],pend,S,p=>bif pend.all (lT P p)then some (S,p)else none
 | .app a i s::rest,pend,S,p=>
  match ops[a]?,ops[i]?,ops[s]? with
  |some oA,some oI,some oS=>match aH8 P S oA oI oS with
   |some S'=>bif pend.all (lT P p)&&(pend.filter λr=> !bit (ms.getD a 0) r.i).all (λr=> !gZ r.o)then
          iL call ops ms rest (((pend.filter λr=> !bit (ms.getD a 0) r.i).map λr=>bif !gZ r.o then r else{r with stale:=true}).filter λr=> !bit (ms.getD s 0) r.i) S' p
    else none
   |none=>none
  |_,_,_=>none
 | .freeze t::rest,pend,S,p=>match fX p S t with
  |some (S',p')=>iL call ops ms rest pend S' p'
  |none=>none
 | .op i take::rest,pend,S,p=>
  match ops[i]? with
  |none=>none
  |some o=>match iE ops S o with
   |some true=>match pop P call false o take S p with
    |some (v,own,S',p')=>
     bif iP o then
      bif pend.all (lT P p)then
       iL call ops ms rest ((pend.filter λr=> !bit (ms.getD i 0) r.i).map λr=>bif jI o&& !gZ r.o then r else{r with stale:=true}) (S'.put o.dst v own) p'
      else none
     else iL call ops ms rest (bif gN o S then⟨i,o,kW o S,v,false⟩::pend else pend) (S'.put o.dst v own) p'
    |none=>none
   |some false=>iL call ops ms rest pend (S.put o.dst (.tup []) false) p
   |none=>none
inductive PC where
 |skip
 |label (l:Nat)
 |region (id:Nat) (ops:Array Oper) (draw:Bool) (ms:List Nat) (sc:List aHx)
 |seq (a b:PC)
 |cond (c:Operand) (a b:PC)
 |block (id:Nat) (c:PC)
 |loop (c:PC)
 |exit (id:Nat)
 |ret
 |scope (c:PC)
 |other (c:Code)
 |drop (ts:List Nat) (c:PC)
 |ice (t:Nat) (c:PC)
def cV:PC->Code
 | .skip=> .skip
 | .label l=> .label l
 | .region id ops draw _ _=> .region id ops draw
 | .seq a b=> .seq (cV a) (cV b)
 | .cond c a b=> .cond c (cV a) (cV b)
 | .block id c=> .block id (cV c)
 | .loop c=> .loop (cV c)
 | .exit id=> .exit id
 | .ret=> .ret
 | .scope c=> .scope (cV c)
 | .other c=>c
 | .drop _ c=>cV c
 | .ice _ c=>cV c
def aAn(body:PS->PSt->Option (Fl×PS×PSt)):Nat->PS->PSt->Option (Fl×PS×PSt)
 |0,_,_=>none
 |n+1,S,p=>match body S p with
  |some (.normal,S',p')=>aAn body n S' p'
  |r=>r
def cln(p:PSt):PSt:={p with wr:=[]}
def dty(p p':PSt):PSt:={p' with wr:=p'.wr.foldr ins p.wr}
def st0(p:PSt):PSt:={p with dirty:=[],wr:=[]}
def aDh(ops:Array Oper)(S:PS)(p:PSt):Bool:=
 match twin ops with
 |none=>true
 |some (.tmp s,.tmp t)=>match(S.at s).1,(S.at t).1 with
  | .pin _ _ _,.ptr id _=>match p.get id with
   |some (.box _)=>true
   |_=>false
  |_,_=>false
 |_=>false
def fitP(ops:Array Oper):Option (PS×PSt)->Option (PS×PSt)
 |some r=>bif aDh ops r.1 r.2 then some r else none
 |none=>none
def dJ(call:fB)(L:Nat):PC->PS->PSt->Option (Fl×PS×PSt)
 | .skip,S,p=>some (.normal,S,p)
 | .label _,S,p=>some (.normal,S,p)
 | .region _ ops draw ms sc,S,p=>
  (bif draw then(fitP ops (iL P call ops ms sc [] S (cln p))).map (λr=>(r.1,dty p r.2))else aCW P call ops sc S p).map λr=>(.normal,r.1,r.2)
 | .seq a b,S,p=>match dJ call L a S p with
  |some (.normal,S',p')=>dJ call L b S' p'
  |r=>r
 | .cond c a b,S,p=>match pev S c with
  | .v (.bool true)=>dJ call L a S p
  | .v (.bool false)=>dJ call L b S p
  |_=>none
 | .block id c,S,p=>match dJ call L c S p with
  |some (.exit n,S',p')=>bif Nat.beq n id then some (.normal,S',p')else some (.exit n,S',p')
  |r=>r
 | .loop c,S,p=>aAn (λS p=>dJ call L c S p) L S p
 | .exit id,S,p=>some (.exit id,S,p)
 | .ret,S,p=>some (.ret,S,p)
 | .scope c,S,p=>dJ call L c S p
 | .other _,_,_=>none
 | .drop ts c,S,p=>dJ call L c (keeps S ts) p
 | .ice t c,S,p=>match fX p S t with
  |some (S',p')=>dJ call L c S' p'
  |none=>none
def lZ(S:PS)(p:PSt):ResultVar->Option (PV×Bool)
 | .tmp t=>some (S.at t)
 | .cell a t=>(iF P p t (S.at a).1).map λv=>(v,false)
def dM(S:PS)(p:PSt):List ResultVar->Option (List (PV×Bool))
 |[]=>some []
 |r::rs=>match lZ P S p r,dM S p rs with
  |some v,some vs=>some (v::vs)
  |_,_=>none
def isSlN:PV->Bool
 | .sl _ _| .emp| .nil=>true
 |_=>false
def bP:List (PV×Bool)->PV×Bool
 |[v]=>(wk v.1,(v.2||iO v.1)&& !isE v.1)
 |v::vs=>(.tup (wks ((v::vs).map (·.1))),(v.2||iO v.1)&& !isE v.1&&isSlN v.1)
 |[]=>(.tup [],false)
def aAF:List (PV×Bool)->Nat->PS->PS
 |[],_,S=>S
 |v::vs,i,S=>aAF vs (i+1) (S.set i v)
def back(q:Tr mW)(id:Nat)(m:Tr mW):Tr mW:=match q.get id with|some o=>m.set id o|none=>m
def qW(n:Nat)(q:Tr mW)(id:Nat):Bool:=match q.get id with|some o=>oN n o|none=>false
def settle(p:PSt)(r:PV)(p':PSt):PSt:=
 bif below p.next r&&(p'.dirty.filter λid=>Nat.blt id p.next).all (qW p.next p'.mem)then
  ⟨(p'.dirty.filter λid=>Nat.blt id p.next).foldr (back p'.mem) p.mem,p.next,(p'.dirty.filter λid=>Nat.blt id p.next).foldr ins p.dirty,(p'.wr.filter λid=>Nat.blt id p.next).foldr ins p.wr⟩
 else⟨p'.mem,p'.next,(p'.dirty.filter λid=>Nat.blt id p.next).foldr ins p.dirty,(p'.wr.filter λid=>Nat.blt id p.next).foldr ins p.wr⟩
abbrev PTab:=Nat->Option (PC×List ResultVar)
end
end Go.PI
