import Derived.Test.YtojjcdpfjabepaaGreatDoorKa
set_option linter.unusedVariables false
set_option linter.unusedSimpArgs false
set_option linter.constructorNameAsVariable false
namespace Go.PI
open Go.AI
inductive PV where
 |v (x:Value)
 |str (s:List UInt8)
 |agg (cs:List PV)
 |tup (vs:List PV)
 |nil
 |emp
 |sl (z:Nat) (es:List PV)
 |pin (es:List PV) (i off:Nat)
 |ptr (id off:Nat)
 |rs (id off len:Nat)
 |mp (id:Nat)
 |fn (f:Nat) (first captured:List PV)
 |und
 deriving Inhabited
def PV.cells:PV→List PV
 | .agg cs=>cs
 |x=>[x]
def PV.one:PV→Bool
 | .agg _| .tup _| .und=>false
 |_=>true
def PV.pur:PV→Bool
 | .v _| .str _| .nil| .emp| .sl _ _=>true
 |_=>false
def cQ(z:Nat):List PV→PV
 |[]=> .emp
 |e::es=> .sl z (e::es)
mutual
def ofV:Value→PV
 | .string s=> .str s.data.toList
 | .slice none _ _=> .nil
 | .agg ⟨cs⟩=> .agg (ofVs cs)
 | .tuple ⟨cs⟩=> .tup (ofVs cs)
 |x=> .v x
def ofVs:List Value→List PV
 |[]=>[]
 |x::xs=>ofV x::ofVs xs
end
mutual
def wk:PV→PV
 | .nil=> .emp
 | .sl _ []=> .emp
 | .agg cs=> .agg (wks cs)
 | .tup cs=> .tup (wks cs)
 |x=>x
def wks:List PV→List PV
 |[]=>[]
 |x::xs=>wk x::wks xs
end
mutual
def below(n:Nat):PV→Bool
 | .agg cs=>eW n cs
 | .tup cs=>eW n cs
 | .ptr id _=>Nat.blt id n
 | .rs id _ _=>Nat.blt id n
 | .mp id=>Nat.blt id n
 | .fn _ a b=>eW n a&&eW n b
 |_=>true
def eW(n:Nat):List PV→Bool
 |[]=>true
 |x::xs=>below n x&&eW n xs
end
inductive lP where
 |box (cs:List (PV×Bool))
 |row (z:Nat) (a:Bool) (cs:List PV)
 |gone
 |map (es:List (PV×PV))
structure PSt where
 mem:Tr lP
 next:Nat
 dirty:List Nat
 wr:List Nat:=[]
def PSt.get(p:PSt)(id:Nat):Option lP:=bif Nat.blt id p.next then p.mem.get id else none
def ins(id:Nat)(l:List Nat):List Nat:=bif l.contains id then l else id::l
def PSt.upd(p:PSt)(id:Nat)(o:lP):PSt:={p with mem:=p.mem.set id o,dirty:=ins id p.dirty,wr:=ins id p.wr}
def PSt.mark(p:PSt)(id:Nat)(o:lP):PSt:={p with mem:=p.mem.set id o,dirty:=ins id p.dirty}
def PSt.new(p:PSt)(o:lP):PSt:={p with mem:=p.mem.set p.next o,next:=p.next+1}
def mO(n:Nat):lP→Bool
 | .box cs=>cs.all fun c=>below n c.1
 | .row _ _ cs=>eW n cs
 | .gone=>true
 | .map es=>es.all fun e=>below n e.1&&below n e.2
section
variable(P:Program)
def i64(n:Int):PV:= .v (.int .i64 n)
def pb(b:Bool):PV:= .v (.bool b)
def nC(t:TypeId)(cs:List PV)(off:Nat):Option PV:=
 match jA P t with
 |some true=>match jD P t with
  |some n=>bif Nat.beq ((cs.drop off).take n).length n then some (.agg ((cs.drop off).take n))else none
  |none=>none
 |some false=>cs[off]?
 |none=>none
def xY(t:TypeId)(v:PV)(f:Nat):Option PV:=
 match P.underlying t with
 |some (.struct fs)=>match fs[f]? with
  |some fd=>match v with
   | .agg cs=>nC P fd.type cs fd.offset
   |_=>none
  |none=>none
 |_=>none
def dF(s:TypeId)(v:PV)(f:Nat):Option PV:=
 match P.underlying s with
 |some (.struct fs)=>match fs[f]? with
  |some fd=>match jD P fd.type with
   |some n=>bif Nat.beq n 0 then none else match v with
    | .ptr id off=>some (.ptr id (off+fd.offset))
    | .pin es i off=>some (.pin es i (off+fd.offset))
    |_=>none
   |none=>none
  |none=>none
 |_=>none
def lK(z:Nat):PV→Option (List PV)
 | .emp=>some []
 | .nil=>some []
 | .sl z' es=>bif Nat.beq z z' then some es else none
 |_=>none
def cH(t:TypeId)(v i:PV):Option PV:=
 match i with
 | .v (.int _ n)=>
  match P.underlying t with
  |some (.slice e)=>match jD P e with
   |some z=>match v with
    | .sl z' es=>bif Nat.beq z z'&&aZ n es.length then some (.pin es n.toNat 0)else none
    | .rs id off len=>bif aZ n len then some (.ptr id (off+n.toNat*z))else none
    |_=>none
   |none=>none
  |some (.array len e)=>match jD P e with
   |some z=>match v with
    | .ptr id off=>bif aZ n len then some (.ptr id (off+n.toNat*z))else none
    | .pin es j off=>bif aZ n len then some (.pin es j (off+n.toNat*z))else none
    |_=>none
   |none=>none
  |_=>none
 |_=>none
def sO:PV→Option Value
 | .v x=>bif aB x then some x else none
 | .str s=>some (.string ⟨s.toArray⟩)
 |_=>none
def toVs:List PV→Option (List Value)
 |[]=>some []
 |x::xs=>match sO x,toVs xs with
  |some a,some l=>some (a::l)
  |_,_=>none
def toV:PV→Option Value
 | .agg cs=>(toVs cs).map fun l=> .agg l.toArray
 |x=>sO x
def tF(t:TypeId)(v i:PV):Option PV:=
 match P.underlying t with
 |some .string=>match sO v,sO i with
  |some a,some b=>(aL P (Instr.index t a b)).map ofV
  |_,_=>none
 |some (.array len e)=>match i,v with
  | .v (.int _ n),.agg cs=>match jD P e with
   |some z=>bif aZ n len then nC P e cs (n.toNat*z)else none
   |none=>none
  |_,_=>none
 |_=>none
def pnil(op:BinOp):PV→Option PV
 | .sl _ _=>match op with
  | .eql=>some (pb false)
  | .neq=>some (pb true)
  |_=>none
 |_=>none
def pA(op:BinOp)(t:TypeId)(x y:Operand)(a b:PV):Option PV:=
 match toV a,toV b with
 |some u,some w=>(aL P (do eqGuard op t x y u w;binOp op t u w)).map ofV
 |_,_=>match P.underlying t,b with
  |some (.slice _),.nil=>pnil op a
  |_,_=>none
def pun(op:UnOp)(a:PV):Option PV:=
 match sO a with
 |some u=>(aL P (Op.unary op u)).map ofV
 |none=>none
def sE(s d:TypeId)(a:PV):Option PV:=
 match sO a with
 |some u=>(aL P (convert s d u)).map ofV
 |none=>none
def iP:Option PV→Option (Option Int)
 |none=>some none
 |some (.v (.int _ n))=>some (some n)
 |_=>none
def optV:Option PV→Option (Option Value)
 |none=>some none
 |some x=>match sO x with
  |some v=>some (some v)
  |none=>none
def fT(p:PSt)(t:TypeId)(v:PV)(lo hi mx:Option PV):Option (PV×Bool):=
 match P.underlying t with
 |some .string=>match v,optV lo,optV hi,mx with
  | .str s,some l,some h,none=>(aL P (Instr.sliceAt t (.string ⟨s.toArray⟩) l h none)).map fun w=>(ofV w,false)
  |_,_,_,_=>none
 |some (.slice e)=>match jD P e,iP lo,iP hi,iP mx with
  |some z,some l,some h,some m=>match v,m with
   | .rs id off len,none=>match p.get id with
    |some (.row z' _ _)=>bif Nat.beq z z'&&decide (0≤l.getD 0)&&decide (l.getD 0<h.getD (len:Int))&&decide (h.getD (len:Int)≤(len:Int))then
            some (.rs id (off+(l.getD 0).toNat*z) ((h.getD (len:Int)).toNat-(l.getD 0).toNat),false)else none
    |_=>none
   | .sl z' es,none=>bif Nat.beq z z'&&decide (0≤l.getD 0)&&decide (l.getD 0≤h.getD (es.length:Int))&&decide (h.getD (es.length:Int)≤(es.length:Int))then
            some (cQ z ((es.take (h.getD (es.length:Int)).toNat).drop (l.getD 0).toNat),false)else none
   | .emp,none=>bif decide (0≤l.getD 0)&&decide (l.getD 0≤h.getD 0)&&decide (h.getD 0≤0)then some (.emp,false)else none
   | .sl z' es,some m=>bif Nat.beq z z'&&decide (0≤l.getD 0)&&decide (l.getD 0<h.getD (es.length:Int))&&decide (h.getD (es.length:Int)≤(es.length:Int))&&h.isSome&&decide (h.getD (es.length:Int)=m)then
            some (cQ z ((es.take (h.getD (es.length:Int)).toNat).drop (l.getD 0).toNat),true)else bif List.isEmpty es&&(decide (0≤l.getD 0)&&decide (l.getD 0≤h.getD 0)&&decide (h.getD 0≤0)&&h.isSome&&decide (m=0))then some (.emp,true)else none
   | .nil,none=>bif decide (0≤l.getD 0)&&decide (l.getD 0≤h.getD 0)&&decide (h.getD 0≤0)then some (.emp,false)else none
   | .emp,some m=>bif decide (0≤l.getD 0)&&decide (l.getD 0≤h.getD 0)&&decide (h.getD 0≤0)&&h.isSome&&decide (m=0)then some (.emp,true)else none
   | .nil,some m=>bif decide (0≤l.getD 0)&&decide (l.getD 0≤h.getD 0)&&decide (h.getD 0≤0)&&h.isSome&&decide (m=0)then some (.emp,true)else none
   |_,_=>none
  |_,_,_,_=>none
 |_=>none
def aE9:List PV→Nat→List PV→List PV
 |cs,_,[]=>cs
 |cs,off,x::xs=>aE9 (cs.set off x) (off+1) xs
def vD(place:Nat→Option (Nat×Nat))(cs:List PV):List (Nat×PV)→Option (List PV)
 |[]=>some cs
 |(i,x)::rest=>match place i with
  |none=>none
  |some (off,size)=>bif Nat.beq x.cells.length size&&Nat.ble (off+size) cs.length&&x.cells.all PV.one then vD place (aE9 cs off x.cells) rest else none
def zeroCells(t:TypeId):Option (List PV):=
 match aO P (zeroValue t)with
 |some z=>bif z.cells.toList.all aB then some (ofVs z.cells.toList)else none
 |none=>none
def qK(t:TypeId)(parts:List (Nat×PV)):Option PV:=
 match zeroCells P t with
 |some z=>match P.underlying t with
  |some (.struct fs)=>match aO P (fs.mapM fun f=>do pure (f.offset,←Go.sizeOf f.type))with
   |some pl=>(vD (fun i=>pl[i]?) z parts).map .agg
   |none=>none
  |some (.array _ e)=>match jD P e with
   |some s=>(vD (fun i=>some (i*s,s)) z parts).map .agg
   |none=>none
  |_=>none
 |none=>none
def aFT(t:TypeId)(v:PV):Option PV:=
 match P.underlying t with
 |some (.slice _)=>match v with
  | .sl _ es=>some (i64 es.length)
  | .emp=>some (i64 0)
  | .nil=>some (i64 0)
  | .rs _ _ n=>some (i64 n)
  |_=>none
 |some .string=>match v with
  | .str s=>some (i64 s.length)
  |_=>none
 |some (.array n _)=>some (i64 n)
 |_=>none
def toVl:List PV→Option (List Value)
 |[]=>some []
 |x::xs=>match sO x,toVl xs with
  |some a,some l=>some (a::l)
  |_,_=>none
def gZ(mx:Bool)(ts:Array TypeId)(ty:TypeId)(as:List PV):Option PV:=
 match toVl as with
 |some l=>(aL P (bif mx then Builtin.max_ ts ty l.toArray else Builtin.min_ ts ty l.toArray)).map ofV
 |none=>none
structure PS where
 get:Nat→PV×Bool
def PS.none:PS:=⟨fun _=>(.und,false)⟩
def PS.set(S:PS)(t:Nat)(x:PV×Bool):PS:=⟨fun k=>bif Nat.beq k t then x else S.get k⟩
def PS.at(S:PS)(i:Nat):PV×Bool:=S.get i
def fl(x:PV)(own:Bool):PV×Bool:=match x with| .nil=>(.emp,true)|x=>(x,own)
def PS.put(S:PS)(d:Option Tmp)(x:PV)(own:Bool):PS:=
 match d with
 |some d=>S.set d (x,own)
 |none=>S
def pev(S:PS):Operand→PV
 | .tmp t=>(S.at t).1
 | .const v=>ofV v
 | .global _=> .und
 | .func f=> .fn f [] []
def gJ:PV→Bool
 | .nil=>true
 |_=>false
def hJ(S:PS):Operand→Bool
 | .tmp t=>(S.at t).2||gJ (S.at t).1
 | .const (.slice none _ _)=>true
 |_=>false
def oT(S:PS):Operand→PS
 | .tmp t=>S.set t ((S.at t).1,false)
 |_=>S
def gD(p:PSt)(t:TypeId):PV→Option PV
 | .pin es i off=>match es[i]? with
  |some e=>nC P t e.cells off
  |none=>none
 | .ptr id off=>match p.get id with
  |some (.box cs)=>nC P t (cs.map (·.1)) off
  |some (.row _ _ cs)=>nC P t cs off
  |_=>none
 |_=>none
def dO(p:PSt):PV→PSt×Bool
 | .ptr id off=>match p.get id with
  |some (.box cs)=>match cs[off]? with
   |some (x,true)=>(p.mark id (.box (cs.set off (x,false))),true)
   |_=>(p,false)
  |_=>(p,false)
 |_=>(p,false)
def aFU:PV→Bool
 | .sl _ _| .emp=>true
 |_=>false
def bK(take:Bool)(S:PS)(o:Oper):Option (PV×Bool×PS):=
 let r (x:Option PV):Option (PV×Bool×PS):=x.map fun v=>(v,false,S)
 match o.op with
 | .move x=>bif take then some (pev S x,hJ S x,oT S x)else some (pev S x,false,S)
 | .assign x=>bif take then some (pev S x,hJ S x,oT S x)else some (pev S x,false,S)
 | .pick c a b=>match pev S c with
  | .v (.bool true)=>some (pev S a,false,S)
  | .v (.bool false)=>some (pev S b,false,S)
  |_=>none
 | .build t parts=>r (qK P t (parts.toList.map fun(i,x)=>(i,pev S x)))
 | .nilCheck x=>match pev S x with
  | .ptr id off=>some (.ptr id off,false,S)
  | .pin es i off=>some (.pin es i off,false,S)
  |_=>none
 | .binOp op t x y _=>r (pA P op t x y (pev S x) (pev S y))
 | .unOp op _ x=>r (pun P op (pev S x))
 | .convert s d x=>r (sE P s d (pev S x))
 | .makeFunc fn first captured=>match fn with
  | .func f=>some (.fn f (wks (first.toList.map (pev S))) (wks (captured.toList.map (pev S))),false,S)
  |_=>none
 | .fieldAddr s x f=>r (dF P s (pev S x) f)
 | .field t x f=>r (xY P t (pev S x) f)
 | .indexAddr t x i=>r (cH P t (pev S x) (pev S i))
 | .index t x i=>r (tF P t (pev S x) (pev S i))
 | .extract t i=>match pev S t with
  | .tup vs=>bif take&&Nat.beq i 0 then vs[0]?.map fun v=>(v,hJ S t,oT S t)else r vs[i]?
  |_=>none
 | .call c=>match c.callee with
  | .builtin .len=>match c.argTypes[0]?,c.args[0]? with
   |some t,some x=>r (aFT P t (pev S x))
   |_,_=>none
  | .builtin .min=>r (gZ P false c.argTypes o.type (c.args.toList.map (pev S)))
  | .builtin .max=>r (gZ P true c.argTypes o.type (c.args.toList.map (pev S)))
  |_=>none
 |_=>none
def jL(p:PSt)(S:PS)(o:Oper)(take:Bool):Option (PV×Bool×PSt):=
 match o.op with
 | .load t a=>match gD P p t (pev S a)with
  |some v=>bif take&&aFU v then some (v,(dO p (pev S a)).2,(dO p (pev S a)).1)else some (v,false,p)
  |none=>none
 | .slice t x lo hi mx=>(fT P p t (pev S x) (lo.map (pev S)) (hi.map (pev S)) (mx.map (pev S))).map fun r=>(r.1,r.2,p)
 |_=>none
def shape(a:Bool)(s:Nat)(x:PV):Bool:=
 match x with
 | .agg cs=>a&&Nat.beq cs.length s&&cs.all PV.pur
 |x=> !a&&Nat.beq s 1&&x.pur
def gW(a:Bool)(s:Nat):List PV→List (Nat×PV)→Option (List PV)
 |es,[]=>some es
 |es,(i,x)::rest=>bif Nat.blt i es.length&&shape a s x then gW a s (es.set i (wk x)) rest else none
def iO(x:PV):Nat→List PV
 |0=>[]
 |n+1=>x::iO x n
def dX(l:List PV):Nat→List PV
 |0=>[]
 |n+1=>l++dX l n
def cI(p:PSt)(S:PS)(o:Oper):Option (PV×Bool×PSt):=
 match o.op with
 | .alloc t=>match zeroCells P t with
  |some z=>some (.ptr p.next 0,false,p.new (.box (z.map fun c=>fl c false)))
  |none=>none
 | .box _ x=>bif (pev S x).cells.all PV.one then some (.ptr p.next 0,false,p.new (.box ((pev S x).cells.map fun c=>fl c false)))else none
 | .buildSlice t len parts=>
  match P.underlying t with
  |some (.slice e)=>match jD P e,jA P e,zeroCells P e with
   |some s,some a,some z=>
    bif Nat.ble (len*s) 1000000&&Nat.beq z.length s&&Nat.ble 1 s&&(a||Nat.beq s 1)then
     match gW a s (iO (wk (bif a then .agg z else z.headD .und)) len) (parts.toList.map fun(i,x)=>(i,pev S x))with
     |some es=>some (cQ s es,true,p)
     |none=>none
    else none
   |_,_,_=>none
  |_=>none
 | .makeSlice t l c=>
  match P.underlying t,pev S l,pev S c with
  |some (.slice e),.v (.int .i64 n),.v (.int .i64 k)=>match P.info? e,jA P e with
   |some info,some a=>match info.zero with
    |some z=>
     bif decide (0≤n)&&decide (n≤k)&&decide (k*(info.bytes:Int)≤1073741824)&&decide (k≤1073741824)&&z.cells.toList.all aB&&Nat.beq z.cells.size info.size&&Nat.ble 1 info.size&&(a||Nat.beq info.size 1)then
      bif decide (n=0)then some (.sl info.size [],true,p)
      else bif decide (n=k)then some (.rs p.next 0 n.toNat,false,p.new (.row info.size a (dX (wks (ofVs z.cells.toList)) n.toNat)))
      else none
     else none
    |none=>none
   |_,_=>none
  |_,_,_=>none
 |_=>none
def jK(p:PSt)(t:TypeId)(a x:PV)(own:Bool):Option PSt:=
 match a with
 | .ptr id off=>match p.get id,jD P t with
  |some (.box cs),some n=>bif Nat.beq x.cells.length n&&Nat.ble (off+n) cs.length&&x.cells.all PV.one then
        some (p.upd id (.box (cs.take off++x.cells.map (fun c=>fl c own)++cs.drop (off+n))))else none
  |some (.row z a cs),some n=>bif Nat.beq x.cells.length n&&Nat.ble (off+n) cs.length&&x.cells.all PV.one then
        some (p.upd id (.row z a (cs.take off++wks x.cells++cs.drop (off+n))))else none
  |_,_=>none
 |_=>none
def nA(z:Nat)(u:TypeDesc)(x:PV):Option (List PV):=
 match u with
 | .slice _=>lK z x
 | .string=>match x with
  | .str s=>bif Nat.beq z 1 then some (s.map fun b=> .v (.int .u8 b.toNat))else none
  |_=>none
 |_=>none
def nE(S:PS)(c:Call)(s x:Operand):Option (PV×Bool×PS):=
 match c.argTypes.toList with
 |[t,t1]=>
  match P.underlying t,P.underlying t1 with
  |some (.slice e),some u=>
   match P.info? e with
   |some info=>match lK info.size (pev S s),nA info.size u (pev S x),info.zero with
    |some es,some xs,some z=>
     bif Nat.ble 1 info.size&&Nat.ble 1 info.bytes&&Nat.beq z.cells.size info.size then
      match xs with
      |[]=>some (pev S s,hJ S s,oT S s)
      |_=>bif hJ S s&&Nat.ble ((es.length+xs.length)*info.bytes) 1073741824 then some (cQ info.size (es++xs),true,oT S s)else none
     else none
    |_,_,_=>none
   |none=>none
  |_,_=>none
 |_=>none
def isE:PV→Bool
 | .sl _ []=>true
 | .tup (.sl _ []::_)=>true
 |_=>false
abbrev eH:=Nat→List (PV×Bool)→PSt→Option (PV×Bool×PSt)
def iU(take:Bool):PS→List Operand→List (PV×Bool)×PS
 |S,[]=>([],S)
 |S,x::xs=>((wk (pev S x),take&&hJ S x&& !isE (pev S x))::(iU take (bif take then oT S x else S) xs).1,(iU take (bif take then oT S x else S) xs).2)
def nH:List PV→List (PV×Bool)
 |[]=>[]
 |x::xs=>(wk x,false)::nH xs
def lA(take:Bool)(S:PS)(c:Call):Option (Nat×List (PV×Bool)):=
 match c.callee with
 | .value f=>match pev S f with
  | .fn g first captured=>some (g,nH first++((iU take S c.args.toList).1++nH captured))
  |_=>none
 |_=>none
def peff(call:eH)(take:Bool)(p:PSt)(S:PS)(o:Oper):Option (PV×Bool×PS×PSt):=
 match o.op with
 | .store t a x=>(jK P p t (pev S a) (pev S x) (hJ S x)).map fun p'=>(.und,false,oT S x,p')
 | .call c=>match c.callee with
  | .builtin .append=>match c.args.toList with
   |[s,x]=>(nE P S c s x).map fun r=>(r.1,r.2.1,r.2.2,p)
   |_=>none
  |_=>match lA take S c with
   |some (g,args)=>(call g args p).map fun r=>(r.1,r.2.1,(iU take S c.args.toList).2,r.2.2)
   |none=>none
 |_=>none
inductive aER where
 |op (i:Nat) (take:Bool)
 |app (a i s:Nat)
 |freeze (t:Nat)
def gC(ops:Array Oper)(S:PS)(o:Oper):Option Bool:=
 match o.guard with
 |none=>some true
 |some (j,want)=>
  match(ops[j]?.bind (·.dst)).map fun d=>(S.at d).1 with
  |some (.v (.bool b))=>some (b==want)
  |some (.tup [])=>some false
  |_=>none
def keeps(S:PS):List Nat→PS
 |[]=> .none
 |t::ts=>(keeps S ts).set t (S.at t)
def lL(z:Nat):Nat→List PV→List PV
 |0,_=>[]
 |n+1,cs=> .agg (cs.take z)::lL z n (cs.drop z)
def frz(p:PSt)(x:PV×Bool):Option ((PV×Bool)×PSt):=
 match x with
 |(.rs id off len,_)=>match p.get id with
  |some (.row z a cs)=>
   bif Nat.ble (off+len*z) cs.length&&Nat.ble 1 z&&(a||Nat.beq z 1)&&cs.all PV.pur then
    some ((cQ z (bif a then lL z len ((cs.drop off).take (len*z))else(cs.drop off).take (len*z)),false),p.upd id .gone)else none
  |_=>none
 |y=>some (y,p)
def fA(p:PSt)(S:PS)(t:Nat):Option (PS×PSt):=match frz p (S.at t)with|some r=>some (S.set t r.1,r.2)|none=>none
def eR:List PV→Option (List UInt8)
 |[]=>some []
 | .v (.int .u8 n)::r=>(eR r).map (UInt8.ofNat n.toNat:: ·)
 |_=>none
def tG(s d:TypeId)(v:PV):Option PV:=
 match P.underlying s,P.underlying d with
 |some (.slice e),some .string=>match P.underlying e with
  |some (.int .u8)=>match lK 1 v with
   |some es=>(eR es).map .str
   |none=>none
  |_=>none
 |_,_=>none
def xV(sq take:Bool)(S:PS)(o:Oper):Option (PV×Bool×PS):=
 match bK P take S o with
 |some r=>some r
 |none=>bif sq then(match o.op with
  | .convert s d x=>(tG P s d (pev S x)).map fun v=>(v,false,S)
  |_=>none)else none
def pop(call:eH)(sq:Bool)(o:Oper)(take:Bool)(S:PS)(p:PSt):Option (PV×Bool×PS×PSt):=
 match aP o with
 | .pure=>(xV P sq take S o).map fun r=>(r.1,r.2.1,r.2.2,p)
 | .read=>(jL P p S o take).map fun r=>(r.1,r.2.1,S,r.2.2)
 | .alloc=>(cI P p S o).map fun r=>(r.1,r.2.1,S,r.2.2)
 | .eff=>peff P call take p S o
def isT(t:Nat):Operand→Bool
 | .tmp u=>Nat.beq t u
 |_=>false
def pappV(ts:List TypeId)(t1 t2:TypeId)(s:PV)(own:Bool)(zz n x:PV):Option PV:=
 match ts with
 |[t,tz]=>match P.underlying t,P.underlying tz with
  |some (.slice e),some u=>match P.info? e,jA P e with
   |some info,some ag=>match lK info.size s,nA info.size u zz,info.zero,n with
    |some es,some [_],some zv,.v (.int _ k)=>
     bif Nat.ble 1 info.size&&Nat.ble 1 info.bytes&&Nat.beq zv.cells.size info.size&&own&&Nat.ble ((es.length+1)*info.bytes) 1073741824&&Nat.beq t1 t&&Nat.beq t2 e&&decide (k=(es.length:Int))&&shape ag info.size x then
      some (.sl info.size (es++ [wk x]))else none
    |_,_,_,_=>none
   |_,_=>none
  |_,_=>none
 |_=>none
def pinL:PV→PV
 | .sl _ es=> .pin es (es.length-1) 0
 |_=> .und
def aFc(S:PS)(oA oI oS:Oper):Option PS:=
 match oA.op,oA.dst,oI.op,oI.dst,oS.op,oS.dst with
 | .call c,some a,.indexAddr t1 (.tmp a') n,some b,.store t2 (.tmp b') x,none=>
  match c.callee,c.args.toList with
  | .builtin .append,[s,zz]=>
   bif Nat.beq a a'&&Nat.beq b b'&& !Nat.beq a b&& !isT a n&& !isT a x&& !isT b x&&oA.guard.isNone&&oI.guard.isNone&&oS.guard.isNone then
    (pappV P c.argTypes.toList t1 t2 (pev S s) (hJ S s) (pev S zz) (pev S n) (pev S x)).map fun v=>((oT S s).put (some a) v true).put (some b) (pinL v) false
   else none
  |_,_=>none
 |_,_,_,_,_,_=>none
def aAE(call:eH)(ops:Array Oper):List aER→PS→PSt→Option (PS×PSt)
 |[],S,p=>some (S,p)
 | .app a i s::rest,S,p=>
  match ops[a]?,ops[i]?,ops[s]? with
  |some oA,some oI,some oS=>match aFc P S oA oI oS with
   |some S'=>aAE call ops rest S' p
   |none=>none
  |_,_,_=>none
 | .freeze t::rest,S,p=>match fA p S t with
  |some (S',p')=>aAE call ops rest S' p'
  |none=>none
 | .op i take::rest,S,p=>
  match ops[i]? with
  |none=>none
  |some o=>match gC ops S o with
   |some true=>match pop P call true o take S p with
    |some (v,own,S',p')=>aAE call ops rest (S'.put o.dst v own) p'
    |none=>none
   |some false=>aAE call ops rest (S.put o.dst (.tup []) false) p
   |none=>none
structure fR where
 i:Nat
 o:Oper
 a:PV
 v:PV
 stale:Bool
mutual
def xQ:PV→PV→Bool
 | .v x,.v y=>dE x y
 | .str a,.str b=>a==b
 | .agg xs,.agg ys=>xP xs ys
 |_,_=>false
def xP:List PV→List PV→Bool
 |[],[]=>true
 |x::xs,y::ys=>xQ x y&&xP xs ys
 |_,_=>false
end
def aid(a:PV):Option Nat:=match a with| .ptr id _=>some id|_=>none
def vid(v:PV):Option Nat:=match v with| .ptr id _=>some id| .rs id _ _=>some id|_=>none
def cid(o:Oper)(a v:PV):Option Nat:=match o.op with| .load _ _=>aid a|_=>vid v
def clean(p:PSt)(x:Option Nat):Bool:=match x with|some id=> !p.wr.contains id|none=>false
def kS(p:PSt)(r:fR):Bool:=
 !r.stale||(clean p (cid r.o r.a r.v)||(match r.o.op with
  | .load t _=>(toV r.v).isSome&&(match gD P p t r.a with|some v=>xQ v r.v|none=>false)
  |_=>false))
def fI(o:Oper)(S:PS):Bool:=
 match o.op with
 | .load _ a=>match pev S a with| .ptr _ _=>true|_=>false
 | .alloc _| .box _ _| .makeSlice _ _ _=>true
 |_=>false
def jU(o:Oper)(S:PS):PV:=
 match o.op with
 | .load _ a=>pev S a
 |_=> .und
def fU(o:Oper):Bool:=
 match o.op with
 | .makeSlice _ _ _=>true
 |_=>false
def iD(o:Oper):Bool:=
 match o.op with
 | .call c=>match c.callee with| .builtin .append=>true|_=>false
 |_=>false
def gH(call:eH)(ops:Array Oper)(ms:List Nat):List aER→List fR→PS→PSt→Option (PS×PSt)
 |[],pend,S,p=>bif pend.all (kS P p)then some (S,p)else none
 | .app a i s::rest,pend,S,p=>
  match ops[a]?,ops[i]?,ops[s]? with
  |some oA,some oI,some oS=>match aFc P S oA oI oS with
   |some S'=>bif pend.all (kS P p)&&(pend.filter fun r=> !bit (ms.getD a 0) r.i).all (fun r=> !fU r.o)then
          gH call ops ms rest (((pend.filter fun r=> !bit (ms.getD a 0) r.i).map fun r=>bif !fU r.o then r else{r with stale:=true}).filter fun r=> !bit (ms.getD s 0) r.i) S' p
    else none
   |none=>none
  |_,_,_=>none
 | .freeze t::rest,pend,S,p=>match fA p S t with
  |some (S',p')=>gH call ops ms rest pend S' p'
  |none=>none
 | .op i take::rest,pend,S,p=>
  match ops[i]? with
  |none=>none
  |some o=>match gC ops S o with
   |some true=>match pop P call false o take S p with
    |some (v,own,S',p')=>
     bif gK o then
      bif pend.all (kS P p)then
       gH call ops ms rest ((pend.filter fun r=> !bit (ms.getD i 0) r.i).map fun r=>bif iD o&& !fU r.o then r else{r with stale:=true}) (S'.put o.dst v own) p'
      else none
     else gH call ops ms rest (bif fI o S then⟨i,o,jU o S,v,false⟩::pend else pend) (S'.put o.dst v own) p'
    |none=>none
   |some false=>gH call ops ms rest pend (S.put o.dst (.tup []) false) p
   |none=>none
inductive PC where
 |skip
 |label (l:Nat)
 |region (id:Nat) (ops:Array Oper) (draw:Bool) (ms:List Nat) (sc:List aER)
 |seq (a b:PC)
 |cond (c:Operand) (a b:PC)
 |block (id:Nat) (c:PC)
 |loop (c:PC)
 |exit (id:Nat)
 |ret
 |scope (c:PC)
 |other (c:Code)
 |drop (ts:List Nat) (c:PC)
 |ice (t:Nat) (c:PC)
def bZ:PC→Code
 | .skip=> .skip
 | .label l=> .label l
 | .region id ops draw _ _=> .region id ops draw
 | .seq a b=> .seq (bZ a) (bZ b)
 | .cond c a b=> .cond c (bZ a) (bZ b)
 | .block id c=> .block id (bZ c)
 | .loop c=> .loop (bZ c)
 | .exit id=> .exit id
 | .ret=> .ret
 | .scope c=> .scope (bZ c)
 | .other c=>c
 | .drop _ c=>bZ c
 | .ice _ c=>bZ c
def vO(body:PS→PSt→Option (Fl×PS×PSt)):Nat→PS→PSt→Option (Fl×PS×PSt)
 |0,_,_=>none
 |n+1,S,p=>match body S p with
  |some (.normal,S',p')=>vO body n S' p'
  |r=>r
def cln(p:PSt):PSt:={p with wr:=[]}
def dty(p p':PSt):PSt:={p' with wr:=p'.wr.foldr ins p.wr}
def st0(p:PSt):PSt:={p with dirty:=[],wr:=[]}
def aA0(ops:Array Oper)(S:PS)(p:PSt):Bool:=
 match twin ops with
 |none=>true
 |some (.tmp s,.tmp t)=>match(S.at s).1,(S.at t).1 with
  | .pin _ _ _,.ptr id _=>match p.get id with
   |some (.box _)=>true
   |_=>false
  |_,_=>false
 |_=>false
def fitP(ops:Array Oper):Option (PS×PSt)→Option (PS×PSt)
 |some r=>bif aA0 ops r.1 r.2 then some r else none
 |none=>none
def cM(call:eH)(L:Nat):PC→PS→PSt→Option (Fl×PS×PSt)
 | .skip,S,p=>some (.normal,S,p)
 | .label _,S,p=>some (.normal,S,p)
 | .region _ ops draw ms sc,S,p=>
  (bif draw then(fitP ops (gH P call ops ms sc [] S (cln p))).map (fun r=>(r.1,dty p r.2))else aAE P call ops sc S p).map fun r=>(.normal,r.1,r.2)
 | .seq a b,S,p=>match cM call L a S p with
  |some (.normal,S',p')=>cM call L b S' p'
  |r=>r
 | .cond c a b,S,p=>match pev S c with
  | .v (.bool true)=>cM call L a S p
  | .v (.bool false)=>cM call L b S p
  |_=>none
 | .block id c,S,p=>match cM call L c S p with
  |some (.exit n,S',p')=>bif Nat.beq n id then some (.normal,S',p')else some (.exit n,S',p')
  |r=>r
 | .loop c,S,p=>vO (fun S p=>cM call L c S p) L S p
 | .exit id,S,p=>some (.exit id,S,p)
 | .ret,S,p=>some (.ret,S,p)
 | .scope c,S,p=>cM call L c S p
 | .other _,_,_=>none
 | .drop ts c,S,p=>cM call L c (keeps S ts) p
 | .ice t c,S,p=>match fA p S t with
  |some (S',p')=>cM call L c S' p'
  |none=>none
def kZ(S:PS)(p:PSt):ResultVar→Option (PV×Bool)
 | .tmp t=>some (S.at t)
 | .cell a t=>(gD P p t (S.at a).1).map fun v=>(v,false)
def cP(S:PS)(p:PSt):List ResultVar→Option (List (PV×Bool))
 |[]=>some []
 |r::rs=>match kZ P S p r,cP S p rs with
  |some v,some vs=>some (v::vs)
  |_,_=>none
def isSlN:PV→Bool
 | .sl _ _| .emp| .nil=>true
 |_=>false
def bF:List (PV×Bool)→PV×Bool
 |[v]=>(wk v.1,(v.2||gJ v.1)&& !isE v.1)
 |v::vs=>(.tup (wks ((v::vs).map (·.1))),(v.2||gJ v.1)&& !isE v.1&&isSlN v.1)
 |[]=>(.tup [],false)
def vZ:List (PV×Bool)→Nat→PS→PS
 |[],_,S=>S
 |v::vs,i,S=>vZ vs (i+1) (S.set i v)
def back(q:Tr lP)(id:Nat)(m:Tr lP):Tr lP:=match q.get id with|some o=>m.set id o|none=>m
def oV(n:Nat)(q:Tr lP)(id:Nat):Bool:=match q.get id with|some o=>mO n o|none=>false
def settle(p:PSt)(r:PV)(p':PSt):PSt:=
 bif below p.next r&&(p'.dirty.filter fun id=>Nat.blt id p.next).all (oV p.next p'.mem)then
  ⟨(p'.dirty.filter fun id=>Nat.blt id p.next).foldr (back p'.mem) p.mem,p.next,(p'.dirty.filter fun id=>Nat.blt id p.next).foldr ins p.dirty,(p'.wr.filter fun id=>Nat.blt id p.next).foldr ins p.wr⟩
 else⟨p'.mem,p'.next,(p'.dirty.filter fun id=>Nat.blt id p.next).foldr ins p.dirty,(p'.wr.filter fun id=>Nat.blt id p.next).foldr ins p.wr⟩
abbrev PTab:=Nat→Option (PC×List ResultVar)
end
end Go.PI
