import Derived.Test.YtgddcoodncbkoaaGreatDoorKa
set_option linter.unusedVariables false
set_option linter.unusedSimpArgs false
set_option linter.constructorNameAsVariable false
set_option linter.defProp false
namespace Go.PI
open Go.AI
inductive PV where
 |v (x:Value)
 |str (s:List UInt8)
 |agg (cs:List PV)
 |tup (vs:List PV)
 |nil
 |emp
 |sl (z:Nat) (es:List PV)
 |pin (es:List PV) (i off:Nat)
 |ptr (id off:Nat)
 |rs (id off len:Nat)
 |mp (id:Nat)
 |fn (f:Nat) (first captured:List PV)
 |und
 deriving Inhabited
def PV.cells:PV->List PV
 | .agg cs=>cs
 |x=>[x]
def PV.one:PV->Bool
 | .agg _| .tup _| .und=>false
 |_=>true
def PV.pur:PV->Bool
 | .v _| .str _| .nil| .emp| .sl _ _=>true
 |_=>false
def eD(z:Nat):List PV->PV
 |[]=> .emp
 |e::es=> .sl z (e::es)
mutual
def A3:Value->PV
 | .string s=> .str s.data.toList
 | .slice none _ _=> .nil
 | .agg ⟨cs⟩=> .agg (ofVs cs)
 | .tuple ⟨cs⟩=> .tup (ofVs cs)
 |x=> .v x
def ofVs:List Value->List PV
 |[]=>[]
 |x::xs=>A3 x::ofVs xs
end
mutual
def wk:PV->PV
 | .nil=> .emp
 | .sl _ []=> .emp
 | .agg cs=> .agg (wks cs)
 | .tup cs=> .tup (wks cs)
 |x=>x
def wks:List PV->List PV
 |[]=>[]
 |x::xs=>wk x::wks xs
end
mutual
def below(n:Nat):PV->Bool
 | .agg cs=>jN n cs
 | .tup cs=>jN n cs
 | .ptr id _=>Nat.blt id n
 | .rs id _ _=>Nat.blt id n
 | .mp id=>Nat.blt id n
 | .fn _ a b=>jN n a&&jN n b
 |_=>true
def jN(n:Nat):List PV->Bool
 |[]=>true
 |x::xs=>below n x&&jN n xs
end
inductive kN where
 |box (cs:List (PV×Bool))
 |row (z:Nat) (a:Bool) (cs:List PV)
 |gone
 |map (es:List (PV×PV))
structure PSt where
 mem:Tr kN
 next:Nat
 dirty:List Nat
 wr:List Nat:=[]
def PSt.get(p:PSt)(id:Nat):Option kN:=bif Nat.blt id p.next then p.mem.get id else none
def Gg(id:Nat)(l:List Nat):List Nat:=bif l.contains id then l else id::l
def PSt.upd(p:PSt)(id:Nat)(o:kN):PSt:={p with mem:=p.mem.set id o,dirty:=Gg id p.dirty,wr:=Gg id p.wr}
def PSt.mark(p:PSt)(id:Nat)(o:kN):PSt:={p with mem:=p.mem.set id o,dirty:=Gg id p.dirty}
def PSt.new(p:PSt)(o:kN):PSt:={p with mem:=p.mem.set p.next o,next:=p.next+1}
def sL(n:Nat):kN->Bool
 | .box cs=>cs.all λc=>below n c.1
 | .row _ _ cs=>jN n cs
 | .gone=>true
 | .map es=>es.all λe=>below n e.1&&below n e.2
section
variable(P:Program)
def i64(n:Int):PV:= .v (.int .i64 n)
def pb(b:Bool):PV:= .v (.bool b)
def qZ(t:TypeId)(cs:List PV)(off:Nat):Option PV:=
 match jU P t with
 |some true=>match iE P t with
  |some n=>bif Nat.beq ((cs.drop off).take n).length n then some (.agg ((cs.drop off).take n))else none
  |none=>none
 |some false=>cs[off]?
 |none=>none
def DW(t:TypeId)(v:PV)(f:Nat):Option PV:=
 match P.underlying t with
 |some (.struct fs)=>match fs[f]? with
  |some fd=>match v with
   | .agg cs=>qZ P fd.type cs fd.offset
   |_=>none
  |none=>none
 |_=>none
def iN(s:TypeId)(v:PV)(f:Nat):Option PV:=
 match P.underlying s with
 |some (.struct fs)=>match fs[f]? with
  |some fd=>match iE P fd.type with
   |some n=>bif Nat.beq n 0 then none else match v with
    | .ptr id off=>some (.ptr id (off+fd.offset))
    | .pin es i off=>some (.pin es i (off+fd.offset))
    |_=>none
   |none=>none
  |none=>none
 |_=>none
def oW(z:Nat):PV->Option (List PV)
 | .emp=>some []
 | .nil=>some []
 | .sl z' es=>bif Nat.beq z z' then some es else none
 |_=>none
def gF(t:TypeId)(v i:PV):Option PV:=
 match i with
 | .v (.int _ n)=>
  match P.underlying t with
  |some (.slice e)=>match iE P e with
   |some z=>match v with
    | .sl z' es=>bif Nat.beq z z'&&dO n es.length then some (.pin es n.toNat 0)else none
    | .rs id off len=>bif dO n len then some (.ptr id (off+n.toNat*z))else none
    |_=>none
   |none=>none
  |some (.array len e)=>match iE P e with
   |some z=>match v with
    | .ptr id off=>bif dO n len then some (.ptr id (off+n.toNat*z))else none
    | .pin es j off=>bif dO n len then some (.pin es j (off+n.toNat*z))else none
    |_=>none
   |none=>none
  |_=>none
 |_=>none
def pY:PV->Option Value
 | .v x=>bif bQ x then some x else none
 | .str s=>some (.string ⟨s.toArray⟩)
 |_=>none
def Rg:List PV->Option (List Value)
 |[]=>some []
 |x::xs=>match pY x,Rg xs with
  |some a,some l=>some (a::l)
  |_,_=>none
def aCP:PV->Option Value
 | .agg cs=>(Rg cs).map λl=> .agg l.toArray
 |x=>pY x
def Bd(t:TypeId)(v i:PV):Option PV:=
 match P.underlying t with
 |some .string=>match pY v,pY i with
  |some a,some b=>(dG P (Instr.index t a b)).map A3
  |_,_=>none
 |some (.array len e)=>match i,v with
  | .v (.int _ n),.agg cs=>match iE P e with
   |some z=>bif dO n len then qZ P e cs (n.toNat*z)else none
   |none=>none
  |_,_=>none
 |_=>none
def a0E(op:BinOp):PV->Option PV
 | .sl _ _=>match op with
  | .eql=>some (pb false)
  | .neq=>some (pb true)
  |_=>none
 |_=>none
def lB(op:BinOp)(t:TypeId)(x y:Operand)(a b:PV):Option PV:=
 match aCP a,aCP b with
 |some u,some w=>(dG P (do eqGuard op t x y u w;binOp op t u w)).map A3
 |_,_=>match P.underlying t,b with
  |some (.slice _),.nil=>a0E op a
  |_,_=>none
def bDa(op:UnOp)(a:PV):Option PV:=
 match pY a with
 |some u=>(dG P (Op.unary op u)).map A3
 |none=>none
def wQ(s d:TypeId)(a:PV):Option PV:=
 match pY a with
 |some u=>(dG P (convert s d u)).map A3
 |none=>none
def nF:Option PV->Option (Option Int)
 |none=>some none
 |some (.v (.int _ n))=>some (some n)
 |_=>none
def RX:Option PV->Option (Option Value)
 |none=>some none
 |some x=>match pY x with
  |some v=>some (some v)
  |none=>none
def lA(p:PSt)(t:TypeId)(v:PV)(lo hi mx:Option PV):Option (PV×Bool):=
 match P.underlying t with
 |some .string=>match v,RX lo,RX hi,mx with
  | .str s,some l,some h,none=>(dG P (Instr.sliceAt t (.string ⟨s.toArray⟩) l h none)).map λw=>(A3 w,false)
  |_,_,_,_=>none
 |some (.slice e)=>match iE P e,nF lo,nF hi,nF mx with
  |some z,some l,some h,some m=>match v,m with
   | .rs id off len,none=>match p.get id with
    |some (.row z' _ _)=>bif Nat.beq z z'&&decide (0<=l.getD 0)&&decide (l.getD 0<h.getD (len:Int))&&decide (h.getD (len:Int)<=(len:Int))then
            some (.rs id (off+(l.getD 0).toNat*z) ((h.getD (len:Int)).toNat-(l.getD 0).toNat),false)else none
    |_=>none
   | .sl z' es,none=>bif Nat.beq z z'&&decide (0<=l.getD 0)&&decide (l.getD 0<=h.getD (es.length:Int))&&decide (h.getD (es.length:Int)<=(es.length:Int))then
            some (eD z ((es.take (h.getD (es.length:Int)).toNat).drop (l.getD 0).toNat),false)else none
   | .emp,none=>bif decide (0<=l.getD 0)&&decide (l.getD 0<=h.getD 0)&&decide (h.getD 0<=0)then some (.emp,false)else none
   | .sl z' es,some m=>bif Nat.beq z z'&&decide (0<=l.getD 0)&&decide (l.getD 0<h.getD (es.length:Int))&&decide (h.getD (es.length:Int)<=(es.length:Int))&&h.isSome&&decide (h.getD (es.length:Int)=m)then
            some (eD z ((es.take (h.getD (es.length:Int)).toNat).drop (l.getD 0).toNat),true)else bif List.isEmpty es&&(decide (0<=l.getD 0)&&decide (l.getD 0<=h.getD 0)&&decide (h.getD 0<=0)&&h.isSome&&decide (m=0))then some (.emp,true)else none
   | .nil,none=>bif decide (0<=l.getD 0)&&decide (l.getD 0<=h.getD 0)&&decide (h.getD 0<=0)then some (.emp,false)else none
   | .emp,some m=>bif decide (0<=l.getD 0)&&decide (l.getD 0<=h.getD 0)&&decide (h.getD 0<=0)&&h.isSome&&decide (m=0)then some (.emp,true)else none
   | .nil,some m=>bif decide (0<=l.getD 0)&&decide (l.getD 0<=h.getD 0)&&decide (h.getD 0<=0)&&h.isSome&&decide (m=0)then some (.emp,true)else none
   |_,_=>none
  |_,_,_,_=>none
 |_=>none
def Ba:List PV->Nat->List PV->List PV
 |cs,_,[]=>cs
 |cs,off,x::xs=>Ba (cs.set off x) (off+1) xs
def zO(place:Nat->Option (Nat×Nat))(cs:List PV):List (Nat×PV)->Option (List PV)
 |[]=>some cs
 |(i,x)::rest=>match place i with
  |none=>none
  |some (off,size)=>bif Nat.beq x.cells.length size&&Nat.ble (off+size) cs.length&&x.cells.all PV.one then zO place (Ba cs off x.cells) rest else none
def zeroCells(t:TypeId):Option (List PV):=
 match cN P (zeroValue t)with
 |some z=>bif z.cells.toList.all bQ then some (ofVs z.cells.toList)else none
 |none=>none
def xV(t:TypeId)(parts:List (Nat×PV)):Option PV:=
 match zeroCells P t with
 |some z=>match P.underlying t with
  |some (.struct fs)=>match cN P (fs.mapM λf=>do pure (f.offset,<-Go.sizeOf f.type))with
   |some pl=>(zO (λi=>pl[i]?) z parts).map .agg
   |none=>none
  |some (.array _ e)=>match iE P e with
   |some s=>(zO (λi=>some (i*s,s)) z parts).map .agg
   |none=>none
  |_=>none
 |none=>none
def CR(t:TypeId)(v:PV):Option PV:=
 match P.underlying t with
 |some (.slice _)=>match v with
  | .sl _ es=>some (i64 es.length)
  | .emp=>some (i64 0)
  | .nil=>some (i64 0)
  | .rs _ _ n=>some (i64 n)
  |_=>none
 |some .string=>match v with
  | .str s=>some (i64 s.length)
  |_=>none
 |some (.array n _)=>some (i64 n)
 |_=>none
def Rh:List PV->Option (List Value)
 |[]=>some []
 |x::xs=>match pY x,Rh xs with
  |some a,some l=>some (a::l)
  |_,_=>none
def nZ(mx:Bool)(ts:Array TypeId)(ty:TypeId)(as:List PV):Option PV:=
 match Rh as with
 |some l=>(dG P (bif mx then Builtin.max_ ts ty l.toArray else Builtin.min_ ts ty l.toArray)).map A3
 |none=>none
structure PS where
 get:Nat->PV×Bool
def PS.none:PS:=⟨λ_=>(.und,false)⟩
def PS.set(S:PS)(t:Nat)(x:PV×Bool):PS:=⟨λk=>bif Nat.beq k t then x else S.get k⟩
def PS.at(S:PS)(i:Nat):PV×Bool:=S.get i
def fl(x:PV)(own:Bool):PV×Bool:=match x with| .nil=>(.emp,true)|x=>(x,own)
def PS.put(S:PS)(d:Option Tmp)(x:PV)(own:Bool):PS:=
 match d with
 |some d=>S.set d (x,own)
 |none=>S
def dE(S:PS):Operand->PV
 | .tmp t=>(S.at t).1
 | .const v=>A3 v
 | .global _=> .und
 | .func f=> .fn f [] []
def kS:PV->Bool
 | .nil=>true
 |_=>false
def iO(S:PS):Operand->Bool
 | .tmp t=>(S.at t).2||kS (S.at t).1
 | .const (.slice none _ _)=>true
 |_=>false
def mU(S:PS):Operand->PS
 | .tmp t=>S.set t ((S.at t).1,false)
 |_=>S
def jX(p:PSt)(t:TypeId):PV->Option PV
 | .pin es i off=>match es[i]? with
  |some e=>qZ P t e.cells off
  |none=>none
 | .ptr id off=>match p.get id with
  |some (.box cs)=>qZ P t (cs.map (·.1)) off
  |some (.row _ _ cs)=>qZ P t cs off
  |_=>none
 |_=>none
def gD(p:PSt):PV->PSt×Bool
 | .ptr id off=>match p.get id with
  |some (.box cs)=>match cs[off]? with
   |some (x,true)=>(p.mark id (.box (cs.set off (x,false))),true)
   |_=>(p,false)
  |_=>(p,false)
 |_=>(p,false)
def CS:PV->Bool
 | .sl _ _| .emp=>true
 |_=>false
def dZ(take:Bool)(S:PS)(o:Oper):Option (PV×Bool×PS):=
 let r (x:Option PV):Option (PV×Bool×PS):=x.map λv=>(v,false,S)
 match o.op with
 | .move x=>bif take then some (dE S x,iO S x,mU S x)else some (dE S x,false,S)
 | .assign x=>bif take then some (dE S x,iO S x,mU S x)else some (dE S x,false,S)
 | .pick c a b=>match dE S c with
  | .v (.bool true)=>some (dE S a,false,S)
  | .v (.bool false)=>some (dE S b,false,S)
  |_=>none
 | .build t parts=>r (xV P t (parts.toList.map λ(i,x)=>(i,dE S x)))
 | .nilCheck x=>match dE S x with
  | .ptr id off=>some (.ptr id off,false,S)
  | .pin es i off=>some (.pin es i off,false,S)
  |_=>none
 | .binOp op t x y _=>r (lB P op t x y (dE S x) (dE S y))
 | .unOp op _ x=>r (bDa P op (dE S x))
 | .convert s d x=>r (wQ P s d (dE S x))
 | .makeFunc fn first captured=>match fn with
  | .func f=>some (.fn f (wks (first.toList.map (dE S))) (wks (captured.toList.map (dE S))),false,S)
  |_=>none
 | .fieldAddr s x f=>r (iN P s (dE S x) f)
 | .field t x f=>r (DW P t (dE S x) f)
 | .indexAddr t x i=>r (gF P t (dE S x) (dE S i))
 | .index t x i=>r (Bd P t (dE S x) (dE S i))
 | .extract t i=>match dE S t with
  | .tup vs=>bif take&&Nat.beq i 0 then vs[0]?.map λv=>(v,iO S t,mU S t)else r vs[i]?
  |_=>none
 | .call c=>match c.callee with
  | .builtin .len=>match c.argTypes[0]?,c.args[0]? with
   |some t,some x=>r (CR P t (dE S x))
   |_,_=>none
  | .builtin .min=>r (nZ P false c.argTypes o.type (c.args.toList.map (dE S)))
  | .builtin .max=>r (nZ P true c.argTypes o.type (c.args.toList.map (dE S)))
  |_=>none
 |_=>none
def mT(p:PSt)(S:PS)(o:Oper)(take:Bool):Option (PV×Bool×PSt):=
 match o.op with
 | .load t a=>match jX P p t (dE S a)with
  |some v=>bif take&&CS v then some (v,(gD p (dE S a)).2,(gD p (dE S a)).1)else some (v,false,p)
  |none=>none
 | .slice t x lo hi mx=>(lA P p t (dE S x) (lo.map (dE S)) (hi.map (dE S)) (mx.map (dE S))).map λr=>(r.1,r.2,p)
 |_=>none
def shape(a:Bool)(s:Nat)(x:PV):Bool:=
 match x with
 | .agg cs=>a&&Nat.beq cs.length s&&cs.all PV.pur
 |x=> !a&&Nat.beq s 1&&x.pur
def oL(a:Bool)(s:Nat):List PV->List (Nat×PV)->Option (List PV)
 |es,[]=>some es
 |es,(i,x)::rest=>bif Nat.blt i es.length&&shape a s x then oL a s (es.set i (wk x)) rest else none
def nE(x:PV):Nat->List PV
 |0=>[]
 |n+1=>x::nE x n
def jD(l:List PV):Nat->List PV
 |0=>[]
 |n+1=>l++jD l n
def fH(p:PSt)(S:PS)(o:Oper):Option (PV×Bool×PSt):=
 match o.op with
 | .alloc t=>match zeroCells P t with
  |some z=>some (.ptr p.next 0,false,p.new (.box (z.map λc=>fl c false)))
  |none=>none
 | .box _ x=>bif (dE S x).cells.all PV.one then some (.ptr p.next 0,false,p.new (.box ((dE S x).cells.map λc=>fl c false)))else none
 | .buildSlice t len parts=>
  match P.underlying t with
  |some (.slice e)=>match iE P e,jU P e,zeroCells P e with
   |some s,some a,some z=>
    bif Nat.ble (len*s) 1000000&&Nat.beq z.length s&&Nat.ble 1 s&&(a||Nat.beq s 1)then
     match oL a s (nE (wk (bif a then .agg z else z.headD .und)) len) (parts.toList.map λ(i,x)=>(i,dE S x))with
     |some es=>some (eD s es,true,p)
     |none=>none
    else none
   |_,_,_=>none
  |_=>none
 | .makeSlice t l c=>
  match P.underlying t,dE S l,dE S c with
  |some (.slice e),.v (.int .i64 n),.v (.int .i64 k)=>match P.info? e,jU P e with
   |some info,some a=>match info.zero with
    |some z=>
     bif decide (0<=n)&&decide (n<=k)&&decide (k*(info.bytes:Int)<=1073741824)&&decide (k<=1073741824)&&z.cells.toList.all bQ&&Nat.beq z.cells.size info.size&&Nat.ble 1 info.size&&(a||Nat.beq info.size 1)then
      bif decide (n=0)then some (.sl info.size [],true,p)
      else bif decide (n=k)then some (.rs p.next 0 n.toNat,false,p.new (.row info.size a (jD (wks (ofVs z.cells.toList)) n.toNat)))
      else none
     else none
    |none=>none
   |_,_=>none
  |_,_,_=>none
 |_=>none
def oO(p:PSt)(t:TypeId)(a x:PV)(own:Bool):Option PSt:=
 match a with
 | .ptr id off=>match p.get id,iE P t with
  |some (.box cs),some n=>bif Nat.beq x.cells.length n&&Nat.ble (off+n) cs.length&&x.cells.all PV.one then
        some (p.upd id (.box (cs.take off++x.cells.map (λc=>fl c own)++cs.drop (off+n))))else none
  |some (.row z a cs),some n=>bif Nat.beq x.cells.length n&&Nat.ble (off+n) cs.length&&x.cells.all PV.one then
        some (p.upd id (.row z a (cs.take off++wks x.cells++cs.drop (off+n))))else none
  |_,_=>none
 |_=>none
def vD(z:Nat)(u:TypeDesc)(x:PV):Option (List PV):=
 match u with
 | .slice _=>oW z x
 | .string=>match x with
  | .str s=>bif Nat.beq z 1 then some (s.map λb=> .v (.int .u8 b.toNat))else none
  |_=>none
 |_=>none
def vE(S:PS)(c:Call)(s x:Operand):Option (PV×Bool×PS):=
 match c.argTypes.toList with
 |[t,t1]=>
  match P.underlying t,P.underlying t1 with
  |some (.slice e),some u=>
   match P.info? e with
   |some info=>match oW info.size (dE S s),vD info.size u (dE S x),info.zero with
    |some es,some xs,some z=>
     bif Nat.ble 1 info.size&&Nat.ble 1 info.bytes&&Nat.beq z.cells.size info.size then
      match xs with
      |[]=>some (dE S s,iO S s,mU S s)
      |_=>bif iO S s&&Nat.ble ((es.length+xs.length)*info.bytes) 1073741824 then some (eD info.size (es++xs),true,mU S s)else none
     else none
    |_,_,_=>none
   |none=>none
  |_,_=>none
 |_=>none
def Kw:PV->Bool
 | .sl _ []=>true
 | .tup (.sl _ []::_)=>true
 |_=>false
abbrev hY:=Nat->List (PV×Bool)->PSt->Option (PV×Bool×PSt)
def lT(take:Bool):PS->List Operand->List (PV×Bool)×PS
 |S,[]=>([],S)
 |S,x::xs=>((wk (dE S x),take&&iO S x&& !Kw (dE S x))::(lT take (bif take then mU S x else S) xs).1,(lT take (bif take then mU S x else S) xs).2)
def rC:List PV->List (PV×Bool)
 |[]=>[]
 |x::xs=>(wk x,false)::rC xs
def rW(take:Bool)(S:PS)(c:Call):Option (Nat×List (PV×Bool)):=
 match c.callee with
 | .value f=>match dE S f with
  | .fn g first captured=>some (g,rC first++((lT take S c.args.toList).1++rC captured))
  |_=>none
 |_=>none
def Gt(call:hY)(take:Bool)(p:PSt)(S:PS)(o:Oper):Option (PV×Bool×PS×PSt):=
 match o.op with
 | .store t a x=>(oO P p t (dE S a) (dE S x) (iO S x)).map λp'=>(.und,false,mU S x,p')
 | .call c=>match c.callee with
  | .builtin .append=>match c.args.toList with
   |[s,x]=>(vE P S c s x).map λr=>(r.1,r.2.1,r.2.2,p)
   |_=>none
  |_=>match rW take S c with
   |some (g,args)=>(call g args p).map λr=>(r.1,r.2.1,(lT take S c.args.toList).2,r.2.2)
   |none=>none
 |_=>none
inductive AX where
 |op (i:Nat) (take:Bool)
 |app (a i s:Nat)
 |freeze (t:Nat)
def mK(ops:Array Oper)(S:PS)(o:Oper):Option Bool:=
 match o.guard with
 |none=>some true
 |some (j,want)=>
  match(ops[j]?.bind (·.dst)).map λd=>(S.at d).1 with
  |some (.v (.bool b))=>some (b==want)
  |some (.tup [])=>some false
  |_=>none
def keeps(S:PS):List Nat->PS
 |[]=> .none
 |t::ts=>(keeps S ts).set t (S.at t)
def oY(z:Nat):Nat->List PV->List PV
 |0,_=>[]
 |n+1,cs=> .agg (cs.take z)::oY z n (cs.drop z)
def bGK(p:PSt)(x:PV×Bool):Option ((PV×Bool)×PSt):=
 match x with
 |(.rs id off len,_)=>match p.get id with
  |some (.row z a cs)=>
   bif Nat.ble (off+len*z) cs.length&&Nat.ble 1 z&&(a||Nat.beq z 1)&&cs.all PV.pur then
    some ((eD z (bif a then oY z len ((cs.drop off).take (len*z))else(cs.drop off).take (len*z)),false),p.upd id .gone)else none
  |_=>none
 |y=>some (y,p)
def jZ(p:PSt)(S:PS)(t:Nat):Option (PS×PSt):=match bGK p (S.at t)with|some r=>some (S.set t r.1,r.2)|none=>none
def jY:List PV->Option (List UInt8)
 |[]=>some []
 | .v (.int .u8 n)::r=>(jY r).map (UInt8.ofNat n.toNat:: ·)
 |_=>none
def Be(s d:TypeId)(v:PV):Option PV:=
 match P.underlying s,P.underlying d with
 |some (.slice e),some .string=>match P.underlying e with
  |some (.int .u8)=>match oW 1 v with
   |some es=>(jY es).map .str
   |none=>none
  |_=>none
 |_,_=>none
def DR(sq take:Bool)(S:PS)(o:Oper):Option (PV×Bool×PS):=
 match dZ P take S o with
 |some r=>some r
 |none=>bif sq then(match o.op with
  | .convert s d x=>(Be P s d (dE S x)).map λv=>(v,false,S)
  |_=>none)else none
def GV(call:hY)(sq:Bool)(o:Oper)(take:Bool)(S:PS)(p:PSt):Option (PV×Bool×PS×PSt):=
 match dD o with
 | .pure=>(DR P sq take S o).map λr=>(r.1,r.2.1,r.2.2,p)
 | .read=>(mT P p S o take).map λr=>(r.1,r.2.1,S,r.2.2)
 | .alloc=>(fH P p S o).map λr=>(r.1,r.2.1,S,r.2.2)
 | .eff=>Gt P call take p S o
def NH(t:Nat):Operand->Bool
 | .tmp u=>Nat.beq t u
 |_=>false
def Xn(ts:List TypeId)(t1 t2:TypeId)(s:PV)(own:Bool)(zz n x:PV):Option PV:=
 match ts with
 |[t,tz]=>match P.underlying t,P.underlying tz with
  |some (.slice e),some u=>match P.info? e,jU P e with
   |some info,some ag=>match oW info.size s,vD info.size u zz,info.zero,n with
    |some es,some [_],some zv,.v (.int _ k)=>
     bif Nat.ble 1 info.size&&Nat.ble 1 info.bytes&&Nat.beq zv.cells.size info.size&&own&&Nat.ble ((es.length+1)*info.bytes) 1073741824&&Nat.beq t1 t&&Nat.beq t2 e&&decide (k=(es.length:Int))&&shape ag info.size x then
      some (.sl info.size (es++ [wk x]))else none
    |_,_,_,_=>none
   |_,_=>none
  |_,_=>none
 |_=>none
def aBX:PV->PV
 | .sl _ es=> .pin es (es.length-1) 0
 |_=> .und
def GX(S:PS)(oA oI oS:Oper):Option PS:=
 match oA.op,oA.dst,oI.op,oI.dst,oS.op,oS.dst with
 | .call c,some a,.indexAddr t1 (.tmp a') n,some b,.store t2 (.tmp b') x,none=>
  match c.callee,c.args.toList with
  | .builtin .append,[s,zz]=>
   bif Nat.beq a a'&&Nat.beq b b'&& !Nat.beq a b&& !NH a n&& !NH a x&& !NH b x&&oA.guard.isNone&&oI.guard.isNone&&oS.guard.isNone then
    (Xn P c.argTypes.toList t1 t2 (dE S s) (iO S s) (dE S zz) (dE S n) (dE S x)).map λv=>((mU S s).put (some a) v true).put (some b) (aBX v) false
   else none
  |_,_=>none
 |_,_,_,_,_,_=>none
def wG(call:hY)(ops:Array Oper):List AX->PS->PSt->Option (PS×PSt)
 |[],S,p=>some (S,p)
 | .app a i s::rest,S,p=>
  match ops[a]?,ops[i]?,ops[s]? with
  |some oA,some oI,some oS=>match GX P S oA oI oS with
   |some S'=>wG call ops rest S' p
   |none=>none
  |_,_,_=>none
 | .freeze t::rest,S,p=>match jZ p S t with
  |some (S',p')=>wG call ops rest S' p'
  |none=>none
 | .op i take::rest,S,p=>
  match ops[i]? with
  |none=>none
  |some o=>match mK ops S o with
   |some true=>match GV P call true o take S p with
    |some (v,own,S',p')=>wG call ops rest (S'.put o.dst v own) p'
    |none=>none
   |some false=>wG call ops rest (S.put o.dst (.tup []) false) p
   |none=>none
structure jV where
 i:Nat
 o:Oper
 a:PV
 v:PV
 stale:Bool
mutual
def B7:PV->PV->Bool
 | .v x,.v y=>fX x y
 | .str a,.str b=>a==b
 | .agg xs,.agg ys=>DJ xs ys
 |_,_=>false
def DJ:List PV->List PV->Bool
 |[],[]=>true
 |x::xs,y::ys=>B7 x y&&DJ xs ys
 |_,_=>false
end
def a6h(a:PV):Option Nat:=match a with| .ptr id _=>some id|_=>none
def vid(v:PV):Option Nat:=match v with| .ptr id _=>some id| .rs id _ _=>some id|_=>none
def aM8(o:Oper)(a v:PV):Option Nat:=match o.op with| .load _ _=>a6h a|_=>vid v
def X3(p:PSt)(x:Option Nat):Bool:=match x with|some id=> !p.wr.contains id|none=>false
def qE(p:PSt)(r:jV):Bool:=
 !r.stale||(X3 p (aM8 r.o r.a r.v)||(match r.o.op with
  | .load t _=>(aCP r.v).isSome&&(match jX P p t r.a with|some v=>B7 v r.v|none=>false)
  |_=>false))
def kI(o:Oper)(S:PS):Bool:=
 match o.op with
 | .load _ a=>match dE S a with| .ptr _ _=>true|_=>false
 | .alloc _| .box _ _| .makeSlice _ _ _=>true
 |_=>false
def pC(o:Oper)(S:PS):PV:=
 match o.op with
 | .load _ a=>dE S a
 |_=> .und
def lD(o:Oper):Bool:=
 match o.op with
 | .makeSlice _ _ _=>true
 |_=>false
def oQ(o:Oper):Bool:=
 match o.op with
 | .call c=>match c.callee with| .builtin .append=>true|_=>false
 |_=>false
def kP(call:hY)(ops:Array Oper)(ms:List Nat):List AX->List jV->PS->PSt->Option (PS×PSt)
 |[],pend,S,p=>bif pend.all (qE P p)then some (S,p)else none
 | .app a i s::rest,pend,S,p=>
  match ops[a]?,ops[i]?,ops[s]? with
  |some oA,some oI,some oS=>match GX P S oA oI oS with
   |some S'=>bif pend.all (qE P p)&&(pend.filter λr=> !jE (ms.getD a 0) r.i).all (λr=> !lD r.o)then
          kP call ops ms rest (((pend.filter λr=> !jE (ms.getD a 0) r.i).map λr=>bif !lD r.o then r else{r with stale:=true}).filter λr=> !jE (ms.getD s 0) r.i) S' p
    else none
   |none=>none
  |_,_,_=>none
 | .freeze t::rest,pend,S,p=>match jZ p S t with
  |some (S',p')=>kP call ops ms rest pend S' p'
  |none=>none
 | .op i take::rest,pend,S,p=>
  match ops[i]? with
  |none=>none
  |some o=>match mK ops S o with
   |some true=>match GV P call false o take S p with
    |some (v,own,S',p')=>
     bif kT o then
      bif pend.all (qE P p)then
       kP call ops ms rest ((pend.filter λr=> !jE (ms.getD i 0) r.i).map λr=>bif oQ o&& !lD r.o then r else{r with stale:=true}) (S'.put o.dst v own) p'
      else none
     else kP call ops ms rest (bif kI o S then⟨i,o,pC o S,v,false⟩::pend else pend) (S'.put o.dst v own) p'
    |none=>none
   |some false=>kP call ops ms rest pend (S.put o.dst (.tup []) false) p
   |none=>none
inductive PC where
 |skip
 |label (l:Nat)
 |region (id:Nat) (ops:Array Oper) (draw:Bool) (ms:List Nat) (sc:List AX)
 |seq (a b:PC)
 |cond (c:Operand) (a b:PC)
 |block (id:Nat) (c:PC)
 |loop (c:PC)
 |exit (id:Nat)
 |ret
 |scope (c:PC)
 |other (c:Code)
 |drop (ts:List Nat) (c:PC)
 |ice (t:Nat) (c:PC)
def eU:PC->Code
 | .skip=> .skip
 | .label l=> .label l
 | .region id ops draw _ _=> .region id ops draw
 | .seq a b=> .seq (eU a) (eU b)
 | .cond c a b=> .cond c (eU a) (eU b)
 | .block id c=> .block id (eU c)
 | .loop c=> .loop (eU c)
 | .exit id=> .exit id
 | .ret=> .ret
 | .scope c=> .scope (eU c)
 | .other c=>c
 | .drop _ c=>eU c
 | .ice _ c=>eU c
def zW(body:PS->PSt->Option (Fl×PS×PSt)):Nat->PS->PSt->Option (Fl×PS×PSt)
 |0,_,_=>none
 |n+1,S,p=>match body S p with
  |some (.normal,S',p')=>zW body n S' p'
  |r=>r
def cln(p:PSt):PSt:={p with wr:=[]}
def dty(p p':PSt):PSt:={p' with wr:=p'.wr.foldr Gg p.wr}
def a59(p:PSt):PSt:={p with dirty:=[],wr:=[]}
def D4(ops:Array Oper)(S:PS)(p:PSt):Bool:=
 match IU ops with
 |none=>true
 |some (.tmp s,.tmp t)=>match(S.at s).1,(S.at t).1 with
  | .pin _ _ _,.ptr id _=>match p.get id with
   |some (.box _)=>true
   |_=>false
  |_,_=>false
 |_=>false
def aGe(ops:Array Oper):Option (PS×PSt)->Option (PS×PSt)
 |some r=>bif D4 ops r.1 r.2 then some r else none
 |none=>none
def fE(call:hY)(L:Nat):PC->PS->PSt->Option (Fl×PS×PSt)
 | .skip,S,p=>some (.normal,S,p)
 | .label _,S,p=>some (.normal,S,p)
 | .region _ ops draw ms sc,S,p=>
  (bif draw then(aGe ops (kP P call ops ms sc [] S (cln p))).map (λr=>(r.1,dty p r.2))else wG P call ops sc S p).map λr=>(.normal,r.1,r.2)
 | .seq a b,S,p=>match fE call L a S p with
  |some (.normal,S',p')=>fE call L b S' p'
  |r=>r
 | .cond c a b,S,p=>match dE S c with
  | .v (.bool true)=>fE call L a S p
  | .v (.bool false)=>fE call L b S p
  |_=>none
 | .block id c,S,p=>match fE call L c S p with
  |some (.exit n,S',p')=>bif Nat.beq n id then some (.normal,S',p')else some (.exit n,S',p')
  |r=>r
 | .loop c,S,p=>zW (λS p=>fE call L c S p) L S p
 | .exit id,S,p=>some (.exit id,S,p)
 | .ret,S,p=>some (.ret,S,p)
 | .scope c,S,p=>fE call L c S p
 | .other _,_,_=>none
 | .drop ts c,S,p=>fE call L c (keeps S ts) p
 | .ice t c,S,p=>match jZ p S t with
  |some (S',p')=>fE call L c S' p'
  |none=>none
def rV(S:PS)(p:PSt):ResultVar->Option (PV×Bool)
 | .tmp t=>some (S.at t)
 | .cell a t=>(jX P p t (S.at a).1).map λv=>(v,false)
def gT(S:PS)(p:PSt):List ResultVar->Option (List (PV×Bool))
 |[]=>some []
 |r::rs=>match rV P S p r,gT S p rs with
  |some v,some vs=>some (v::vs)
  |_,_=>none
def aFO:PV->Bool
 | .sl _ _| .emp| .nil=>true
 |_=>false
def eN:List (PV×Bool)->PV×Bool
 |[v]=>(wk v.1,(v.2||kS v.1)&& !Kw v.1)
 |v::vs=>(.tup (wks ((v::vs).map (·.1))),(v.2||kS v.1)&& !Kw v.1&&aFO v.1)
 |[]=>(.tup [],false)
def Am:List (PV×Bool)->Nat->PS->PS
 |[],_,S=>S
 |v::vs,i,S=>Am vs (i+1) (S.set i v)
def aHb(q:Tr kN)(id:Nat)(m:Tr kN):Tr kN:=match q.get id with|some o=>m.set id o|none=>m
def uO(n:Nat)(q:Tr kN)(id:Nat):Bool:=match q.get id with|some o=>sL n o|none=>false
def settle(p:PSt)(r:PV)(p':PSt):PSt:=
 bif below p.next r&&(p'.dirty.filter λid=>Nat.blt id p.next).all (uO p.next p'.mem)then
  ⟨(p'.dirty.filter λid=>Nat.blt id p.next).foldr (aHb p'.mem) p.mem,p.next,(p'.dirty.filter λid=>Nat.blt id p.next).foldr Gg p.dirty,(p'.wr.filter λid=>Nat.blt id p.next).foldr Gg p.wr⟩
 else⟨p'.mem,p'.next,(p'.dirty.filter λid=>Nat.blt id p.next).foldr Gg p.dirty,(p'.wr.filter λid=>Nat.blt id p.next).foldr Gg p.wr⟩
abbrev aJm:=Nat->Option (PC×List ResultVar)
end
end Go.PI
