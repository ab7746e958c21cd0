import Derived.Test.YtgfhobcfdppbdaaGreatDoorKa
open Option renaming some->aa,none->ad
open Bool renaming true->ae,false->ah
open Decidable renaming decide->aj
open Nat renaming beq->am,ble->an,blt->d8
open Go renaming TypeId->av,Operand->az
set_option linter.unusedVariables false
set_option linter.unusedSimpArgs false
set_option linter.constructorNameAsVariable false
set_option linter.defProp false
namespace Go.PI
open Go.AI
inductive PV where
 |v (x:Value)
 |str (s:List UInt8)
 |agg (cs:List PV)
 |tup (vs:List PV)
 |nil
 |emp
 |sl (z:Nat) (es:List PV)
 |pin (es:List PV) (i off:Nat)
 |ptr (id off:Nat)
 |rs (id off len:Nat)
 |mp (id:Nat)
 |fn (f:Nat) (first captured:List PV)
 |und
 deriving Inhabited
def PV.cells:PV->List PV
 | .agg cs=>cs
 |x=>[x]
def PV.one:PV->Bool
 | .agg _| .tup _| .und=>ah
 |_=>ae
def PV.pur:PV->Bool
 | .v _| .str _| .nil| .emp| .sl _ _=>ae
 |_=>ah
def eD(z:Nat):List PV->PV
 |[]=> .emp
 |e::es=> .sl z (e::es)
mutual
def Bz:Value->PV
 | .string s=> .str s.data.toList
 | .slice ad _ _=> .nil
 | .agg ⟨cs⟩=> .agg (ofVs cs)
 | .tuple ⟨cs⟩=> .tup (ofVs cs)
 |x=> .v x
def ofVs:List Value->List PV
 |[]=>[]
 |x::xs=>Bz x::ofVs xs
end
mutual
def wk:PV->PV
 | .nil=> .emp
 | .sl _ []=> .emp
 | .agg cs=> .agg (wks cs)
 | .tup cs=> .tup (wks cs)
 |x=>x
def wks:List PV->List PV
 |[]=>[]
 |x::xs=>wk x::wks xs
end
mutual
def below(n:Nat):PV->Bool
 | .agg cs=>jK n cs
 | .tup cs=>jK n cs
 | .ptr id _=>d8 id n
 | .rs id _ _=>d8 id n
 | .mp id=>d8 id n
 | .fn _ a b=>jK n a&&jK n b
 |_=>ae
def jK(n:Nat):List PV->Bool
 |[]=>ae
 |x::xs=>below n x&&jK n xs
end
inductive kL where
 |box (cs:List (PV×Bool))
 |row (z:Nat) (a:Bool) (cs:List PV)
 |gone
 |map (es:List (PV×PV))
structure PSt where
 mem:Tr kL
 next:Nat
 dirty:List Nat
 wr:List Nat:=[]
def PSt.get(p:PSt)(id:Nat):Option kL:=bif d8 id p.next then p.mem.get id else ad
def Gy(id:Nat)(l:List Nat):List Nat:=bif l.contains id then l else id::l
def PSt.upd(p:PSt)(id:Nat)(o:kL):PSt:={p with mem:=p.mem.set id o,dirty:=Gy id p.dirty,wr:=Gy id p.wr}
def PSt.mark(p:PSt)(id:Nat)(o:kL):PSt:={p with mem:=p.mem.set id o,dirty:=Gy id p.dirty}
def PSt.new(p:PSt)(o:kL):PSt:={p with mem:=p.mem.set p.next o,next:=p.next+1}
def sU(n:Nat):kL->Bool
 | .box cs=>cs.all λc=>below n c.1
 | .row _ _ cs=>jK n cs
 | .gone=>ae
 | .map es=>es.all λe=>below n e.1&&below n e.2
section
variable(P:Program)
def i64(n:Int):PV:= .v (.int .i64 n)
def pb(b:Bool):PV:= .v (.bool b)
def rA(t:av)(cs:List PV)(off:Nat):Option PV:=
 match jT P t with
 |some ae=>match iH P t with
  |some n=>bif am ((cs.drop off).take n).length n then aa (.agg ((cs.drop off).take n))else ad
  |none=>ad
 |some ah=>cs[off]?
 |none=>ad
def En(t:av)(v:PV)(f:Nat):Option PV:=
 match P.underlying t with
 |some (.struct fs)=>match fs[f]? with
  |some fd=>match v with
   | .agg cs=>rA P fd.type cs fd.offset
   |_=>ad
  |none=>ad
 |_=>ad
def hY(s:av)(v:PV)(f:Nat):Option PV:=
 match P.underlying s with
 |some (.struct fs)=>match fs[f]? with
  |some fd=>match iH P fd.type with
   |some n=>bif am n 0 then ad else match v with
    | .ptr id off=>aa (.ptr id (off+fd.offset))
    | .pin es i off=>aa (.pin es i (off+fd.offset))
    |_=>ad
   |none=>ad
  |none=>ad
 |_=>ad
def pA(z:Nat):PV->Option (List PV)
 | .emp=>aa []
 | .nil=>aa []
 | .sl z' es=>bif am z z' then aa es else ad
 |_=>ad
def gE(t:av)(v i:PV):Option PV:=
 match i with
 | .v (.int _ n)=>
  match P.underlying t with
  |some (.slice e)=>match iH P e with
   |some z=>match v with
    | .sl z' es=>bif am z z'&&cR n es.length then aa (.pin es n.toNat 0)else ad
    | .rs id off len=>bif cR n len then aa (.ptr id (off+n.toNat*z))else ad
    |_=>ad
   |none=>ad
  |some (.array len e)=>match iH P e with
   |some z=>match v with
    | .ptr id off=>bif cR n len then aa (.ptr id (off+n.toNat*z))else ad
    | .pin es j off=>bif cR n len then aa (.pin es j (off+n.toNat*z))else ad
    |_=>ad
   |none=>ad
  |_=>ad
 |_=>ad
def pY:PV->Option Value
 | .v x=>bif bQ x then aa x else ad
 | .str s=>aa (.string ⟨s.toArray⟩)
 |_=>ad
def SN:List PV->Option (List Value)
 |[]=>aa []
 |x::xs=>match pY x,SN xs with
  |some a,aa l=>aa (a::l)
  |_,_=>ad
def aDx:PV->Option Value
 | .agg cs=>(SN cs).map λl=> .agg l.toArray
 |x=>pY x
def BM(t:av)(v i:PV):Option PV:=
 match P.underlying t with
 |some .string=>match pY v,pY i with
  |some a,aa b=>(cS P (Instr.index t a b)).map Bz
  |_,_=>ad
 |some (.array len e)=>match i,v with
  | .v (.int _ n),.agg cs=>match iH P e with
   |some z=>bif cR n len then rA P e cs (n.toNat*z)else ad
   |none=>ad
  |_,_=>ad
 |_=>ad
def a2v(op:BinOp):PV->Option PV
 | .sl _ _=>match op with
  | .eql=>aa (pb ah)
  | .neq=>aa (pb ae)
  |_=>ad
 |_=>ad
def lA(op:BinOp)(t:av)(x y:az)(a b:PV):Option PV:=
 match aDx a,aDx b with
 |some u,aa w=>(cS P (do eqGuard op t x y u w;binOp op t u w)).map Bz
 |_,_=>match P.underlying t,b with
  |some (.slice _),.nil=>a2v op a
  |_,_=>ad
def bCW(op:UnOp)(a:PV):Option PV:=
 match pY a with
 |some u=>(cS P (Op.unary op u)).map Bz
 |none=>ad
def zD(s d:av)(a:PV):Option PV:=
 match pY a with
 |some u=>(cS P (convert s d u)).map Bz
 |none=>ad
def nU:Option PV->Option (Option Int)
 |none=>aa ad
 |some (.v (.int _ n))=>aa (aa n)
 |_=>ad
def Tt:Option PV->Option (Option Value)
 |none=>aa ad
 |some x=>match pY x with
  |some v=>aa (aa v)
  |none=>ad
def kZ(p:PSt)(t:av)(v:PV)(lo hi mx:Option PV):Option (PV×Bool):=
 match P.underlying t with
 |some .string=>match v,Tt lo,Tt hi,mx with
  | .str s,aa l,aa h,ad=>(cS P (Instr.sliceAt t (.string ⟨s.toArray⟩) l h ad)).map λw=>(Bz w,ah)
  |_,_,_,_=>ad
 |some (.slice e)=>match iH P e,nU lo,nU hi,nU mx with
  |some z,aa l,aa h,aa m=>match v,m with
   | .rs id off len,ad=>match p.get id with
    |some (.row z' _ _)=>bif am z z'&&aj (0<=l.getD 0)&&aj (l.getD 0<h.getD (len:Int))&&aj (h.getD (len:Int)<=(len:Int))then
            aa (.rs id (off+(l.getD 0).toNat*z) ((h.getD (len:Int)).toNat-(l.getD 0).toNat),ah)else ad
    |_=>ad
   | .sl z' es,ad=>bif am z z'&&aj (0<=l.getD 0)&&aj (l.getD 0<=h.getD (es.length:Int))&&aj (h.getD (es.length:Int)<=(es.length:Int))then
            aa (eD z ((es.take (h.getD (es.length:Int)).toNat).drop (l.getD 0).toNat),ah)else ad
   | .emp,ad=>bif aj (0<=l.getD 0)&&aj (l.getD 0<=h.getD 0)&&aj (h.getD 0<=0)then aa (.emp,ah)else ad
   | .sl z' es,aa m=>bif am z z'&&aj (0<=l.getD 0)&&aj (l.getD 0<h.getD (es.length:Int))&&aj (h.getD (es.length:Int)<=(es.length:Int))&&h.isSome&&aj (h.getD (es.length:Int)=m)then
            aa (eD z ((es.take (h.getD (es.length:Int)).toNat).drop (l.getD 0).toNat),ae)else bif List.isEmpty es&&(aj (0<=l.getD 0)&&aj (l.getD 0<=h.getD 0)&&aj (h.getD 0<=0)&&h.isSome&&aj (m=0))then aa (.emp,ae)else ad
   | .nil,ad=>bif aj (0<=l.getD 0)&&aj (l.getD 0<=h.getD 0)&&aj (h.getD 0<=0)then aa (.emp,ah)else ad
   | .emp,aa m=>bif aj (0<=l.getD 0)&&aj (l.getD 0<=h.getD 0)&&aj (h.getD 0<=0)&&h.isSome&&aj (m=0)then aa (.emp,ae)else ad
   | .nil,aa m=>bif aj (0<=l.getD 0)&&aj (l.getD 0<=h.getD 0)&&aj (h.getD 0<=0)&&h.isSome&&aj (m=0)then aa (.emp,ae)else ad
   |_,_=>ad
  |_,_,_,_=>ad
 |_=>ad
def BK:List PV->Nat->List PV->List PV
 |cs,_,[]=>cs
 |cs,off,x::xs=>BK (cs.set off x) (off+1) xs
def AK(place:Nat->Option (Nat×Nat))(cs:List PV):List (Nat×PV)->Option (List PV)
 |[]=>aa cs
 |(i,x)::rest=>match place i with
  |none=>ad
  |some (off,size)=>bif am x.cells.length size&&an (off+size) cs.length&&x.cells.all PV.one then AK place (BK cs off x.cells) rest else ad
def zeroCells(t:av):Option (List PV):=
 match cJ P (zeroValue t)with
 |some z=>bif z.cells.toList.all bQ then aa (ofVs z.cells.toList)else ad
 |none=>ad
def zZ(t:av)(parts:List (Nat×PV)):Option PV:=
 match zeroCells P t with
 |some z=>match P.underlying t with
  |some (.struct fs)=>match cJ P (fs.mapM λf=>do pure (f.offset,<-Go.sizeOf f.type))with
   |some pl=>(AK (λi=>pl[i]?) z parts).map .agg
   |none=>ad
  |some (.array _ e)=>match iH P e with
   |some s=>(AK (λi=>aa (i*s,s)) z parts).map .agg
   |none=>ad
  |_=>ad
 |none=>ad
def C7(t:av)(v:PV):Option PV:=
 match P.underlying t with
 |some (.slice _)=>match v with
  | .sl _ es=>aa (i64 es.length)
  | .emp=>aa (i64 0)
  | .nil=>aa (i64 0)
  | .rs _ _ n=>aa (i64 n)
  |_=>ad
 |some .string=>match v with
  | .str s=>aa (i64 s.length)
  |_=>ad
 |some (.array n _)=>aa (i64 n)
 |_=>ad
def SO:List PV->Option (List Value)
 |[]=>aa []
 |x::xs=>match pY x,SO xs with
  |some a,aa l=>aa (a::l)
  |_,_=>ad
def oH(mx:Bool)(ts:Array av)(ty:av)(as:List PV):Option PV:=
 match SO as with
 |some l=>(cS P (bif mx then Builtin.max_ ts ty l.toArray else Builtin.min_ ts ty l.toArray)).map Bz
 |none=>ad
structure PS where
 get:Nat->PV×Bool
def PS.none:PS:=⟨λ_=>(.und,ah)⟩
def PS.set(S:PS)(t:Nat)(x:PV×Bool):PS:=⟨λk=>bif am k t then x else S.get k⟩
def PS.at(S:PS)(i:Nat):PV×Bool:=S.get i
def fl(x:PV)(own:Bool):PV×Bool:=match x with| .nil=>(.emp,ae)|x=>(x,own)
def PS.put(S:PS)(d:Option Tmp)(x:PV)(own:Bool):PS:=
 match d with
 |some d=>S.set d (x,own)
 |none=>S
def cQ(S:PS):az->PV
 | .tmp t=>(S.at t).1
 | .const v=>Bz v
 | .global _=> .und
 | .func f=> .fn f [] []
def kN:PV->Bool
 | .nil=>ae
 |_=>ah
def iC(S:PS):az->Bool
 | .tmp t=>(S.at t).2||kN (S.at t).1
 | .const (.slice ad _ _)=>ae
 |_=>ah
def mY(S:PS):az->PS
 | .tmp t=>S.set t ((S.at t).1,ah)
 |_=>S
def jZ(p:PSt)(t:av):PV->Option PV
 | .pin es i off=>match es[i]? with
  |some e=>rA P t e.cells off
  |none=>ad
 | .ptr id off=>match p.get id with
  |some (.box cs)=>rA P t (cs.map (·.1)) off
  |some (.row _ _ cs)=>rA P t cs off
  |_=>ad
 |_=>ad
def fX(p:PSt):PV->PSt×Bool
 | .ptr id off=>match p.get id with
  |some (.box cs)=>match cs[off]? with
   |some (x,ae)=>(p.mark id (.box (cs.set off (x,ah))),ae)
   |_=>(p,ah)
  |_=>(p,ah)
 |_=>(p,ah)
def C9:PV->Bool
 | .sl _ _| .emp=>ae
 |_=>ah
def dZ(take:Bool)(S:PS)(o:Oper):Option (PV×Bool×PS):=
 let r (x:Option PV):Option (PV×Bool×PS):=x.map λv=>(v,ah,S)
 match o.op with
 | .move x=>bif take then aa (cQ S x,iC S x,mY S x)else aa (cQ S x,ah,S)
 | .assign x=>bif take then aa (cQ S x,iC S x,mY S x)else aa (cQ S x,ah,S)
 | .pick c a b=>match cQ S c with
  | .v (.bool ae)=>aa (cQ S a,ah,S)
  | .v (.bool ah)=>aa (cQ S b,ah,S)
  |_=>ad
 | .build t parts=>r (zZ P t (parts.toList.map λ(i,x)=>(i,cQ S x)))
 | .nilCheck x=>match cQ S x with
  | .ptr id off=>aa (.ptr id off,ah,S)
  | .pin es i off=>aa (.pin es i off,ah,S)
  |_=>ad
 | .binOp op t x y _=>r (lA P op t x y (cQ S x) (cQ S y))
 | .unOp op _ x=>r (bCW P op (cQ S x))
 | .convert s d x=>r (zD P s d (cQ S x))
 | .makeFunc fn first captured=>match fn with
  | .func f=>aa (.fn f (wks (first.toList.map (cQ S))) (wks (captured.toList.map (cQ S))),ah,S)
  |_=>ad
 | .fieldAddr s x f=>r (hY P s (cQ S x) f)
 | .field t x f=>r (En P t (cQ S x) f)
 | .indexAddr t x i=>r (gE P t (cQ S x) (cQ S i))
 | .index t x i=>r (BM P t (cQ S x) (cQ S i))
 | .extract t i=>match cQ S t with
  | .tup vs=>bif take&&am i 0 then vs[0]?.map λv=>(v,iC S t,mY S t)else r vs[i]?
  |_=>ad
 | .call c=>match c.callee with
  | .builtin .len=>match c.argTypes[0]?,c.args[0]? with
   |some t,aa x=>r (C7 P t (cQ S x))
   |_,_=>ad
  | .builtin .min=>r (oH P ah c.argTypes o.type (c.args.toList.map (cQ S)))
  | .builtin .max=>r (oH P ae c.argTypes o.type (c.args.toList.map (cQ S)))
  |_=>ad
 |_=>ad
def mX(p:PSt)(S:PS)(o:Oper)(take:Bool):Option (PV×Bool×PSt):=
 match o.op with
 | .load t a=>match jZ P p t (cQ S a)with
  |some v=>bif take&&C9 v then aa (v,(fX p (cQ S a)).2,(fX p (cQ S a)).1)else aa (v,ah,p)
  |none=>ad
 | .slice t x lo hi mx=>(kZ P p t (cQ S x) (lo.map (cQ S)) (hi.map (cQ S)) (mx.map (cQ S))).map λr=>(r.1,r.2,p)
 |_=>ad
def shape(a:Bool)(s:Nat)(x:PV):Bool:=
 match x with
 | .agg cs=>a&&am cs.length s&&cs.all PV.pur
 |x=> !a&&am s 1&&x.pur
def oQ(a:Bool)(s:Nat):List PV->List (Nat×PV)->Option (List PV)
 |es,[]=>aa es
 |es,(i,x)::rest=>bif d8 i es.length&&shape a s x then oQ a s (es.set i (wk x)) rest else ad
def nN(x:PV):Nat->List PV
 |0=>[]
 |n+1=>x::nN x n
def iZ(l:List PV):Nat->List PV
 |0=>[]
 |n+1=>l++iZ l n
def fB(p:PSt)(S:PS)(o:Oper):Option (PV×Bool×PSt):=
 match o.op with
 | .alloc t=>match zeroCells P t with
  |some z=>aa (.ptr p.next 0,ah,p.new (.box (z.map λc=>fl c ah)))
  |none=>ad
 | .box _ x=>bif (cQ S x).cells.all PV.one then aa (.ptr p.next 0,ah,p.new (.box ((cQ S x).cells.map λc=>fl c ah)))else ad
 | .buildSlice t len parts=>
  match P.underlying t with
  |some (.slice e)=>match iH P e,jT P e,zeroCells P e with
   |some s,aa a,aa z=>
    bif an (len*s) 1000000&&am z.length s&&an 1 s&&(a||am s 1)then
     match oQ a s (nN (wk (bif a then .agg z else z.headD .und)) len) (parts.toList.map λ(i,x)=>(i,cQ S x))with
     |some es=>aa (eD s es,ae,p)
     |none=>ad
    else ad
   |_,_,_=>ad
  |_=>ad
 | .makeSlice t l c=>
  match P.underlying t,cQ S l,cQ S c with
  |some (.slice e),.v (.int .i64 n),.v (.int .i64 k)=>match P.info? e,jT P e with
   |some info,aa a=>match info.zero with
    |some z=>
     bif aj (0<=n)&&aj (n<=k)&&aj (k*(info.bytes:Int)<=1073741824)&&aj (k<=1073741824)&&z.cells.toList.all bQ&&am z.cells.size info.size&&an 1 info.size&&(a||am info.size 1)then
      bif aj (n=0)then aa (.sl info.size [],ae,p)
      else bif aj (n=k)then aa (.rs p.next 0 n.toNat,ah,p.new (.row info.size a (iZ (wks (ofVs z.cells.toList)) n.toNat)))
      else ad
     else ad
    |none=>ad
   |_,_=>ad
  |_,_,_=>ad
 |_=>ad
def oR(p:PSt)(t:av)(a x:PV)(own:Bool):Option PSt:=
 match a with
 | .ptr id off=>match p.get id,iH P t with
  |some (.box cs),aa n=>bif am x.cells.length n&&an (off+n) cs.length&&x.cells.all PV.one then
        aa (p.upd id (.box (cs.take off++x.cells.map (λc=>fl c own)++cs.drop (off+n))))else ad
  |some (.row z a cs),aa n=>bif am x.cells.length n&&an (off+n) cs.length&&x.cells.all PV.one then
        aa (p.upd id (.row z a (cs.take off++wks x.cells++cs.drop (off+n))))else ad
  |_,_=>ad
 |_=>ad
def wR(z:Nat)(u:TypeDesc)(x:PV):Option (List PV):=
 match u with
 | .slice _=>pA z x
 | .string=>match x with
  | .str s=>bif am z 1 then aa (s.map λb=> .v (.int .u8 b.toNat))else ad
  |_=>ad
 |_=>ad
def wU(S:PS)(c:Call)(s x:az):Option (PV×Bool×PS):=
 match c.argTypes.toList with
 |[t,t1]=>
  match P.underlying t,P.underlying t1 with
  |some (.slice e),aa u=>
   match P.info? e with
   |some info=>match pA info.size (cQ S s),wR info.size u (cQ S x),info.zero with
    |some es,aa xs,aa z=>
     bif an 1 info.size&&an 1 info.bytes&&am z.cells.size info.size then
      match xs with
      |[]=>aa (cQ S s,iC S s,mY S s)
      |_=>bif iC S s&&an ((es.length+xs.length)*info.bytes) 1073741824 then aa (eD info.size (es++xs),ae,mY S s)else ad
     else ad
    |_,_,_=>ad
   |none=>ad
  |_,_=>ad
 |_=>ad
def K2:PV->Bool
 | .sl _ []=>ae
 | .tup (.sl _ []::_)=>ae
 |_=>ah
abbrev jB:=Nat->List (PV×Bool)->PSt->Option (PV×Bool×PSt)
def lY(take:Bool):PS->List az->List (PV×Bool)×PS
 |S,[]=>([],S)
 |S,x::xs=>((wk (cQ S x),take&&iC S x&& !K2 (cQ S x))::(lY take (bif take then mY S x else S) xs).1,(lY take (bif take then mY S x else S) xs).2)
def rG:List PV->List (PV×Bool)
 |[]=>[]
 |x::xs=>(wk x,ah)::rG xs
def sB(take:Bool)(S:PS)(c:Call):Option (Nat×List (PV×Bool)):=
 match c.callee with
 | .value f=>match cQ S f with
  | .fn g first captured=>aa (g,rG first++((lY take S c.args.toList).1++rG captured))
  |_=>ad
 |_=>ad
def GM(call:jB)(take:Bool)(p:PSt)(S:PS)(o:Oper):Option (PV×Bool×PS×PSt):=
 match o.op with
 | .store t a x=>(oR P p t (cQ S a) (cQ S x) (iC S x)).map λp'=>(.und,ah,mY S x,p')
 | .call c=>match c.callee with
  | .builtin .append=>match c.args.toList with
   |[s,x]=>(wU P S c s x).map λr=>(r.1,r.2.1,r.2.2,p)
   |_=>ad
  |_=>match sB take S c with
   |some (g,args)=>(call g args p).map λr=>(r.1,r.2.1,(lY take S c.args.toList).2,r.2.2)
   |none=>ad
 |_=>ad
inductive Bw where
 |op (i:Nat) (take:Bool)
 |app (a i s:Nat)
 |freeze (t:Nat)
def mO(ops:Array Oper)(S:PS)(o:Oper):Option Bool:=
 match o.guard with
 |none=>aa ae
 |some (j,want)=>
  match(ops[j]?.bind (·.dst)).map λd=>(S.at d).1 with
  |some (.v (.bool b))=>aa (b==want)
  |some (.tup [])=>aa ah
  |_=>ad
def keeps(S:PS):List Nat->PS
 |[]=> .none
 |t::ts=>(keeps S ts).set t (S.at t)
def pC(z:Nat):Nat->List PV->List PV
 |0,_=>[]
 |n+1,cs=> .agg (cs.take z)::pC z n (cs.drop z)
def bF5(p:PSt)(x:PV×Bool):Option ((PV×Bool)×PSt):=
 match x with
 |(.rs id off len,_)=>match p.get id with
  |some (.row z a cs)=>
   bif an (off+len*z) cs.length&&an 1 z&&(a||am z 1)&&cs.all PV.pur then
    aa ((eD z (bif a then pC z len ((cs.drop off).take (len*z))else(cs.drop off).take (len*z)),ah),p.upd id .gone)else ad
  |_=>ad
 |y=>aa (y,p)
def kB(p:PSt)(S:PS)(t:Nat):Option (PS×PSt):=match bF5 p (S.at t)with|some r=>aa (S.set t r.1,r.2)|none=>ad
def kA:List PV->Option (List UInt8)
 |[]=>aa []
 | .v (.int .u8 n)::r=>(kA r).map (UInt8.ofNat n.toNat:: ·)
 |_=>ad
def BN(s d:av)(v:PV):Option PV:=
 match P.underlying s,P.underlying d with
 |some (.slice e),aa .string=>match P.underlying e with
  |some (.int .u8)=>match pA 1 v with
   |some es=>(kA es).map .str
   |none=>ad
  |_=>ad
 |_,_=>ad
def Ei(sq take:Bool)(S:PS)(o:Oper):Option (PV×Bool×PS):=
 match dZ P take S o with
 |some r=>aa r
 |none=>bif sq then(match o.op with
  | .convert s d x=>(BN P s d (cQ S x)).map λv=>(v,ah,S)
  |_=>ad)else ad
def HQ(call:jB)(sq:Bool)(o:Oper)(take:Bool)(S:PS)(p:PSt):Option (PV×Bool×PS×PSt):=
 match dG o with
 | .pure=>(Ei P sq take S o).map λr=>(r.1,r.2.1,r.2.2,p)
 | .read=>(mX P p S o take).map λr=>(r.1,r.2.1,S,r.2.2)
 | .alloc=>(fB P p S o).map λr=>(r.1,r.2.1,S,r.2.2)
 | .eff=>GM P call take p S o
def PP(t:Nat):az->Bool
 | .tmp u=>am t u
 |_=>ah
def aAi(ts:List av)(t1 t2:av)(s:PV)(own:Bool)(zz n x:PV):Option PV:=
 match ts with
 |[t,tz]=>match P.underlying t,P.underlying tz with
  |some (.slice e),aa u=>match P.info? e,jT P e with
   |some info,aa ag=>match pA info.size s,wR info.size u zz,info.zero,n with
    |some es,aa [_],aa zv,.v (.int _ k)=>
     bif an 1 info.size&&an 1 info.bytes&&am zv.cells.size info.size&&own&&an ((es.length+1)*info.bytes) 1073741824&&am t1 t&&am t2 e&&aj (k=(es.length:Int))&&shape ag info.size x then
      aa (.sl info.size (es++ [wk x]))else ad
    |_,_,_,_=>ad
   |_,_=>ad
  |_,_=>ad
 |_=>ad
def aCB:PV->PV
 | .sl _ es=> .pin es (es.length-1) 0
 |_=> .und
def HT(S:PS)(oA oI oS:Oper):Option PS:=
 match oA.op,oA.dst,oI.op,oI.dst,oS.op,oS.dst with
 | .call c,aa a,.indexAddr t1 (.tmp a') n,aa b,.store t2 (.tmp b') x,ad=>
  match c.callee,c.args.toList with
  | .builtin .append,[s,zz]=>
   bif am a a'&&am b b'&& !Nat.beq a b&& !PP a n&& !PP a x&& !PP b x&&oA.guard.isNone&&oI.guard.isNone&&oS.guard.isNone then
    (aAi P c.argTypes.toList t1 t2 (cQ S s) (iC S s) (cQ S zz) (cQ S n) (cQ S x)).map λv=>((mY S s).put (aa a) v ae).put (aa b) (aCB v) ah
   else ad
  |_,_=>ad
 |_,_,_,_,_,_=>ad
def yO(call:jB)(ops:Array Oper):List Bw->PS->PSt->Option (PS×PSt)
 |[],S,p=>aa (S,p)
 | .app a i s::rest,S,p=>
  match ops[a]?,ops[i]?,ops[s]? with
  |some oA,aa oI,aa oS=>match HT P S oA oI oS with
   |some S'=>yO call ops rest S' p
   |none=>ad
  |_,_,_=>ad
 | .freeze t::rest,S,p=>match kB p S t with
  |some (S',p')=>yO call ops rest S' p'
  |none=>ad
 | .op i take::rest,S,p=>
  match ops[i]? with
  |none=>ad
  |some o=>match mO ops S o with
   |some ae=>match HQ P call ae o take S p with
    |some (v,own,S',p')=>yO call ops rest (S'.put o.dst v own) p'
    |none=>ad
   |some ah=>yO call ops rest (S.put o.dst (.tup []) ah) p
   |none=>ad
structure jU where
 i:Nat
 o:Oper
 a:PV
 v:PV
 stale:Bool
mutual
def CB:PV->PV->Bool
 | .v x,.v y=>fM x y
 | .str a,.str b=>a==b
 | .agg xs,.agg ys=>DZ xs ys
 |_,_=>ah
def DZ:List PV->List PV->Bool
 |[],[]=>ae
 |x::xs,y::ys=>CB x y&&DZ xs ys
 |_,_=>ah
end
def a81(a:PV):Option Nat:=match a with| .ptr id _=>aa id|_=>ad
def vid(v:PV):Option Nat:=match v with| .ptr id _=>aa id| .rs id _ _=>aa id|_=>ad
def aNp(o:Oper)(a v:PV):Option Nat:=match o.op with| .load _ _=>a81 a|_=>vid v
def aA1(p:PSt)(x:Option Nat):Bool:=match x with|some id=> !p.wr.contains id|none=>ah
def qE(p:PSt)(r:jU):Bool:=
 !r.stale||(aA1 p (aNp r.o r.a r.v)||(match r.o.op with
  | .load t _=>(aDx r.v).isSome&&(match jZ P p t r.a with|some v=>CB v r.v|none=>ah)
  |_=>ah))
def kG(o:Oper)(S:PS):Bool:=
 match o.op with
 | .load _ a=>match cQ S a with| .ptr _ _=>ae|_=>ah
 | .alloc _| .box _ _| .makeSlice _ _ _=>ae
 |_=>ah
def pG(o:Oper)(S:PS):PV:=
 match o.op with
 | .load _ a=>cQ S a
 |_=> .und
def lC(o:Oper):Bool:=
 match o.op with
 | .makeSlice _ _ _=>ae
 |_=>ah
def oW(o:Oper):Bool:=
 match o.op with
 | .call c=>match c.callee with| .builtin .append=>ae|_=>ah
 |_=>ah
def kM(call:jB)(ops:Array Oper)(ms:List Nat):List Bw->List jU->PS->PSt->Option (PS×PSt)
 |[],pend,S,p=>bif pend.all (qE P p)then aa (S,p)else ad
 | .app a i s::rest,pend,S,p=>
  match ops[a]?,ops[i]?,ops[s]? with
  |some oA,aa oI,aa oS=>match HT P S oA oI oS with
   |some S'=>bif pend.all (qE P p)&&(pend.filter λr=> !lI (ms.getD a 0) r.i).all (λr=> !lC r.o)then
          kM call ops ms rest (((pend.filter λr=> !lI (ms.getD a 0) r.i).map λr=>bif !lC r.o then r else{r with stale:=ae}).filter λr=> !lI (ms.getD s 0) r.i) S' p
    else ad
   |none=>ad
  |_,_,_=>ad
 | .freeze t::rest,pend,S,p=>match kB p S t with
  |some (S',p')=>kM call ops ms rest pend S' p'
  |none=>ad
 | .op i take::rest,pend,S,p=>
  match ops[i]? with
  |none=>ad
  |some o=>match mO ops S o with
   |some ae=>match HQ P call ah o take S p with
    |some (v,own,S',p')=>
     bif kP o then
      bif pend.all (qE P p)then
       kM call ops ms rest ((pend.filter λr=> !lI (ms.getD i 0) r.i).map λr=>bif oW o&& !lC r.o then r else{r with stale:=ae}) (S'.put o.dst v own) p'
      else ad
     else kM call ops ms rest (bif kG o S then⟨i,o,pG o S,v,ah⟩::pend else pend) (S'.put o.dst v own) p'
    |none=>ad
   |some ah=>kM call ops ms rest pend (S.put o.dst (.tup []) ah) p
   |none=>ad
inductive PC where
 |skip
 |label (l:Nat)
 |region (id:Nat) (ops:Array Oper) (draw:Bool) (ms:List Nat) (sc:List Bw)
 |seq (a b:PC)
 |cond (c:az) (a b:PC)
 |block (id:Nat) (c:PC)
 |loop (c:PC)
 |exit (id:Nat)
 |ret
 |scope (c:PC)
 |other (c:Code)
 |drop (ts:List Nat) (c:PC)
 |ice (t:Nat) (c:PC)
def eS:PC->Code
 | .skip=> .skip
 | .label l=> .label l
 | .region id ops draw _ _=> .region id ops draw
 | .seq a b=> .seq (eS a) (eS b)
 | .cond c a b=> .cond c (eS a) (eS b)
 | .block id c=> .block id (eS c)
 | .loop c=> .loop (eS c)
 | .exit id=> .exit id
 | .ret=> .ret
 | .scope c=> .scope (eS c)
 | .other c=>c
 | .drop _ c=>eS c
 | .ice _ c=>eS c
def AV(body:PS->PSt->Option (Fl×PS×PSt)):Nat->PS->PSt->Option (Fl×PS×PSt)
 |0,_,_=>ad
 |n+1,S,p=>match body S p with
  |some (.normal,S',p')=>AV body n S' p'
  |r=>r
def cln(p:PSt):PSt:={p with wr:=[]}
def dty(p p':PSt):PSt:={p' with wr:=p'.wr.foldr Gy p.wr}
def a8J(p:PSt):PSt:={p with dirty:=[],wr:=[]}
def Eu(ops:Array Oper)(S:PS)(p:PSt):Bool:=
 match aB9 ops with
 |none=>ae
 |some (.tmp s,.tmp t)=>match(S.at s).1,(S.at t).1 with
  | .pin _ _ _,.ptr id _=>match p.get id with
   |some (.box _)=>ae
   |_=>ah
  |_,_=>ah
 |_=>ah
def aHG(ops:Array Oper):Option (PS×PSt)->Option (PS×PSt)
 |some r=>bif Eu ops r.1 r.2 then aa r else ad
 |none=>ad
def eX(call:jB)(L:Nat):PC->PS->PSt->Option (Fl×PS×PSt)
 | .skip,S,p=>aa (.normal,S,p)
 | .label _,S,p=>aa (.normal,S,p)
 | .region _ ops draw ms sc,S,p=>
  (bif draw then(aHG ops (kM P call ops ms sc [] S (cln p))).map (λr=>(r.1,dty p r.2))else yO P call ops sc S p).map λr=>(.normal,r.1,r.2)
 | .seq a b,S,p=>match eX call L a S p with
  |some (.normal,S',p')=>eX call L b S' p'
  |r=>r
 | .cond c a b,S,p=>match cQ S c with
  | .v (.bool ae)=>eX call L a S p
  | .v (.bool ah)=>eX call L b S p
  |_=>ad
 | .block id c,S,p=>match eX call L c S p with
  |some (.exit n,S',p')=>bif am n id then aa (.normal,S',p')else aa (.exit n,S',p')
  |r=>r
 | .loop c,S,p=>AV (λS p=>eX call L c S p) L S p
 | .exit id,S,p=>aa (.exit id,S,p)
 | .ret,S,p=>aa (.ret,S,p)
 | .scope c,S,p=>eX call L c S p
 | .other _,_,_=>ad
 | .drop ts c,S,p=>eX call L c (keeps S ts) p
 | .ice t c,S,p=>match kB p S t with
  |some (S',p')=>eX call L c S' p'
  |none=>ad
def rZ(S:PS)(p:PSt):ResultVar->Option (PV×Bool)
 | .tmp t=>aa (S.at t)
 | .cell a t=>(jZ P p t (S.at a).1).map λv=>(v,ah)
def gN(S:PS)(p:PSt):List ResultVar->Option (List (PV×Bool))
 |[]=>aa []
 |r::rs=>match rZ P S p r,gN S p rs with
  |some v,aa vs=>aa (v::vs)
  |_,_=>ad
def aGV:PV->Bool
 | .sl _ _| .emp| .nil=>ae
 |_=>ah
def eJ:List (PV×Bool)->PV×Bool
 |[v]=>(wk v.1,(v.2||kN v.1)&& !K2 v.1)
 |v::vs=>(.tup (wks ((v::vs).map (·.1))),(v.2||kN v.1)&& !K2 v.1&&aGV v.1)
 |[]=>(.tup [],ah)
def Bb:List (PV×Bool)->Nat->PS->PS
 |[],_,S=>S
 |v::vs,i,S=>Bb vs (i+1) (S.set i v)
def aIy(q:Tr kL)(id:Nat)(m:Tr kL):Tr kL:=match q.get id with|some o=>m.set id o|none=>m
def wD(n:Nat)(q:Tr kL)(id:Nat):Bool:=match q.get id with|some o=>sU n o|none=>ah
def settle(p:PSt)(r:PV)(p':PSt):PSt:=
 bif below p.next r&&(p'.dirty.filter λid=>d8 id p.next).all (wD p.next p'.mem)then
  ⟨(p'.dirty.filter λid=>d8 id p.next).foldr (aIy p'.mem) p.mem,p.next,(p'.dirty.filter λid=>d8 id p.next).foldr Gy p.dirty,(p'.wr.filter λid=>d8 id p.next).foldr Gy p.wr⟩
 else⟨p'.mem,p'.next,(p'.dirty.filter λid=>d8 id p.next).foldr Gy p.dirty,(p'.wr.filter λid=>d8 id p.next).foldr Gy p.wr⟩
abbrev aKv:=Nat->Option (PC×List ResultVar)
end
end Go.PI
