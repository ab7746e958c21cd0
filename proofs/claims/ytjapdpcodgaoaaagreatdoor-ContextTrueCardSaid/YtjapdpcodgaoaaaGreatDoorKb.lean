import Derived.Test.YtjapdpcodgaoaaaGreatDoorKa
open Option renaming some->aa,none->ae
open Bool renaming true->ah,false->aj
open Decidable renaming decide->ak
open Nat renaming beq->ao,ble->aq,blt->d9
open Go renaming TypeId->aw,Operand->a8,Oper->ic
set_option linter.all false
namespace Go.PI
open Go.AI
inductive PV where
 |v (x:Value)
 |str (s:List UInt8)
 |agg (cs:List PV)
 |tup (vs:List PV)
 |nil
 |emp
 |sl (z:Nat) (es:List PV)
 |pin (es:List PV) (i off:Nat)
 |ptr (id off:Nat)
 |rs (id off len:Nat)
 |mp (id:Nat)
 |fn (f:Nat) (first captured:List PV)
 |und
 deriving Inhabited
def PV.cells:PV->au PV
 | .agg cs=>cs
 |x=>[x]
def PV.one:PV->Bool
 | .agg _| .tup _| .und=>aj
 |_=>ah
def PV.pur:PV->Bool
 | .v _| .str _| .nil| .emp| .sl _ _=>ah
 |_=>aj
def eO(z:Nat):au PV->PV
 |[]=> .emp
 |e::es=> .sl z (e::es)
mutual
def CF:Value->PV
 | .string s=> .str s.data.toList
 | .slice ae _ _=> .nil
 | .agg ⟨cs⟩=> .agg (ofVs cs)
 | .tuple ⟨cs⟩=> .tup (ofVs cs)
 |x=> .v x
def ofVs:au Value->au PV
 |[]=>[]
 |x::xs=>CF x::ofVs xs
end
mutual
def wk:PV->PV
 | .nil=> .emp
 | .sl _ []=> .emp
 | .agg cs=> .agg (wks cs)
 | .tup cs=> .tup (wks cs)
 |x=>x
def wks:au PV->au PV
 |[]=>[]
 |x::xs=>wk x::wks xs
end
mutual
def below(n:Nat):PV->Bool
 | .agg cs=>kG n cs
 | .tup cs=>kG n cs
 | .ptr id _=>d9 id n
 | .rs id _ _=>d9 id n
 | .mp id=>d9 id n
 | .fn _ a b=>kG n a&&kG n b
 |_=>ah
def kG(n:Nat):au PV->Bool
 |[]=>ah
 |x::xs=>below n x&&kG n xs
end
inductive lT where
 |box (cs:List (PV×Bool))
 |row (z:Nat) (a:Bool) (cs:List PV)
 |gone
 |map (es:List (PV×PV))
structure PSt where
 mem:Tr lT
 next:Nat
 dirty:List Nat
 wr:List Nat:=[]
def PSt.get(p:PSt)(id:Nat):f9 lT:=bif d9 id p.next then p.mem.get id else ae
def HS(id:Nat)(l:au Nat):au Nat:=bif l.contains id then l else id::l
def PSt.upd(p:PSt)(id:Nat)(o:lT):PSt:={p with mem:=p.mem.set id o,dirty:=HS id p.dirty,wr:=HS id p.wr}
def PSt.mark(p:PSt)(id:Nat)(o:lT):PSt:={p with mem:=p.mem.set id o,dirty:=HS id p.dirty}
def PSt.new(p:PSt)(o:lT):PSt:={p with mem:=p.mem.set p.next o,next:=p.next+1}
def vF(n:Nat):lT->Bool
 | .box cs=>cs.all λc=>below n c.1
 | .row _ _ cs=>kG n cs
 | .gone=>ah
 | .map es=>es.all λe=>below n e.1&&below n e.2
section
variable(P:Program)
def i64(n:Int):PV:= .v (.int .i64 n)
def pb(b:Bool):PV:= .v (.bool b)
def sX(t:aw)(cs:au PV)(off:Nat):f9 PV:=
 match mB P t with
 |some ah=>match iN P t with
  |some n=>bif ao ((cs.drop off).take n).length n then aa (.agg ((cs.drop off).take n))else ae
  |none=>ae
 |some aj=>cs[off]?
 |none=>ae
def Fm(t:aw)(v:PV)(f:Nat):f9 PV:=
 match P.underlying t with
 |some (.struct fs)=>match fs[f]? with
  |some fd=>match v with
   | .agg cs=>sX P fd.type cs fd.offset
   |_=>ae
  |none=>ae
 |_=>ae
def jB(s:aw)(v:PV)(f:Nat):f9 PV:=
 match P.underlying s with
 |some (.struct fs)=>match fs[f]? with
  |some fd=>match iN P fd.type with
   |some n=>bif ao n 0 then ae else match v with
    | .ptr id off=>aa (.ptr id (off+fd.offset))
    | .pin es i off=>aa (.pin es i (off+fd.offset))
    |_=>ae
   |none=>ae
  |none=>ae
 |_=>ae
def qL(z:Nat):PV->f9 (au PV)
 | .emp=>aa []
 | .nil=>aa []
 | .sl z' es=>bif ao z z' then aa es else ae
 |_=>ae
def gX(t:aw)(v i:PV):f9 PV:=
 match i with
 | .v (.int _ n)=>
  match P.underlying t with
  |some (.slice e)=>match iN P e with
   |some z=>match v with
    | .sl z' es=>bif ao z z'&&dJ n es.length then aa (.pin es n.toNat 0)else ae
    | .rs id off len=>bif dJ n len then aa (.ptr id (off+n.toNat*z))else ae
    |_=>ae
   |none=>ae
  |some (.array len e)=>match iN P e with
   |some z=>match v with
    | .ptr id off=>bif dJ n len then aa (.ptr id (off+n.toNat*z))else ae
    | .pin es j off=>bif dJ n len then aa (.pin es j (off+n.toNat*z))else ae
    |_=>ae
   |none=>ae
  |_=>ae
 |_=>ae
def sN:PV->f9 Value
 | .v x=>bif bZ x then aa x else ae
 | .str s=>aa (.string ⟨s.toArray⟩)
 |_=>ae
def aCG:au PV->f9 (au Value)
 |[]=>aa []
 |x::xs=>match sN x,aCG xs with
  |some a,aa l=>aa (a::l)
  |_,_=>ae
def aEE:PV->f9 Value
 | .agg cs=>(aCG cs).map λl=> .agg l.toArray
 |x=>sN x
def CB(t:aw)(v i:PV):f9 PV:=
 match P.underlying t with
 |some .string=>match sN v,sN i with
  |some a,aa b=>(dU P (Instr.index t a b)).map CF
  |_,_=>ae
 |some (.array len e)=>match i,v with
  | .v (.int _ n),.agg cs=>match iN P e with
   |some z=>bif dJ n len then sX P e cs (n.toNat*z)else ae
   |none=>ae
  |_,_=>ae
 |_=>ae
def a1e(op:BinOp):PV->f9 PV
 | .sl _ _=>match op with
  | .eql=>aa (pb aj)
  | .neq=>aa (pb ah)
  |_=>ae
 |_=>ae
def pJ(op:BinOp)(t:aw)(x y:a8)(a b:PV):f9 PV:=
 match aEE a,aEE b with
 |some u,aa w=>(dU P (do eqGuard op t x y u w;binOp op t u w)).map CF
 |_,_=>match P.underlying t,b with
  |some (.slice _),.nil=>a1e op a
  |_,_=>ae
def bBf(op:UnOp)(a:PV):f9 PV:=
 match sN a with
 |some u=>(dU P (Op.unary op u)).map CF
 |none=>ae
def Az(s d:aw)(a:PV):f9 PV:=
 match sN a with
 |some u=>(dU P (convert s d u)).map CF
 |none=>ae
def pK:f9 PV->f9 (f9 Int)
 |none=>aa ae
 |some (.v (.int _ n))=>aa (aa n)
 |_=>ae
def Ub:f9 PV->f9 (f9 Value)
 |none=>aa ae
 |some x=>match sN x with
  |some v=>aa (aa v)
  |none=>ae
def mG(p:PSt)(t:aw)(v:PV)(lo hi mx:f9 PV):f9 (PV×Bool):=
 match P.underlying t with
 |some .string=>match v,Ub lo,Ub hi,mx with
  | .str s,aa l,aa h,ae=>(dU P (Instr.sliceAt t (.string ⟨s.toArray⟩) l h ae)).map λw=>(CF w,aj)
  |_,_,_,_=>ae
 |some (.slice e)=>match iN P e,pK lo,pK hi,pK mx with
  |some z,aa l,aa h,aa m=>match v,m with
   | .rs id off len,ae=>match p.get id with
    |some (.row z' _ _)=>bif ao z z'&&ak (0<=l.getD 0)&&ak (l.getD 0<h.getD (len:Int))&&ak (h.getD (len:Int)<=(len:Int))then
            aa (.rs id (off+(l.getD 0).toNat*z) ((h.getD (len:Int)).toNat-(l.getD 0).toNat),aj)else ae
    |_=>ae
   | .sl z' es,ae=>bif ao z z'&&ak (0<=l.getD 0)&&ak (l.getD 0<=h.getD (es.length:Int))&&ak (h.getD (es.length:Int)<=(es.length:Int))then
            aa (eO z ((es.take (h.getD (es.length:Int)).toNat).drop (l.getD 0).toNat),aj)else ae
   | .emp,ae=>bif ak (0<=l.getD 0)&&ak (l.getD 0<=h.getD 0)&&ak (h.getD 0<=0)then aa (.emp,aj)else ae
   | .sl z' es,aa m=>bif ao z z'&&ak (0<=l.getD 0)&&ak (l.getD 0<h.getD (es.length:Int))&&ak (h.getD (es.length:Int)<=(es.length:Int))&&h.isSome&&ak (h.getD (es.length:Int)=m)then
            aa (eO z ((es.take (h.getD (es.length:Int)).toNat).drop (l.getD 0).toNat),ah)else bif List.isEmpty es&&(ak (0<=l.getD 0)&&ak (l.getD 0<=h.getD 0)&&ak (h.getD 0<=0)&&h.isSome&&ak (m=0))then aa (.emp,ah)else ae
   | .nil,ae=>bif ak (0<=l.getD 0)&&ak (l.getD 0<=h.getD 0)&&ak (h.getD 0<=0)then aa (.emp,aj)else ae
   | .emp,aa m=>bif ak (0<=l.getD 0)&&ak (l.getD 0<=h.getD 0)&&ak (h.getD 0<=0)&&h.isSome&&ak (m=0)then aa (.emp,ah)else ae
   | .nil,aa m=>bif ak (0<=l.getD 0)&&ak (l.getD 0<=h.getD 0)&&ak (h.getD 0<=0)&&h.isSome&&ak (m=0)then aa (.emp,ah)else ae
   |_,_=>ae
  |_,_,_,_=>ae
 |_=>ae
def Cz:au PV->Nat->au PV->au PV
 |cs,_,[]=>cs
 |cs,off,x::xs=>Cz (cs.set off x) (off+1) xs
def BD(place:Nat->f9 (Nat×Nat))(cs:au PV):au (Nat×PV)->f9 (au PV)
 |[]=>aa cs
 |(i,x)::rest=>match place i with
  |none=>ae
  |some (off,size)=>bif ao x.cells.length size&&aq (off+size) cs.length&&x.cells.all PV.one then BD place (Cz cs off x.cells) rest else ae
def zeroCells(t:aw):f9 (au PV):=
 match cU P (zeroValue t)with
 |some z=>bif z.cells.toList.all bZ then aa (ofVs z.cells.toList)else ae
 |none=>ae
def A4(t:aw)(parts:au (Nat×PV)):f9 PV:=
 match zeroCells P t with
 |some z=>match P.underlying t with
  |some (.struct fs)=>match cU P (fs.mapM λf=>do pure (f.offset,<-Go.sizeOf f.type))with
   |some pl=>(BD (λi=>pl[i]?) z parts).map .agg
   |none=>ae
  |some (.array _ e)=>match iN P e with
   |some s=>(BD (λi=>aa (i*s,s)) z parts).map .agg
   |none=>ae
  |_=>ae
 |none=>ae
def DQ(t:aw)(v:PV):f9 PV:=
 match P.underlying t with
 |some (.slice _)=>match v with
  | .sl _ es=>aa (i64 es.length)
  | .emp=>aa (i64 0)
  | .nil=>aa (i64 0)
  | .rs _ _ n=>aa (i64 n)
  |_=>ae
 |some .string=>match v with
  | .str s=>aa (i64 s.length)
  |_=>ae
 |some (.array n _)=>aa (i64 n)
 |_=>ae
def Tu:au PV->f9 (au Value)
 |[]=>aa []
 |x::xs=>match sN x,Tu xs with
  |some a,aa l=>aa (a::l)
  |_,_=>ae
def pS(mx:Bool)(ts:Array aw)(ty:aw)(as:au PV):f9 PV:=
 match Tu as with
 |some l=>(dU P (bif mx then Builtin.max_ ts ty l.toArray else Builtin.min_ ts ty l.toArray)).map CF
 |none=>ae
structure PS where
 get:Nat->PV×Bool
def PS.none:PS:=⟨λ_=>(.und,aj)⟩
def PS.set(S:PS)(t:Nat)(x:PV×Bool):PS:=⟨λk=>bif ao k t then x else S.get k⟩
def PS.at(S:PS)(i:Nat):PV×Bool:=S.get i
def fl(x:PV)(own:Bool):PV×Bool:=match x with| .nil=>(.emp,ah)|x=>(x,own)
def PS.put(S:PS)(d:f9 Tmp)(x:PV)(own:Bool):PS:=
 match d with
 |some d=>S.set d (x,own)
 |none=>S
def dG(S:PS):a8->PV
 | .tmp t=>(S.at t).1
 | .const v=>CF v
 | .global _=> .und
 | .func f=> .fn f [] []
def lV:PV->Bool
 | .nil=>ah
 |_=>aj
def jC(S:PS):a8->Bool
 | .tmp t=>(S.at t).2||lV (S.at t).1
 | .const (.slice ae _ _)=>ah
 |_=>aj
def oX(S:PS):a8->PS
 | .tmp t=>S.set t ((S.at t).1,aj)
 |_=>S
def kW(p:PSt)(t:aw):PV->f9 PV
 | .pin es i off=>match es[i]? with
  |some e=>sX P t e.cells off
  |none=>ae
 | .ptr id off=>match p.get id with
  |some (.box cs)=>sX P t (cs.map (·.1)) off
  |some (.row _ _ cs)=>sX P t cs off
  |_=>ae
 |_=>ae
def gP(p:PSt):PV->PSt×Bool
 | .ptr id off=>match p.get id with
  |some (.box cs)=>match cs[off]? with
   |some (x,ah)=>(p.mark id (.box (cs.set off (x,aj))),ah)
   |_=>(p,aj)
  |_=>(p,aj)
 |_=>(p,aj)
def DU:PV->Bool
 | .sl _ _| .emp=>ah
 |_=>aj
def eK(take:Bool)(S:PS)(o:ic):f9 (PV×Bool×PS):=
 let r (x:f9 PV):f9 (PV×Bool×PS):=x.map λv=>(v,aj,S)
 match o.op with
 | .move x=>bif take then aa (dG S x,jC S x,oX S x)else aa (dG S x,aj,S)
 | .assign x=>bif take then aa (dG S x,jC S x,oX S x)else aa (dG S x,aj,S)
 | .pick c a b=>match dG S c with
  | .v (.bool ah)=>aa (dG S a,aj,S)
  | .v (.bool aj)=>aa (dG S b,aj,S)
  |_=>ae
 | .build t parts=>r (A4 P t (parts.toList.map λ(i,x)=>(i,dG S x)))
 | .nilCheck x=>match dG S x with
  | .ptr id off=>aa (.ptr id off,aj,S)
  | .pin es i off=>aa (.pin es i off,aj,S)
  |_=>ae
 | .binOp op t x y _=>r (pJ P op t x y (dG S x) (dG S y))
 | .unOp op _ x=>r (bBf P op (dG S x))
 | .convert s d x=>r (Az P s d (dG S x))
 | .makeFunc fn first captured=>match fn with
  | .func f=>aa (.fn f (wks (first.toList.map (dG S))) (wks (captured.toList.map (dG S))),aj,S)
  |_=>ae
 | .fieldAddr s x f=>r (jB P s (dG S x) f)
 | .field t x f=>r (Fm P t (dG S x) f)
 | .indexAddr t x i=>r (gX P t (dG S x) (dG S i))
 | .index t x i=>r (CB P t (dG S x) (dG S i))
 | .extract t i=>match dG S t with
  | .tup vs=>bif take&&ao i 0 then vs[0]?.map λv=>(v,jC S t,oX S t)else r vs[i]?
  |_=>ae
 | .call c=>match c.callee with
  | .builtin .len=>match c.argTypes[0]?,c.args[0]? with
   |some t,aa x=>r (DQ P t (dG S x))
   |_,_=>ae
  | .builtin .min=>r (pS P aj c.argTypes o.type (c.args.toList.map (dG S)))
  | .builtin .max=>r (pS P ah c.argTypes o.type (c.args.toList.map (dG S)))
  |_=>ae
 |_=>ae
def oW(p:PSt)(S:PS)(o:ic)(take:Bool):f9 (PV×Bool×PSt):=
 match o.op with
 | .load t a=>match kW P p t (dG S a)with
  |some v=>bif take&&DU v then aa (v,(gP p (dG S a)).2,(gP p (dG S a)).1)else aa (v,aj,p)
  |none=>ae
 | .slice t x lo hi mx=>(mG P p t (dG S x) (lo.map (dG S)) (hi.map (dG S)) (mx.map (dG S))).map λr=>(r.1,r.2,p)
 |_=>ae
def shape(a:Bool)(s:Nat)(x:PV):Bool:=
 match x with
 | .agg cs=>a&&ao cs.length s&&cs.all PV.pur
 |x=> !a&&ao s 1&&x.pur
def qD(a:Bool)(s:Nat):au PV->au (Nat×PV)->f9 (au PV)
 |es,[]=>aa es
 |es,(i,x)::rest=>bif d9 i es.length&&shape a s x then qD a s (es.set i (wk x)) rest else ae
def pI(x:PV):Nat->au PV
 |0=>[]
 |n+1=>x::pI x n
def jY(l:au PV):Nat->au PV
 |0=>[]
 |n+1=>l++jY l n
def fR(p:PSt)(S:PS)(o:ic):f9 (PV×Bool×PSt):=
 match o.op with
 | .alloc t=>match zeroCells P t with
  |some z=>aa (.ptr p.next 0,aj,p.new (.box (z.map λc=>fl c aj)))
  |none=>ae
 | .box _ x=>bif (dG S x).cells.all PV.one then aa (.ptr p.next 0,aj,p.new (.box ((dG S x).cells.map λc=>fl c aj)))else ae
 | .buildSlice t len parts=>
  match P.underlying t with
  |some (.slice e)=>match iN P e,mB P e,zeroCells P e with
   |some s,aa a,aa z=>
    bif aq (len*s) 1000000&&ao z.length s&&aq 1 s&&(a||ao s 1)then
     match qD a s (pI (wk (bif a then .agg z else z.headD .und)) len) (parts.toList.map λ(i,x)=>(i,dG S x))with
     |some es=>aa (eO s es,ah,p)
     |none=>ae
    else ae
   |_,_,_=>ae
  |_=>ae
 | .makeSlice t l c=>
  match P.underlying t,dG S l,dG S c with
  |some (.slice e),.v (.int .i64 n),.v (.int .i64 k)=>match P.info? e,mB P e with
   |some info,aa a=>match info.zero with
    |some z=>
     bif ak (0<=n)&&ak (n<=k)&&ak (k*(info.bytes:Int)<=1073741824)&&ak (k<=1073741824)&&z.cells.toList.all bZ&&ao z.cells.size info.size&&aq 1 info.size&&(a||ao info.size 1)then
      bif ak (n=0)then aa (.sl info.size [],ah,p)
      else bif ak (n=k)then aa (.rs p.next 0 n.toNat,aj,p.new (.row info.size a (jY (wks (ofVs z.cells.toList)) n.toNat)))
      else ae
     else ae
    |none=>ae
   |_,_=>ae
  |_,_,_=>ae
 |_=>ae
def qE(p:PSt)(t:aw)(a x:PV)(own:Bool):f9 PSt:=
 match a with
 | .ptr id off=>match p.get id,iN P t with
  |some (.box cs),aa n=>bif ao x.cells.length n&&aq (off+n) cs.length&&x.cells.all PV.one then
        aa (p.upd id (.box (cs.take off++x.cells.map (λc=>fl c own)++cs.drop (off+n))))else ae
  |some (.row z a cs),aa n=>bif ao x.cells.length n&&aq (off+n) cs.length&&x.cells.all PV.one then
        aa (p.upd id (.row z a (cs.take off++wks x.cells++cs.drop (off+n))))else ae
  |_,_=>ae
 |_=>ae
def zA(z:Nat)(u:TypeDesc)(x:PV):f9 (au PV):=
 match u with
 | .slice _=>qL z x
 | .string=>match x with
  | .str s=>bif ao z 1 then aa (s.map λb=> .v (.int .u8 b.toNat))else ae
  |_=>ae
 |_=>ae
def zC(S:PS)(c:Call)(s x:a8):f9 (PV×Bool×PS):=
 match c.argTypes.toList with
 |[t,t1]=>
  match P.underlying t,P.underlying t1 with
  |some (.slice e),aa u=>
   match P.info? e with
   |some info=>match qL info.size (dG S s),zA info.size u (dG S x),info.zero with
    |some es,aa xs,aa z=>
     bif aq 1 info.size&&aq 1 info.bytes&&ao z.cells.size info.size then
      match xs with
      |[]=>aa (dG S s,jC S s,oX S s)
      |_=>bif jC S s&&aq ((es.length+xs.length)*info.bytes) 1073741824 then aa (eO info.size (es++xs),ah,oX S s)else ae
     else ae
    |_,_,_=>ae
   |none=>ae
  |_,_=>ae
 |_=>ae
def LX:PV->Bool
 | .sl _ []=>ah
 | .tup (.sl _ []::_)=>ah
 |_=>aj
abbrev jZ:=Nat->au (PV×Bool)->PSt->f9 (PV×Bool×PSt)
def nE(take:Bool):PS->au a8->au (PV×Bool)×PS
 |S,[]=>([],S)
 |S,x::xs=>((wk (dG S x),take&&jC S x&& !LX (dG S x))::(nE take (bif take then oX S x else S) xs).1,(nE take (bif take then oX S x else S) xs).2)
def tF:au PV->au (PV×Bool)
 |[]=>[]
 |x::xs=>(wk x,aj)::tF xs
def uJ(take:Bool)(S:PS)(c:Call):f9 (Nat×au (PV×Bool)):=
 match c.callee with
 | .value f=>match dG S f with
  | .fn g first captured=>aa (g,tF first++((nE take S c.args.toList).1++tF captured))
  |_=>ae
 |_=>ae
def IE(call:jZ)(take:Bool)(p:PSt)(S:PS)(o:ic):f9 (PV×Bool×PS×PSt):=
 match o.op with
 | .store t a x=>(qE P p t (dG S a) (dG S x) (jC S x)).map λp'=>(.und,aj,oX S x,p')
 | .call c=>match c.callee with
  | .builtin .append=>match c.args.toList with
   |[s,x]=>(zC P S c s x).map λr=>(r.1,r.2.1,r.2.2,p)
   |_=>ae
  |_=>match uJ take S c with
   |some (g,args)=>(call g args p).map λr=>(r.1,r.2.1,(nE take S c.args.toList).2,r.2.2)
   |none=>ae
 |_=>ae
inductive Co where
 |op (i:Nat) (take:Bool)
 |app (a i s:Nat)
 |freeze (t:Nat)
def oJ(ops:Array ic)(S:PS)(o:ic):f9 Bool:=
 match o.guard with
 |none=>aa ah
 |some (j,want)=>
  match(ops[j]?.bind (·.dst)).map λd=>(S.at d).1 with
  |some (.v (.bool b))=>aa (b==want)
  |some (.tup [])=>aa aj
  |_=>ae
def keeps(S:PS):au Nat->PS
 |[]=> .none
 |t::ts=>(keeps S ts).set t (S.at t)
def qN(z:Nat):Nat->au PV->au PV
 |0,_=>[]
 |n+1,cs=> .agg (cs.take z)::qN z n (cs.drop z)
def aNj(p:PSt)(x:PV×Bool):f9 ((PV×Bool)×PSt):=
 match x with
 |(.rs id off len,_)=>match p.get id with
  |some (.row z a cs)=>
   bif aq (off+len*z) cs.length&&aq 1 z&&(a||ao z 1)&&cs.all PV.pur then
    aa ((eO z (bif a then qN z len ((cs.drop off).take (len*z))else(cs.drop off).take (len*z)),aj),p.upd id .gone)else ae
  |_=>ae
 |y=>aa (y,p)
def lA(p:PSt)(S:PS)(t:Nat):f9 (PS×PSt):=match aNj p (S.at t)with|some r=>aa (S.set t r.1,r.2)|none=>ae
def kX:au PV->f9 (au UInt8)
 |[]=>aa []
 | .v (.int .u8 n)::r=>(kX r).map (UInt8.ofNat n.toNat:: ·)
 |_=>ae
def CC(s d:aw)(v:PV):f9 PV:=
 match P.underlying s,P.underlying d with
 |some (.slice e),aa .string=>match P.underlying e with
  |some (.int .u8)=>match qL 1 v with
   |some es=>(kX es).map .str
   |none=>ae
  |_=>ae
 |_,_=>ae
def Fg(sq take:Bool)(S:PS)(o:ic):f9 (PV×Bool×PS):=
 match eK P take S o with
 |some r=>aa r
 |none=>bif sq then(match o.op with
  | .convert s d x=>(CC P s d (dG S x)).map λv=>(v,aj,S)
  |_=>ae)else ae
def JL(call:jZ)(sq:Bool)(o:ic)(take:Bool)(S:PS)(p:PSt):f9 (PV×Bool×PS×PSt):=
 match cY o with
 | .pure=>(Fg P sq take S o).map λr=>(r.1,r.2.1,r.2.2,p)
 | .read=>(oW P p S o take).map λr=>(r.1,r.2.1,S,r.2.2)
 | .alloc=>(fR P p S o).map λr=>(r.1,r.2.1,S,r.2.2)
 | .eff=>IE P call take p S o
def Qq(t:Nat):a8->Bool
 | .tmp u=>ao t u
 |_=>aj
def aAE(ts:au aw)(t1 t2:aw)(s:PV)(own:Bool)(zz n x:PV):f9 PV:=
 match ts with
 |[t,tz]=>match P.underlying t,P.underlying tz with
  |some (.slice e),aa u=>match P.info? e,mB P e with
   |some info,aa ag=>match qL info.size s,zA info.size u zz,info.zero,n with
    |some es,aa [_],aa zv,.v (.int _ k)=>
     bif aq 1 info.size&&aq 1 info.bytes&&ao zv.cells.size info.size&&own&&aq ((es.length+1)*info.bytes) 1073741824&&ao t1 t&&ao t2 e&&ak (k=(es.length:Int))&&shape ag info.size x then
      aa (.sl info.size (es++ [wk x]))else ae
    |_,_,_,_=>ae
   |_,_=>ae
  |_,_=>ae
 |_=>ae
def aC8:PV->PV
 | .sl _ es=> .pin es (es.length-1) 0
 |_=> .und
def JO(S:PS)(oA oI oS:ic):f9 PS:=
 match oA.op,oA.dst,oI.op,oI.dst,oS.op,oS.dst with
 | .call c,aa a,.indexAddr t1 (.tmp a') n,aa b,.store t2 (.tmp b') x,ae=>
  match c.callee,c.args.toList with
  | .builtin .append,[s,zz]=>
   bif ao a a'&&ao b b'&& !Nat.beq a b&& !Qq a n&& !Qq a x&& !Qq b x&&oA.guard.isNone&&oI.guard.isNone&&oS.guard.isNone then
    (aAE P c.argTypes.toList t1 t2 (dG S s) (jC S s) (dG S zz) (dG S n) (dG S x)).map λv=>((oX S s).put (aa a) v ah).put (aa b) (aC8 v) aj
   else ae
  |_,_=>ae
 |_,_,_,_,_,_=>ae
def Aj(call:jZ)(ops:Array ic):au Co->PS->PSt->f9 (PS×PSt)
 |[],S,p=>aa (S,p)
 | .app a i s::rest,S,p=>
  match ops[a]?,ops[i]?,ops[s]? with
  |some oA,aa oI,aa oS=>match JO P S oA oI oS with
   |some S'=>Aj call ops rest S' p
   |none=>ae
  |_,_,_=>ae
 | .freeze t::rest,S,p=>match lA p S t with
  |some (S',p')=>Aj call ops rest S' p'
  |none=>ae
 | .op i take::rest,S,p=>
  match ops[i]? with
  |none=>ae
  |some o=>match oJ ops S o with
   |some ah=>match JL P call ah o take S p with
    |some (v,own,S',p')=>Aj call ops rest (S'.put o.dst v own) p'
    |none=>ae
   |some aj=>Aj call ops rest (S.put o.dst (.tup []) aj) p
   |none=>ae
structure kR where
 i:Nat
 o:ic
 a:PV
 v:PV
 stale:Bool
mutual
def Di:PV->PV->Bool
 | .v x,.v y=>gC x y
 | .str a,.str b=>a==b
 | .agg xs,.agg ys=>EP xs ys
 |_,_=>aj
def EP:au PV->au PV->Bool
 |[],[]=>ah
 |x::xs,y::ys=>Di x y&&EP xs ys
 |_,_=>aj
end
def a6M(a:PV):f9 Nat:=match a with| .ptr id _=>aa id|_=>ae
def vid(v:PV):f9 Nat:=match v with| .ptr id _=>aa id| .rs id _ _=>aa id|_=>ae
def aNk(o:ic)(a v:PV):f9 Nat:=match o.op with| .load _ _=>a6M a|_=>vid v
def aBo(p:PSt)(x:f9 Nat):Bool:=match x with|some id=> !p.wr.contains id|none=>aj
def rW(p:PSt)(r:kR):Bool:=
 !r.stale||(aBo p (aNk r.o r.a r.v)||(match r.o.op with
  | .load t _=>(aEE r.v).isSome&&(match kW P p t r.a with|some v=>Di v r.v|none=>aj)
  |_=>aj))
def lJ(o:ic)(S:PS):Bool:=
 match o.op with
 | .load _ a=>match dG S a with| .ptr _ _=>ah|_=>aj
 | .alloc _| .box _ _| .makeSlice _ _ _=>ah
 |_=>aj
def qO(o:ic)(S:PS):PV:=
 match o.op with
 | .load _ a=>dG S a
 |_=> .und
def mK(o:ic):Bool:=
 match o.op with
 | .makeSlice _ _ _=>ah
 |_=>aj
def qG(o:ic):Bool:=
 match o.op with
 | .call c=>match c.callee with| .builtin .append=>ah|_=>aj
 |_=>aj
def lU(call:jZ)(ops:Array ic)(ms:au Nat):au Co->au kR->PS->PSt->f9 (PS×PSt)
 |[],pend,S,p=>bif pend.all (rW P p)then aa (S,p)else ae
 | .app a i s::rest,pend,S,p=>
  match ops[a]?,ops[i]?,ops[s]? with
  |some oA,aa oI,aa oS=>match JO P S oA oI oS with
   |some S'=>bif pend.all (rW P p)&&(pend.filter λr=> !mP (ms.getD a 0) r.i).all (λr=> !mK r.o)then
          lU call ops ms rest (((pend.filter λr=> !mP (ms.getD a 0) r.i).map λr=>bif !mK r.o then r else{r with stale:=ah}).filter λr=> !mP (ms.getD s 0) r.i) S' p
    else ae
   |none=>ae
  |_,_,_=>ae
 | .freeze t::rest,pend,S,p=>match lA p S t with
  |some (S',p')=>lU call ops ms rest pend S' p'
  |none=>ae
 | .op i take::rest,pend,S,p=>
  match ops[i]? with
  |none=>ae
  |some o=>match oJ ops S o with
   |some ah=>match JL P call aj o take S p with
    |some (v,own,S',p')=>
     bif lW o then
      bif pend.all (rW P p)then
       lU call ops ms rest ((pend.filter λr=> !mP (ms.getD i 0) r.i).map λr=>bif qG o&& !mK r.o then r else{r with stale:=ah}) (S'.put o.dst v own) p'
      else ae
     else lU call ops ms rest (bif lJ o S then⟨i,o,qO o S,v,aj⟩::pend else pend) (S'.put o.dst v own) p'
    |none=>ae
   |some aj=>lU call ops ms rest pend (S.put o.dst (.tup []) aj) p
   |none=>ae
inductive PC where
 |skip
 |label (l:Nat)
 |region (id:Nat) (ops:Array ic) (draw:Bool) (ms:List Nat) (sc:List Co)
 |seq (a b:PC)
 |cond (c:a8) (a b:PC)
 |block (id:Nat) (c:PC)
 |loop (c:PC)
 |exit (id:Nat)
 |ret
 |scope (c:PC)
 |other (c:Code)
 |drop (ts:List Nat) (c:PC)
 |ice (t:Nat) (c:PC)
def fI:PC->Code
 | .skip=> .skip
 | .label l=> .label l
 | .region id ops draw _ _=> .region id ops draw
 | .seq a b=> .seq (fI a) (fI b)
 | .cond c a b=> .cond c (fI a) (fI b)
 | .block id c=> .block id (fI c)
 | .loop c=> .loop (fI c)
 | .exit id=> .exit id
 | .ret=> .ret
 | .scope c=> .scope (fI c)
 | .other c=>c
 | .drop _ c=>fI c
 | .ice _ c=>fI c
def BN(body:PS->PSt->f9 (Fl×PS×PSt)):Nat->PS->PSt->f9 (Fl×PS×PSt)
 |0,_,_=>ae
 |n+1,S,p=>match body S p with
  |some (.normal,S',p')=>BN body n S' p'
  |r=>r
def cln(p:PSt):PSt:={p with wr:=[]}
def dty(p p':PSt):PSt:={p' with wr:=p'.wr.foldr HS p.wr}
def a6u(p:PSt):PSt:={p with dirty:=[],wr:=[]}
def Fu(ops:Array ic)(S:PS)(p:PSt):Bool:=
 match aCC ops with
 |none=>ah
 |some (.tmp s,.tmp t)=>match(S.at s).1,(S.at t).1 with
  | .pin _ _ _,.ptr id _=>match p.get id with
   |some (.box _)=>ah
   |_=>aj
  |_,_=>aj
 |_=>aj
def aHY(ops:Array ic):f9 (PS×PSt)->f9 (PS×PSt)
 |some r=>bif Fu ops r.1 r.2 then aa r else ae
 |none=>ae
def fL(call:jZ)(L:Nat):PC->PS->PSt->f9 (Fl×PS×PSt)
 | .skip,S,p=>aa (.normal,S,p)
 | .label _,S,p=>aa (.normal,S,p)
 | .region _ ops draw ms sc,S,p=>
  (bif draw then(aHY ops (lU P call ops ms sc [] S (cln p))).map (λr=>(r.1,dty p r.2))else Aj P call ops sc S p).map λr=>(.normal,r.1,r.2)
 | .seq a b,S,p=>match fL call L a S p with
  |some (.normal,S',p')=>fL call L b S' p'
  |r=>r
 | .cond c a b,S,p=>match dG S c with
  | .v (.bool ah)=>fL call L a S p
  | .v (.bool aj)=>fL call L b S p
  |_=>ae
 | .block id c,S,p=>match fL call L c S p with
  |some (.exit n,S',p')=>bif ao n id then aa (.normal,S',p')else aa (.exit n,S',p')
  |r=>r
 | .loop c,S,p=>BN (λS p=>fL call L c S p) L S p
 | .exit id,S,p=>aa (.exit id,S,p)
 | .ret,S,p=>aa (.ret,S,p)
 | .scope c,S,p=>fL call L c S p
 | .other _,_,_=>ae
 | .drop ts c,S,p=>fL call L c (keeps S ts) p
 | .ice t c,S,p=>match lA p S t with
  |some (S',p')=>fL call L c S' p'
  |none=>ae
def uH(S:PS)(p:PSt):ResultVar->f9 (PV×Bool)
 | .tmp t=>aa (S.at t)
 | .cell a t=>(kW P p t (S.at a).1).map λv=>(v,aj)
def iG(S:PS)(p:PSt):au ResultVar->f9 (au (PV×Bool))
 |[]=>aa []
 |r::rs=>match uH P S p r,iG S p rs with
  |some v,aa vs=>aa (v::vs)
  |_,_=>ae
def aHh:PV->Bool
 | .sl _ _| .emp| .nil=>ah
 |_=>aj
def eS:au (PV×Bool)->PV×Bool
 |[v]=>(wk v.1,(v.2||lV v.1)&& !LX v.1)
 |v::vs=>(.tup (wks ((v::vs).map (·.1))),(v.2||lV v.1)&& !LX v.1&&aHh v.1)
 |[]=>(.tup [],aj)
def B0:au (PV×Bool)->Nat->PS->PS
 |[],_,S=>S
 |v::vs,i,S=>B0 vs (i+1) (S.set i v)
def aIS(q:Tr lT)(id:Nat)(m:Tr lT):Tr lT:=match q.get id with|some o=>m.set id o|none=>m
def yF(n:Nat)(q:Tr lT)(id:Nat):Bool:=match q.get id with|some o=>vF n o|none=>aj
def settle(p:PSt)(r:PV)(p':PSt):PSt:=
 bif below p.next r&&(p'.dirty.filter λid=>d9 id p.next).all (yF p.next p'.mem)then
  ⟨(p'.dirty.filter λid=>d9 id p.next).foldr (aIS p'.mem) p.mem,p.next,(p'.dirty.filter λid=>d9 id p.next).foldr HS p.dirty,(p'.wr.filter λid=>d9 id p.next).foldr HS p.wr⟩
 else⟨p'.mem,p'.next,(p'.dirty.filter λid=>d9 id p.next).foldr HS p.dirty,(p'.wr.filter λid=>d9 id p.next).foldr HS p.wr⟩
abbrev aKQ:=Nat->f9 (PC×au ResultVar)
end
end Go.PI
