import Derived.WalkKit
set_option linter.unusedVariables false
set_option linter.unusedSimpArgs false
set_option linter.constructorNameAsVariable false
set_option linter.defProp false
universe u v
namespace Go.AI
def aA{N:Type u}(a b:N):(some a=some b)=(a=b):=Option.some.injEq a b
def aB{N:Type u}{W:Type v}(a:N)(b:W)(c:N)(d:W):((a,b)=(c,d))=(a=c/\b=d):=Prod.mk.injEq a b c d
def aC(a b:Bool):((a&&b)=true)=(a=true/\b=true):=Bool.and_eq_true a b
def aD{p:Prop}[Decidable p]:(decide p=true)=p:=decide_eq_true_eq
def aE{n m:Nat}(h:Nat.beq n m=true):n=m:=Nat.eq_of_beq_eq_true h
def aF{N:Type u}{W:Type v}{b:W}{f:N->W}{o:Option N}:o.map f=some b↔∃a,o=some a/\f a=b:=Option.map_eq_some_iff
def aG{N:Type u}(y:N){a:N}{l:List N}(h:a∈l):a∈y::l:=List.mem_cons_of_mem y h
def aH{N:Type u}{a:N}{l:List N}:a∈a::l:=List.mem_cons_self
def aI{N:Sort u}(a b:N):(bif true then a else b)=a:=rfl
def aJ{N:Sort u}(a b:N):(bif false then a else b)=b:=rfl
def aK{N:Type u}{W:Type v}(a:N)(f:N->W):Option.map f (some a)=some (f a):=rfl
def aL{N:Type u}{W:Type v}(a:N)(f:N->Option W):(some a).bind f=f a:=rfl
def aM{N:Type u}{a:N}{l:List N}:(a::l).length=l.length+1:=rfl
def aN{N:Type u}{W:Type v}{x:N}{l:List N}{f:N->List W}:List.flatMap f (x::l)=f x++List.flatMap f l:=List.flatMap_cons
def aO{N:Type u}{W:Type v}{f:N->W}{a:N}{l:List N}:List.map f (a::l)=f a::List.map f l:=rfl
def aP{N:Type u}{a:N}{l:List N}{f:N->Bool}:(a::l).all f=(f a&&l.all f):=List.all_cons
def aQ{N:Type u}(a b c:List N):a++b++c=a++(b++c):=List.append_assoc a b c
def aR{N:Type u}{x:N}{l:List N}:[x]++l=x::l:=rfl
def aS(n:Nat):n<=n:=Nat.le_refl n
def aT{N:Type u}{a:N}{i:Nat}{l:List N}:(a::l)[i+1]?=l[i]?:=List.getElem?_cons_succ
def aU{N:Type u}{a:N}{l:List N}:(a::l)[0]?=some a:=List.getElem?_cons_zero
def aV{N:Type u}{l:List N}{i:Nat}(h:i<l.length):l[i]?=some l[i]:=List.getElem?_eq_getElem h
def aW{N:Type u}(l:List N):[]++l=l:=rfl
def aX{N:Type u}:([]:List N).length=0:=rfl
def aY{N:Type u}{a:N}{l m:List N}:a::l++m=a::(l++m):=rfl
def aZ{N:Type u}{l m:List N}:(l++m).length=l.length+m.length:=List.length_append
def bA{N:Type u}(l:List N):l++ []=l:=List.append_nil l
def bB{N:Type u}{W:Type v}{f:N->List W}:List.flatMap f []=[]:=rfl
def bC{p:Prop}{_:Decidable p}:decide p=false↔¬p:=decide_eq_false_iff_not
def bD:(!true)=false:=rfl
def bE(b:Bool):(b&&true)=b:=Bool.and_true b
def bF{p:Prop}[Decidable p](h:p):decide p=true:=decide_eq_true h
def bG{p:Prop}[Decidable p](h: ¬p):decide p=false:=decide_eq_false h
def bH{c:Prop}{_:Decidable c}(h: ¬c){N:Sort u}{t e:N}:(if c then t else e)=e:=if_neg h
def bI{c:Prop}{_:Decidable c}(h:c){N:Sort u}{t e:N}:(if c then t else e)=t:=if_pos h
def bJ{N:Type u}{p:N->Bool}{l:List N}:l.all p=true↔∀x,x∈l->p x=true:=List.all_eq_true
def bK{n m:Nat}(h:Nat.ble n m=true):n<=m:=Nat.le_of_ble_eq_true h
end Go.AI
namespace Go.AI
inductive Tr(N:Type) where
 |nil:Tr N
 |node:Option N->Tr N->Tr N->Tr N
def Tr.get{N:Type}:Tr N->Nat->Option N
 | .nil,_=>none
 | .node v l r,n=>bif Nat.beq n 0 then v else bif Nat.beq (n%2) 1 then l.get (n/2)else r.get (n/2-1)
def Tr.setF{N:Type}:Nat->Tr N->Nat->N->Tr N
 |0,t,_,_=>t
 |f+1,.nil,n,x=>
  bif Nat.beq n 0 then .node (some x) .nil .nil
  else bif Nat.beq (n%2) 1 then .node none (Tr.setF f .nil (n/2) x) .nil else .node none .nil (Tr.setF f .nil (n/2-1) x)
 |f+1,.node v l r,n,x=>
  bif Nat.beq n 0 then .node (some x) l r
  else bif Nat.beq (n%2) 1 then .node v (Tr.setF f l (n/2) x) r else .node v l (Tr.setF f r (n/2-1) x)
def Tr.set{N:Type}(t:Tr N)(n:Nat)(x:N):Tr N:=Tr.setF (n+1) t n x
def bN:Value->Bool
 | .bool _| .int _ _| .float _ _| .complex _ _ _| .string _=>true
 | .pointer none| .map none| .chan none| .nilFunc| .nilIface=>true
 | .slice none l c=>Nat.beq l 0&&Nat.beq c 0
 |_=>false
def cK:Value->Bool
 | .agg cs=>cs.toList.all bN
 |v=>bN v
def cI{N:Type}(p:Program):Sem N->Option N
 | .pure a=>some a
 | .program k=>cI p (k p)
 | .mark _ k=>cI p k
 |_=>none
def cQ(p:Program)(s:Sem Value):Option Value:=
 match cI p s with
 |some v=>bif cK v then some v else none
 |none=>none
def one:Value->Bool
 | .agg _| .tuple _=>false
 |_=>true
mutual
def fP:Value->Value->Bool
 | .bool a,.bool b=>a==b
 | .int j a,.int k b=>(j==k)&&(a==b)
 | .float j a,.float k b=>(j==k)&&(a==b)
 | .complex j a c,.complex k b d=>(j==k)&&(a==b)&&(c==d)
 | .string a,.string b=>a.data.toList==b.data.toList
 | .pointer a,.pointer b=>a==b
 | .slice a l c,.slice b m d=>(a==b)&&(l==m)&&(c==d)
 | .map a,.map b=>a==b
 | .chan a,.chan b=>a==b
 | .func f ⟨xs⟩ ⟨ys⟩,.func g ⟨us⟩ ⟨vs⟩=>(f==g)&&qW xs us&&qW ys vs
 | .nilFunc,.nilFunc=>true
 | .iface t v,.iface u w=>(t==u)&&fP v w
 | .nilIface,.nilIface=>true
 | .agg ⟨xs⟩,.agg ⟨ys⟩=>qW xs ys
 | .tuple ⟨xs⟩,.tuple ⟨ys⟩=>qW xs ys
 |_,_=>false
def qW:List Value->List Value->Bool
 |[],[]=>true
 |x::xs,y::ys=>fP x y&&qW xs ys
 |_,_=>false
end
structure pM where
 wr:Bool
 tip:Bool
 z:Nat
 grp:Option (Nat×Nat)
 lim:Nat:=0
inductive AObj where
 |cells (cs:List Value) (m:pM)
 |map (es:List (Value×Value))
structure St where
 mem:Tr AObj
 vers:Tr Nat
 next:Nat
def St.get(H:St)(id:Nat):Option AObj:=H.mem.get id
def St.put(H:St)(id:Nat)(o:AObj):St:={H with mem:=H.mem.set id o}
def St.ver(H:St)(g:Nat):Nat:=(H.vers.get g).getD 0
def St.bump(H:St)(g:Nat)(v:Nat):St:={H with vers:=H.vers.set g v}
def St.good(H:St)(m:pM):Bool:=
 match m.grp with
 |none=>true
 |some (g,v)=>Nat.beq (H.ver g) v
def St.row(H:St)(id:Nat):Option (List Value×pM):=
 match H.get id with
 |some (.cells cs m)=>bif H.good m then some (cs,m)else none
 |_=>none
def boxMeta:pM:={wr:=true,tip:=false,z:=0,grp:=none}
def eE(z:Nat):pM:={wr:=true,tip:=false,z,grp:=none}
def cut(cs:List Value)(off n:Nat):Option (List Value):=
 let l:=(cs.drop off).take n
 bif Nat.beq l.length n then some l else none
def gQ:List Value->Nat->List Value->List Value
 |cs,_,[]=>cs
 |cs,off,x::xs=>gQ (cs.set off x) (off+1) xs
section
variable(P:Program)
def gU(t:TypeId):Option Nat:=(P.info? t).map (·.size)
def jS(t:TypeId):Option Bool:=(P.underlying t).map fun| .struct _=>true| .array _ _=>true|_=>false
def nE(H:St)(t:TypeId):Value->Option Value
 | .pointer (some ⟨id,off,none⟩)=>
  match H.row id with
  |some (cs,_)=>
   match jS P t with
   |some true=>match gU P t with
    |some n=>(cut cs off n).map λl=> .agg l.toArray
    |none=>none
   |some false=>cs[off]?
   |none=>none
  |none=>none
 |_=>none
def cV(i:Int)(n:Nat):Bool:=decide (0<=i)&&decide (i<(n:Int))
def pD(s:TypeId)(v:Value)(f:Nat):Option Value:=
 match P.underlying s with
 |some (.struct fs)=>match fs[f]? with
  |some fd=>match gU P fd.type with
   |some n=>match v with
    | .pointer (some ⟨id,off,none⟩)=>bif Nat.beq n 0 then none else some (.pointer (some ⟨id,off+fd.offset,none⟩))
    |_=>none
   |none=>none
  |none=>none
 |_=>none
def Bi(t:TypeId)(cs:Array Value)(off:Nat):Option Value:=
 match jS P t with
 |some true=>match gU P t with
  |some n=>some (.agg (cs.extract off (off+n)))
  |none=>none
 |some false=>cs[off]?
 |none=>none
def Fc(t:TypeId)(v:Value)(f:Nat):Option Value:=
 match P.underlying t with
 |some (.struct fs)=>match fs[f]? with
  |some fd=>match v with
   | .agg cs=>Bi P fd.type cs fd.offset
   |_=>none
  |none=>none
 |_=>none
def jM(t:TypeId)(v i:Value):Option Value:=
 match i with
 | .int _ n=>
  match P.underlying t with
  |some (.slice e)=>match v with
   | .slice (some ⟨id,off,none⟩) len _=>match gU P e with
    |some z=>bif cV n len then some (.pointer (some ⟨id,off+n.toNat*z,none⟩))else none
    |none=>none
   |_=>none
  |some (.array len e)=>match v with
   | .pointer (some ⟨id,off,none⟩)=>match gU P e with
    |some z=>bif cV n len then some (.pointer (some ⟨id,off+n.toNat*z,none⟩))else none
    |none=>none
   |_=>none
  |_=>none
 |_=>none
def Fb(t:TypeId)(v i:Value):Option Value:=
 match P.underlying t with
 |some (.string)=>bif bN v&&bN i then cQ P (Instr.index t v i)else none
 |some (.array len e)=>match i,v with
  | .int _ n,.agg cs=>match gU P e with
   |some z=>bif cV n len then Bi P e cs (n.toNat*z)else none
   |none=>none
  |_,_=>none
 |_=>none
def Fe(t:TypeId)(parts:Array (Nat×Value)):Option Value:=
 match cI P (zeroValue t)with
 |some z=>
  bif z.cells.toList.all bN then
   match P.underlying t with
   |some (.struct fs)=>
    match cI P (fs.mapM λf=>do pure (f.offset,<-Go.sizeOf f.type))with
    |some places=>(Instr.fill (λi=>places[i]?) z.cells parts.toList).map .agg
    |none=>none
   |some (.array _ e)=>
    match gU P e with
    |some s=>(Instr.fill (λi=>some (i*s,s)) z.cells parts.toList).map .agg
    |none=>none
   |_=>none
  else none
 |none=>none
def nZ:Option Value->Option (Option Int)
 |none=>some none
 |some (.int _ n)=>some (some n)
 |_=>none
def qD(H:St)(id z:Nat):Bool:=
 match H.row id with
 |some (_,m)=>Nat.beq m.z z
 |none=>false
def EO:Value:= .slice (some ⟨0,0,some 0⟩) 0 0
def zO:Option Addr->Value
 |none=> .slice none 0 0
 |some _=> .slice (some ⟨0,0,some 1⟩) 0 0
def BK:Option Int->Bool
 |some n=>decide (n=0)
 |none=>false
def vP(H:St)(t:TypeId)(v:Value)(lo hi mx:Option Value):Option Value:=
 match P.underlying t with
 |some .string=>match v with
  | .string _=>bif mx.isNone&&bN (lo.getD (.bool true))&&bN (hi.getD (.bool true))then cQ P (Instr.sliceAt t v lo hi mx)else none
  |_=>none
 |some (.slice e)=>match v with
  | .slice a len c=>match gU P e,nZ lo,nZ hi,nZ mx with
   |some z,some l,some h,some m=>
    let l:=l.getD 0
    let h':=h.getD (len:Int)
    bif decide (0<=l)&&decide (l<=h')&&decide (h'<=(len:Int))then
     bif Nat.beq len 0&&BK m&&h.isSome then some (zO a)else
     match a with
     |none=>bif mx.isNone then some (.slice none 0 0)else none
     |some ⟨id,off,none⟩=>
      bif qD H id z then
      match m with
      |none=>
       bif Nat.beq c len&&Nat.beq h'.toNat len then
        bif Nat.beq l.toNat len then some (.slice (some ⟨id,off,none⟩) 0 0)
        else some (.slice (some ⟨id,off+l.toNat*z,none⟩) (len-l.toNat) (len-l.toNat))
       else bif Nat.beq h'.toNat len&&Nat.beq l.toNat 0 then some v
       else bif decide (l<(len:Int))then some (.slice (some ⟨id,off+l.toNat*z,none⟩) (h'.toNat-l.toNat) (h'.toNat-l.toNat+1))
       else some EO
      |some m=>
       bif decide (h'=m)&&decide (l<m)&&h.isSome then some (.slice (some ⟨id,off+l.toNat*z,none⟩) (h'.toNat-l.toNat) (h'.toNat-l.toNat))else none
      else bif Nat.beq len 0&&mx.isNone then some v else none
     |some ⟨_,_,some _⟩=>bif Nat.beq len 0&&mx.isNone then some v else none
    else none
   |_,_,_,_=>none
  |_=>none
 |some (.array n e)=>match v,lo,hi,mx,gU P e with
  | .pointer (some ⟨id,off,none⟩),none,none,none,some _=>bif qD H id 0 then some (.slice (some ⟨id,off,none⟩) n n)else none
  |_,_,_,_,_=>none
 |_=>none
def SY(op:BinOp)(x y:Value):Option Value:=
 let r (b:Bool):Option Value:=match op with
  | .eql=>some (.bool b)
  | .neq=>some (.bool (!b))
  |_=>none
 match x,y with
 | .slice (some _) _ _,.slice none _ _=>r false
 | .slice none _ _,.slice (some _) _ _=>r false
 |_,_=>none
def aFT(t:TypeId)(v:Value):Option Value:=
 match P.underlying t with
 |some (.slice _)=>match v with
  | .slice _ n _=>some (goInt n)
  |_=>none
 |some .string=>match v with
  | .string s=>some (goInt s.size)
  |_=>none
 |some (.array n _)=>some (goInt n)
 |_=>none
def rS(Z:Operand->Value)(o:Oper)(c:Call):Option Value:=
 match c.callee with
 | .builtin .len=>match c.argTypes[0]?,c.args[0]? with
  |some t,some x=>aFT P t (Z x)
  |_,_=>none
 | .builtin .min=>bif (c.args.map Z).toList.all bN then cQ P (Builtin.min_ c.argTypes o.type (c.args.map Z))else none
 | .builtin .max=>bif (c.args.map Z).toList.all bN then cQ P (Builtin.max_ c.argTypes o.type (c.args.map Z))else none
 |_=>none
def lL(Z:Operand->Value)(o:Oper):Option Value:=
 match o.op with
 | .move x=>some (Z x)
 | .assign x=>some (Z x)
 | .pick c a b=>match Z c with
  | .bool true=>some (Z a)
  | .bool false=>some (Z b)
  |_=>none
 | .build t parts=>Fe P t (parts.map λ(i,x)=>(i,Z x))
 | .nilCheck x=>match Z x with
  | .pointer (some a)=>some (.pointer (some a))
  |_=>none
 | .binOp op t x y _=>
  bif cK (Z x)&&cK (Z y)then cQ P (do eqGuard op t x y (Z x) (Z y);binOp op t (Z x) (Z y))
  else match P.underlying t with
   |some (.slice _)=>SY op (Z x) (Z y)
   |_=>none
 | .unOp op _ x=>bif bN (Z x)then cQ P (Op.unary op (Z x))else none
 | .convert s d x=>bif bN (Z x)then cQ P (convert s d (Z x))else none
 | .makeFunc fn first captured=>some (.func fn (first.map Z) (captured.map Z))
 | .fieldAddr s x f=>pD P s (Z x) f
 | .field t x f=>Fc P t (Z x) f
 | .indexAddr t x i=>jM P t (Z x) (Z i)
 | .index t x i=>Fb P t (Z x) (Z i)
 | .extract t i=>match Z t with
  | .tuple vs=>vs[i]?
  |_=>none
 | .call c=>rS P Z o c
 |_=>none
def kQ(H:St)(Z:Operand->Value)(o:Oper):Option Value:=
 match o.op with
 | .load t a=>nE P H t (Z a)
 | .slice t x lo hi mx=>vP P H t (Z x) (lo.map Z) (hi.map Z) (mx.map Z)
 |_=>none
def eI(z:List Value):Nat->List Value
 |0=>[]
 |n+1=>z++eI z n
def gZ(Z:Operand->Value)(o:Oper)(id:Nat):Option (Value×AObj):=
 match o.op with
 | .alloc t=>match cI P (zeroValue t)with
  |some z=>bif z.cells.toList.all bN then some (.pointer (some ⟨id,0,none⟩),.cells z.cells.toList boxMeta)else none
  |none=>none
 | .box _ x=>bif (Z x).cells.toList.all one then some (.pointer (some ⟨id,0,none⟩),.cells (Z x).cells.toList boxMeta)else none
 | .buildSlice t len parts=>
  match P.underlying t with
  |some (.slice e)=>match gU P e with
   |some s=>match cI P (zeroValue e)with
    |some z=>
     bif z.cells.toList.all bN&&Nat.ble (len*s) 1000000&&Nat.beq z.cells.size s&&Nat.ble 1 s then
      (Instr.fill (λi=>some (i*s,s)) (eI z.cells.toList len).toArray (parts.map λ(i,x)=>(i,Z x)).toList).map
       λcs=>(.slice (some ⟨id,0,none⟩) len len,.cells cs.toList (eE s))
     else none
    |none=>none
   |none=>none
  |_=>none
 | .makeSlice t l c=>
  match P.underlying t,Z l,Z c with
  |some (.slice e),.int .i64 n,.int .i64 k=>match P.info? e with
   |some info=>match info.zero with
    |some z=>
     bif decide (0<=n)&&decide (n<=k)&&decide (k*(info.bytes:Int)<=1073741824)&&decide (k<=1073741824)&&z.cells.toList.all bN&&Nat.beq z.cells.size info.size&&Nat.ble 1 info.size then
      bif decide (n=k)then some (.slice (some ⟨id,0,none⟩) n.toNat n.toNat,.cells (eI z.cells.toList n.toNat) (eE info.size))
      else some (.slice (some ⟨id,0,none⟩) n.toNat (n.toNat+1),.cells (eI z.cells.toList n.toNat) {wr:=true,tip:=true,z:=info.size,grp:=some (id,0)})
     else none
    |none=>none
   |none=>none
  |_,_,_=>none
 |_=>none
def eT(H:St)(t:TypeId)(a x:Value):Option St:=
 match a with
 | .pointer (some ⟨id,off,none⟩)=>
  match H.row id,gU P t with
  |some (cs,m),some n=>
   bif m.wr&&Nat.beq x.cells.size n&&Nat.ble (off+n) cs.length&&x.cells.toList.all one then
    match m.grp with
    |none=>some (H.put id (.cells (gQ cs off x.cells.toList) m))
    |some (g,v)=>bif m.tip&&Nat.ble m.lim off then some (H.put id (.cells (gQ cs off x.cells.toList) m))else some ((H.put id (.cells (gQ cs off x.cells.toList) {m with grp:=some (g,v+1)})).bump g (v+1))
   else none
  |_,_=>none
 |_=>none
def tB(H:St)(z:Nat):Value->Option (Nat×List Value)
 | .slice none _ _=>some (0,[])
 | .slice (some ⟨id,off,none⟩) n _=>match H.row id with
  |some (cs,_)=>(cut cs off (n*z)).map λl=>(n,l)
  |none=>none
 | .string s=>bif Nat.beq z 1 then some (s.size,s.data.toList.map λb=> .int .u8 b.toNat)else none
 | .slice (some ⟨_,_,some _⟩) 0 _=>some (0,[])
 |_=>none
def gM(z id:Nat):pM:={wr:=true,tip:=true,z,grp:=some (id,0)}
def mC(H:St)(bv z bytes n:Nat)(xs:List Value)(s:Value):Option (Value×St):=
 match s with
 | .slice none _ _=>
  bif Nat.ble (n*bytes) 1073741824 then some (.slice (some ⟨bv,0,none⟩) n (n+1),H.put bv (.cells xs (gM z bv)))else none
 | .slice (some ⟨id,off,none⟩) len k=>
  bif Nat.ble ((len+n)*bytes) 1073741824 then
   match H.row id with
   |some (cs,m)=>
    match cut cs off (len*z)with
    |some old=>
     bif Nat.beq k len then some (.slice (some ⟨bv,0,none⟩) (len+n) (len+n+1),H.put bv (.cells (old++xs) (gM z bv)))
     else bif m.tip&&m.wr&&Nat.beq m.z z&&Nat.beq (off+len*z) cs.length&&m.grp.isSome then
      some (.slice (some ⟨bv,0,none⟩) (len+n) (len+n+1),(H.put id (.cells cs {m with tip:=false})).put bv (.cells (old++xs) {m with lim:=old.length}))
     else none
    |none=>none
   |none=>none
  else none
 | .slice (some ⟨_,_,some s⟩) _ _=>
  bif Nat.beq s 1&&Nat.ble (n*bytes) 1073741824 then some (.slice (some ⟨bv,0,none⟩) n (n+1),H.put bv (.cells xs (gM z bv)))else none
 |_=>none
def gO:Value->Bool
 | .slice .. =>true
 |_=>false
def Gd(u:TypeDesc)(x:Value):Bool:=
 match u with
 | .slice _=>gO x
 | .string=> !gO x
 |_=>false
def mQ(H:St)(bv:Nat)(c:Call)(s x:Value):Option (Value×St):=
 match c.argTypes.toList with
 |[t,t1]=>
  match P.underlying t,P.underlying t1 with
  |some (.slice e),some u=>
   bif Gd u x then
    match P.info? e with
    |some info=>
     match tB H info.size x,info.zero with
     |some (n,xs),some z=>
      bif xs.all one&&Nat.ble 1 info.size&&Nat.ble 1 info.bytes&&Nat.beq z.cells.size info.size&&gO s then
       bif Nat.beq n 0 then some (s,H)else mC H bv info.size info.bytes n xs s
      else none
     |_,_=>none
    |none=>none
   else none
  |_,_=>none
 |_=>none
inductive OK where
 |pure|read|alloc|eff
def cO(o:Oper):OK:=
 match o.op with
 | .load .. | .lookup .. | .slice .. => .read
 | .alloc .. | .box .. | .buildSlice .. | .makeSlice .. | .makeMap .. => .alloc
 | .store .. | .mapUpdate .. | .insert .. => .eff
 | .call c=>match c.callee with
  | .builtin .len| .builtin .min| .builtin .max=> .pure
  |_=> .eff
 |_=> .pure
def De(Z:Operand->Value)(c:Call):Option (FuncId×Array Value):=
 match c.callee with
 | .value f=>match Z f with
  | .func (.func g) first captured=>some (g,first++c.args.map Z++captured)
  |_=>none
 |_=>none
def tU(call:FuncId->Array Value->St->Option (Value×St))(H:St)(Z:Operand->Value)(o:Oper)(bv:Nat):Option (Value×St):=
 match o.op with
 | .store t a x=>(eT P H t (Z a) (Z x)).map λH'=>(undef,H')
 | .call c=>match c.callee with
  | .builtin .append=>match c.args.toList with
   |[s,x]=>mQ P H bv c (Z s) (Z x)
   |_=>none
  |_=>match De Z c with
   |some (g,args)=>call g args H
   |none=>none
 |_=>none
abbrev Slots:=Tr Value
def Slots.at(S:Slots)(i:Nat):Value:=(Tr.get S i).getD undef
def ev(S:Slots):Operand->Value
 | .tmp t=>S.at t
 | .const v=>v
 | .global g=> .pointer (some ⟨g,0,none⟩)
 | .func f=> .func (.func f) #[] #[]
def Slots.store(S:Slots)(d:Option Tmp)(v:Value):Slots:=
 match d with
 |some d=>Tr.set S d v
 |none=>S
def wanted(ops:Array Oper)(S:Slots)(o:Oper):Bool:=
 match o.guard with
 |none=>true
 |some (j,want)=>
  match(ops[j]?.bind (·.dst)).map S.at with
  |some (.bool b)=>b==want
  |_=>false
def bytesOf:List Value->Option (List Int)
 |[]=>some []
 | .int .u8 n::r=>(bytesOf r).map (n:: ·)
 |_=>none
def sZ(H:St)(s d:TypeId)(v:Value):Option Value:=
 match P.underlying s,P.underlying d with
 |some (.slice e),some .string=>match P.underlying e with
  |some (.int .u8)=>match v with
   | .slice (some ⟨id,off,none⟩) n _=>match H.row id with
    |some (cs,_)=>match cut cs off n with
     |some l=>(bytesOf l).map λns=> .string (ns.foldl (λr n=>r.push (UInt8.ofNat n.toNat)) ByteArray.empty)
     |none=>none
    |none=>none
   | .slice (some ⟨_,_,some _⟩) 0 _=>some (.string ByteArray.empty)
   |_=>none
  |_=>none
 |_,_=>none
def vQ(H:St)(Z:Operand->Value)(o:Oper):Option Value:=
 match lL P Z o with
 |some v=>some v
 |none=>match o.op with
  | .convert s d x=>sZ P H s d (Z x)
  |_=>none
def mP(call:FuncId->Array Value->St->Option (Value×St))(base:Nat)(i:Nat)(o:Oper)(S:Slots)(H:St):Option (Value×St):=
 match cO o with
 | .pure=>(vQ P H (ev S) o).map λv=>(v,H)
 | .read=>(kQ P H (ev S) o).map λv=>(v,H)
 | .alloc=>(gZ P (ev S) o (base+i)).map λ(v,b)=>(v,H.put (base+i) b)
 | .eff=>tU P call H (ev S) o (base+i)
def fR(call:FuncId->Array Value->St->Option (Value×St))(ops:Array Oper)(base:Nat):List Oper->Nat->Slots->St->Option (Slots×St)
 |[],_,S,H=>some (S,H)
 |o::rest,i,S,H=>
  bif wanted ops S o then
   match mP P call base i o S H with
   |some (v,H')=>fR call ops base rest (i+1) (S.store o.dst v) H'
   |none=>none
  else fR call ops base rest (i+1) (S.store o.dst undef) H
def kN(o:Oper):Bool:=match cO o with| .eff=>true|_=>false
def sM(ms:List Nat)(o:Oper):Nat:=
 o.after.toList.foldl (λm e=>bif Region.binds .any e then(m|||(1<<<e.on))|||ms.getD e.on 0 else m) 0
def eD:List Oper->List Nat->List Nat
 |[],ms=>ms
 |o::os,ms=>eD os (ms++ [sM ms o])
def jC(m i:Nat):Bool:=Nat.beq ((m>>>i)%2) 1
def aLF:List Oper->Nat->List Nat
 |[],_=>[]
 |o::os,i=>bif kN o then i::aLF os (i+1)else aLF os (i+1)
def aOB(ms:List Nat)(es:List Nat)(i:Nat):Nat:=(es.filter λe=>jC (ms.getD i 0) e).length
def GZ(ms:List Nat)(all es:List Nat)(quiet:List Nat):Nat->List Nat->List Nat
 |k,[]=>quiet.filter λi=>Nat.beq (aOB ms all i) k
 |k,e::rest=>(quiet.filter λi=>Nat.beq (aOB ms all i) k)++e::GZ ms all es quiet (k+1) rest
def oD(ops:Array Oper)(ms:List Nat):List Nat:=
 let es:=aLF ops.toList 0
 GZ ms es es ((List.range ops.size).filter λi=> !(es.contains i)) 0 es
def HM(ops:Array Oper):Option (Nat×Nat):=match(aLF ops.toList 0).reverse with|y::x::_=>some (x,y)|_=>none
def HN(ops:Array Oper):Option (Operand×Operand):=
 match HM ops with
 |none=>none
 |some (i,j)=>match ops[i]?,ops[j]? with
  |some x,some y=>match x.op,y.op,x.guard,y.guard,x.dst,y.dst with
   | .store _ a _,.store _ b _,none,none,none,none=>bif !Nat.blt i j||jC ((eD ops.toList []).getD j 0) i then none else some (a,b)
   |_,_,_,_,_,_=>none
  |_,_=>none
def aXV(ops:Array Oper)(c:List Nat):List Nat:=
 match HN ops,HM ops with
 |some _,some (x,y)=>(c.filter λi=>Nat.blt i x)++x::((c.filter λi=>Nat.blt x i&& !Nat.beq i y)++ [y])
 |_,_=>c
def pX(ops:Array Oper)(ms:List Nat):List Nat:=aXV ops (oD ops ms)
structure iC where
 i:Nat
 o:Oper
 S:Slots
 v:Value
 ob:Option AObj
def uG(m n:pM):Bool:=(m.wr==n.wr)&&(m.tip==n.tip)&&Nat.beq m.z n.z&&(m.grp==n.grp)&&Nat.beq m.lim n.lim
def Aq:List (Value×Value)->List (Value×Value)->Bool
 |[],[]=>true
 |x::xs,y::ys=>fP x.1 y.1&&fP x.2 y.2&&Aq xs ys
 |_,_=>false
def pR:AObj->AObj->Bool
 | .cells cs m,.cells ds n=>qW cs ds&&uG m n
 | .map es,.map fs=>Aq es fs
 |_,_=>false
def check(base:Nat)(H:St)(r:iC):Bool:=
 match r.ob with
 |none=>match kQ P H (ev r.S) r.o with
  |some v=>fP v r.v
  |none=>false
 |some ob=>match H.get (base+r.i)with
  |some ob'=>pR ob' ob
  |none=>false
def dO(call:FuncId->Array Value->St->Option (Value×St))(ops:Array Oper)(ms:List Nat)(base:Nat):List Nat->List iC->Slots->St->Option (Slots×St)
 |[],pend,S,H=>bif pend.all (check P base H)then some (S,H)else none
 |i::rest,pend,S,H=>
  match ops[i]? with
  |none=>none
  |some o=>
   bif wanted ops S o then
    match cO o with
    | .pure=>match lL P (ev S) o with
     |some v=>dO call ops ms base rest pend (S.store o.dst v) H
     |none=>none
    | .read=>match kQ P H (ev S) o with
     |some v=>dO call ops ms base rest (⟨i,o,S,v,none⟩::pend) (S.store o.dst v) H
     |none=>none
    | .alloc=>match gZ P (ev S) o (base+i)with
     |some (v,ob)=>dO call ops ms base rest (⟨i,o,S,v,some ob⟩::pend) (S.store o.dst v) (H.put (base+i) ob)
     |none=>none
    | .eff=>bif pend.all (check P base H)then
            match tU P call H (ev S) o (base+i)with
            |some (v,H')=>dO call ops ms base rest (pend.filter λr=> !jC (ms.getD i 0) r.i) (S.store o.dst v) H'
            |none=>none
     else none
   else dO call ops ms base rest pend (S.store o.dst undef) H
inductive Fl where
 |normal
 |exit (n:Nat)
 |ret
def R8(body:Slots->St->Option (Fl×Slots×St)):Nat->Slots->St->Option (Fl×Slots×St)
 |0,_,_=>none
 |n+1,S,H=>match body S H with
  |some (.normal,S',H')=>R8 body n S' H'
  |r=>r
def RU(ops:Array Oper)(S:Slots)(H:St):Bool:=
 match HN ops with
 |none=>true
 |some (a,b)=>match ev S a,ev S b with
  | .pointer (some ⟨i,_,none⟩),.pointer (some ⟨j,_,none⟩)=> !Nat.beq i j&&(match H.get j with|some (.cells _ m)=>m.grp.isNone|_=>false)
  |_,_=>false
def Xx(ops:Array Oper):Option (Slots×St)->Option (Slots×St)
 |some r=>bif RU ops r.1 r.2 then some r else none
 |none=>none
def iO(call:FuncId->Array Value->St->Option (Value×St))(ops:Array Oper)(draw:Bool)(S:Slots)(H:St):Option (Slots×St):=
 bif draw then Xx ops (dO P call ops (eD ops.toList []) H.next (pX ops (eD ops.toList [])) [] S {H with next:=H.next+ops.size})
 else fR P call ops H.next ops.toList 0 S {H with next:=H.next+ops.size}
def cJ(call:FuncId->Array Value->St->Option (Value×St))(L:Nat):Code->Slots->St->Option (Fl×Slots×St)
 | .skip,S,H=>some (.normal,S,H)
 | .label _,S,H=>some (.normal,S,H)
 | .region _ ops draw,S,H=>(iO P call ops draw S H).map λ(S',H')=>(.normal,S',H')
 | .seq a b,S,H=>match cJ call L a S H with
  |some (.normal,S',H')=>cJ call L b S' H'
  |r=>r
 | .cond c a b,S,H=>match ev S c with
  | .bool true=>cJ call L a S H
  | .bool false=>cJ call L b S H
  |_=>none
 | .block id c,S,H=>match cJ call L c S H with
  |some (.exit n,S',H')=>bif Nat.beq n id then some (.normal,S',H')else some (.exit n,S',H')
  |r=>r
 | .loop c,S,H=>R8 (λS H=>cJ call L c S H) L S H
 | .exit id,S,H=>some (.exit id,S,H)
 | .ret,S,H=>some (.ret,S,H)
 | .scope c,S,H=>cJ call L c S H
 |_,_,_=>none
def Bu(S:Slots)(H:St):ResultVar->Option Value
 | .tmp t=>some (S.at t)
 | .cell a t=>nE P H t (S.at a)
def fQ(S:Slots)(H:St):List ResultVar->Option (List Value)
 |[]=>some []
 |r::rs=>match Bu P S H r,fQ S H rs with
  |some v,some vs=>some (v::vs)
  |_,_=>none
def vR:List Value->Value
 |[v]=>v
 |vs=> .tuple vs.toArray
def mB:List Value->Nat->Slots->Slots
 |[],_,S=>S
 |v::vs,i,S=>mB vs (i+1) (Tr.set S i v)
def cG:Operand->Bool
 | .const v=>cK v
 | .global g=>Nat.blt g P.globals.size
 |_=>true
def lB(α:Nat)(o:Oper):Bool:=
 (match o.dst with|some d=>Nat.blt d α|none=>true)&&o.op.operands.all (cG P)
def aOV(ops:Array Oper)(e:Nat):Bool:=match ops[e]? with|some o=>kN o|none=>false
def OA(ops:Array Oper)(ms:List Nat):List Nat->List Nat->Bool
 |[],done=>(List.range ops.size).all λi=>done.contains i
 |i::rest,done=>Nat.blt i ops.size&& !done.contains i&&(List.range ops.size).all (λj=> !jC (ms.getD i 0) j||done.contains j)&&
      done.all (λe=> !aOV ops e||jC (ms.getD i 0) e)&&OA ops ms rest (i::done)
def Ke(ops:Array Oper)(ms:List Nat)(x y:Oper×Nat):Bool:=
 Nat.beq x.2 y.2||((match y.1.dst with
        |some d=>(jC (ms.getD x.2 0) y.2||jC (ms.getD y.2 0) x.2|| !(x.1.looksAt ops).contains d)
        |none=>true)&&
       (match x.1.dst,y.1.dst with|some d,some d'=> !Nat.beq d d'|_,_=>true))
def Ee(ops:Array Oper):Bool:=
 OA ops (eD ops.toList []) (pX ops (eD ops.toList [])) []&&
 ops.toList.zipIdx.all λx=>
  x.1.after.toList.all (λe=> !Region.binds .any e||Nat.blt e.on x.2)&&
  (match x.1.guard with|some (j,_)=>jC ((eD ops.toList []).getD x.2 0) j&&Nat.blt j ops.size|none=>true)&&
  ops.toList.zipIdx.all λy=>Ke ops (eD ops.toList []) x y
def sH(rk:Nat->Nat)(ops:Array Oper)(order:List Nat):Bool:=
 OA ops (eD ops.toList []) order []&&
 ops.toList.zipIdx.all λx=>
  x.1.after.toList.all (λe=> !Region.binds .any e||(Nat.blt (rk e.on) (rk x.2)&&Nat.blt e.on ops.size))&&
  (match x.1.guard with|some (j,_)=>jC ((eD ops.toList []).getD x.2 0) j&&Nat.blt j ops.size|none=>true)&&
  ops.toList.zipIdx.all λy=>Ke ops (eD ops.toList []) x y
def kU(ops:Array Oper)(i k:Nat):Array Oper:=(ops.toList.zipIdx.map λx=>bif Nat.beq x.2 i then{x.1 with after:=x.1.after.push ⟨k,.data⟩}else x.1).toArray
def El(ops:Array Oper)(i:Nat):Bool:=match ops[i]? with|some o=>(match cO o with| .pure=>true|_=>false)|none=>false
def Xh(d:Nat):Operand->Bool
 | .tmp t=> !Nat.beq t d
 |_=>true
def JD(ops:Array Oper)(x q:Nat):Bool:=
 match ops[x]?,ops[q]? with
 |some ox,some oq=>match ox.op with
  | .store _ a v=>El ops q&&oq.guard.isNone&&(match oq.dst with|some d=>Xh d a&&Xh d v|none=>true)
  |_=>false
 |_,_=>false
def RT(ops:Array Oper):Bool:=
 match HM ops with
 |none=>false
 |some (x,y)=>
  let n:=ops.size
  let ms:=eD ops.toList []
  let c:=oD ops ms
  let fr:=c.filter λi=>Nat.blt i x
  let bk:=c.filter λi=>Nat.blt x i&& !Nat.beq i y
  let pre:=fr++bk
  let o1:=kU ops y x
  let o2:=kU ops x y
  let m1:=eD o1.toList []
  let m2:=eD o2.toList []
  bk.all (JD ops x)&&sH (λi=>i) o1 (pre++ [x,y])&&sH (λi=>bif Nat.beq i x then n else i) o2 (pre++ [y,x])&&
  pre.all (λi=>Nat.beq (m1.getD i 0) (ms.getD i 0)&&Nat.beq (m2.getD i 0) (ms.getD i 0)&&(!Nat.beq i x&& !Nat.beq i y)&&(El ops i||(jC (m1.getD x 0) i&&jC (m2.getD y 0) i)))
def Da(ops:Array Oper):Bool:=match HN ops with|none=>Ee ops|some _=>RT ops
def fD(α:Nat):Code->Bool
 | .region _ ops draw=>ops.toList.all (lB P α)&&(!draw||Da ops)
 | .seq a b=>fD α a&&fD α b
 | .cond c a b=>cG P c&&fD α a&&fD α b
 | .block _ c=>fD α c
 | .loop c=>fD α c
 | .scope c=>fD α c
 |_=>true
def kE(fn:Func):Bool:=
 match fn.body with
 | some c => fD P fn.ntmps c && !(fn.name == "runtime.NumGoroutine")
 |none=>true
end
end Go.AI
