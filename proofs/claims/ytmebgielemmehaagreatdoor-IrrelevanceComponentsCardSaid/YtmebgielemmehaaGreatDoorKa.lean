import Derived.WalkKit
set_option linter.unusedVariables false
set_option linter.unusedSimpArgs false
set_option linter.constructorNameAsVariable false
set_option linter.defProp false
universe u v
namespace Go.AI
def aA{N:Type u}(a b:N):(some a=some b)=(a=b):=Option.some.injEq a b
def aB{N:Type u}{W:Type v}(a:N)(b:W)(c:N)(d:W):((a,b)=(c,d))=(a=c/\b=d):=Prod.mk.injEq a b c d
def aC(a b:Bool):((a&&b)=true)=(a=true/\b=true):=Bool.and_eq_true a b
def aD{p:Prop}[Decidable p]:(decide p=true)=p:=decide_eq_true_eq
def aE{n m:Nat}(h:Nat.beq n m=true):n=m:=Nat.eq_of_beq_eq_true h
def aF{N:Type u}{W:Type v}{b:W}{f:N->W}{o:Option N}:o.map f=some b↔∃a,o=some a/\f a=b:=Option.map_eq_some_iff
def aG{N:Type u}(y:N){a:N}{l:List N}(h:a∈l):a∈y::l:=List.mem_cons_of_mem y h
def aH{N:Type u}{a:N}{l:List N}:a∈a::l:=List.mem_cons_self
def aI{N:Sort u}(a b:N):(bif true then a else b)=a:=rfl
def aJ{N:Sort u}(a b:N):(bif false then a else b)=b:=rfl
def aK{N:Type u}{W:Type v}(a:N)(f:N->W):Option.map f (some a)=some (f a):=rfl
def aL{N:Type u}{W:Type v}(a:N)(f:N->Option W):(some a).bind f=f a:=rfl
def aM{N:Type u}{a:N}{l:List N}:(a::l).length=l.length+1:=rfl
def aN{N:Type u}{W:Type v}{x:N}{l:List N}{f:N->List W}:List.flatMap f (x::l)=f x++List.flatMap f l:=List.flatMap_cons
def aO{N:Type u}{W:Type v}{f:N->W}{a:N}{l:List N}:List.map f (a::l)=f a::List.map f l:=rfl
def aP{N:Type u}{a:N}{l:List N}{f:N->Bool}:(a::l).all f=(f a&&l.all f):=List.all_cons
def aQ{N:Type u}(a b c:List N):a++b++c=a++(b++c):=List.append_assoc a b c
def aR{N:Type u}{x:N}{l:List N}:[x]++l=x::l:=rfl
def aS(n:Nat):n<=n:=Nat.le_refl n
def aT{N:Type u}{a:N}{i:Nat}{l:List N}:(a::l)[i+1]?=l[i]?:=List.getElem?_cons_succ
def aU{N:Type u}{a:N}{l:List N}:(a::l)[0]?=some a:=List.getElem?_cons_zero
def aV{N:Type u}{l:List N}{i:Nat}(h:i<l.length):l[i]?=some l[i]:=List.getElem?_eq_getElem h
def aW{N:Type u}(l:List N):[]++l=l:=rfl
def aX{N:Type u}:([]:List N).length=0:=rfl
def aY{N:Type u}{a:N}{l m:List N}:a::l++m=a::(l++m):=rfl
def aZ{N:Type u}{l m:List N}:(l++m).length=l.length+m.length:=List.length_append
def bA{N:Type u}(l:List N):l++ []=l:=List.append_nil l
def bB{N:Type u}{W:Type v}{f:N->List W}:List.flatMap f []=[]:=rfl
def bC{p:Prop}{_:Decidable p}:decide p=false↔¬p:=decide_eq_false_iff_not
def bD:(!true)=false:=rfl
def bE(b:Bool):(b&&true)=b:=Bool.and_true b
def bF{p:Prop}[Decidable p](h:p):decide p=true:=decide_eq_true h
def bG{p:Prop}[Decidable p](h: ¬p):decide p=false:=decide_eq_false h
def bH{c:Prop}{_:Decidable c}(h: ¬c){N:Sort u}{t e:N}:(if c then t else e)=e:=if_neg h
def bI{c:Prop}{_:Decidable c}(h:c){N:Sort u}{t e:N}:(if c then t else e)=t:=if_pos h
def bJ{N:Type u}{p:N->Bool}{l:List N}:l.all p=true↔∀x,x∈l->p x=true:=List.all_eq_true
def bK{p:Prop}[Decidable p](h:decide p=true):p:=of_decide_eq_true h
def bL{p:Prop}[Decidable p](h:decide p=false): ¬p:=of_decide_eq_false h
def bM:decide True=true:=rfl
def bN{N:Sort u}{_:Decidable False}(t e:N):(if False then t else e)=e:=if_neg id
def bO{N:Sort u}{_:Decidable True}(t e:N):(if True then t else e)=t:=if_pos trivial
def bP{n m:Nat}(h:Nat.ble n m=true):n<=m:=Nat.le_of_ble_eq_true h
end Go.AI
namespace Go.AI
inductive Tr(N:Type) where
 |nil:Tr N
 |node:Option N->Tr N->Tr N->Tr N
def Tr.get{N:Type}:Tr N->Nat->Option N
 | .nil,_=>none
 | .node v l r,n=>bif Nat.beq n 0 then v else bif Nat.beq (n%2) 1 then l.get (n/2)else r.get (n/2-1)
def Tr.setF{N:Type}:Nat->Tr N->Nat->N->Tr N
 |0,t,_,_=>t
 |f+1,.nil,n,x=>
  bif Nat.beq n 0 then .node (some x) .nil .nil
  else bif Nat.beq (n%2) 1 then .node none (Tr.setF f .nil (n/2) x) .nil else .node none .nil (Tr.setF f .nil (n/2-1) x)
 |f+1,.node v l r,n,x=>
  bif Nat.beq n 0 then .node (some x) l r
  else bif Nat.beq (n%2) 1 then .node v (Tr.setF f l (n/2) x) r else .node v l (Tr.setF f r (n/2-1) x)
def Tr.set{N:Type}(t:Tr N)(n:Nat)(x:N):Tr N:=Tr.setF (n+1) t n x
def bR:Value->Bool
 | .bool _| .int _ _| .float _ _| .complex _ _ _| .string _=>true
 | .pointer none| .map none| .chan none| .nilFunc| .nilIface=>true
 | .slice none l c=>Nat.beq l 0&&Nat.beq c 0
 |_=>false
def cK:Value->Bool
 | .agg cs=>cs.toList.all bR
 |v=>bR v
def bX{N:Type}(p:Program):Sem N->Option N
 | .pure a=>some a
 | .program k=>bX p (k p)
 | .mark _ k=>bX p k
 |_=>none
def cV(p:Program)(s:Sem Value):Option Value:=
 match bX p s with
 |some v=>bif cK v then some v else none
 |none=>none
def one:Value->Bool
 | .agg _| .tuple _=>false
 |_=>true
mutual
def fB:Value->Value->Bool
 | .bool a,.bool b=>a==b
 | .int j a,.int k b=>(j==k)&&(a==b)
 | .float j a,.float k b=>(j==k)&&(a==b)
 | .complex j a c,.complex k b d=>(j==k)&&(a==b)&&(c==d)
 | .string a,.string b=>a.data.toList==b.data.toList
 | .pointer a,.pointer b=>a==b
 | .slice a l c,.slice b m d=>(a==b)&&(l==m)&&(c==d)
 | .map a,.map b=>a==b
 | .chan a,.chan b=>a==b
 | .func f ⟨xs⟩ ⟨ys⟩,.func g ⟨us⟩ ⟨vs⟩=>(f==g)&&oY xs us&&oY ys vs
 | .nilFunc,.nilFunc=>true
 | .iface t v,.iface u w=>(t==u)&&fB v w
 | .nilIface,.nilIface=>true
 | .agg ⟨xs⟩,.agg ⟨ys⟩=>oY xs ys
 | .tuple ⟨xs⟩,.tuple ⟨ys⟩=>oY xs ys
 |_,_=>false
def oY:List Value->List Value->Bool
 |[],[]=>true
 |x::xs,y::ys=>fB x y&&oY xs ys
 |_,_=>false
end
structure mX where
 wr:Bool
 tip:Bool
 z:Nat
 grp:Option (Nat×Nat)
 lim:Nat:=0
inductive AObj where
 |cells (cs:List Value) (m:mX)
 |map (es:List (Value×Value))
structure St where
 mem:Tr AObj
 vers:Tr Nat
 next:Nat
def St.get(H:St)(id:Nat):Option AObj:=H.mem.get id
def St.put(H:St)(id:Nat)(o:AObj):St:={H with mem:=H.mem.set id o}
def St.ver(H:St)(g:Nat):Nat:=(H.vers.get g).getD 0
def St.bump(H:St)(g:Nat)(v:Nat):St:={H with vers:=H.vers.set g v}
def St.good(H:St)(m:mX):Bool:=
 match m.grp with
 |none=>true
 |some (g,v)=>Nat.beq (H.ver g) v
def St.row(H:St)(id:Nat):Option (List Value×mX):=
 match H.get id with
 |some (.cells cs m)=>bif H.good m then some (cs,m)else none
 |_=>none
def boxMeta:mX:={wr:=true,tip:=false,z:=0,grp:=none}
def cS(z:Nat):mX:={wr:=true,tip:=false,z,grp:=none}
def cut(cs:List Value)(off n:Nat):Option (List Value):=
 let l:=(cs.drop off).take n
 bif Nat.beq l.length n then some l else none
def eA:List Value->Nat->List Value->List Value
 |cs,_,[]=>cs
 |cs,off,x::xs=>eA (cs.set off x) (off+1) xs
section
variable(P:Program)
def gC(t:TypeId):Option Nat:=(P.info? t).map (·.size)
def jZ(t:TypeId):Option Bool:=(P.underlying t).map fun| .struct _=>true| .array _ _=>true|_=>false
def hY(H:St)(t:TypeId):Value->Option Value
 | .pointer (some ⟨id,off,none⟩)=>
  match H.row id with
  |some (cs,_)=>
   match jZ P t with
   |some true=>match gC P t with
    |some n=>(cut cs off n).map λl=> .agg l.toArray
    |none=>none
   |some false=>cs[off]?
   |none=>none
  |none=>none
 |_=>none
def iK(es:List (Value×Value)):List MapEntry:=es.map λe=>⟨e.1,e.2,0⟩
def zH(kt:TypeId)(k:Value)(es:List (Value×Value)):Option (Option (Nat×Value)):=
 bif cK k&&es.all (λe=>cK e.1)then
  match bX P (Instr.checkKey false 10000 kt k),bX P (Instr.checkKey true 10000 kt k)with
  |some _,some _=>bX P (Instr.findKey kt k (iK es))
  |_,_=>none
 else none
def Br(H:St):Value->Option (List (Value×Value))
 | .map none=>some []
 | .map (some id)=>match H.get id with
  |some (.map es)=>some es
  |_=>none
 |_=>none
def jK(H:St)(t:TypeId)(m k:Value)(ok:Bool):Option Value:=
 match P.underlying t with
 |some (.map kt et)=>
  match Br H m with
  |none=>none
  |some es=>
   match zH P kt k es with
   |some (some (_,v))=>some (bif ok then .tuple #[v,.bool true]else v)
   |some none=>match bX P (zeroValue et)with
    |some z=>bif cK z then some (bif ok then .tuple #[z,.bool false]else z)else none
    |none=>none
   |none=>none
 |_=>none
def bV(i:Int)(n:Nat):Bool:=decide (0<=i)&&decide (i<(n:Int))
def jT(s:TypeId)(v:Value)(f:Nat):Option Value:=
 match P.underlying s with
 |some (.struct fs)=>match fs[f]? with
  |some fd=>match gC P fd.type with
   |some n=>match v with
    | .pointer (some ⟨id,off,none⟩)=>bif Nat.beq n 0 then none else some (.pointer (some ⟨id,off+fd.offset,none⟩))
    |_=>none
   |none=>none
  |none=>none
 |_=>none
def wH(t:TypeId)(cs:Array Value)(off:Nat):Option Value:=
 match jZ P t with
 |some true=>match gC P t with
  |some n=>some (.agg (cs.extract off (off+n)))
  |none=>none
 |some false=>cs[off]?
 |none=>none
def uS(t:TypeId)(v:Value)(f:Nat):Option Value:=
 match P.underlying t with
 |some (.struct fs)=>match fs[f]? with
  |some fd=>match v with
   | .agg cs=>wH P fd.type cs fd.offset
   |_=>none
  |none=>none
 |_=>none
def fF(t:TypeId)(v i:Value):Option Value:=
 match i with
 | .int _ n=>
  match P.underlying t with
  |some (.slice e)=>match v with
   | .slice (some ⟨id,off,none⟩) len _=>match gC P e with
    |some z=>bif bV n len then some (.pointer (some ⟨id,off+n.toNat*z,none⟩))else none
    |none=>none
   |_=>none
  |some (.array len e)=>match v with
   | .pointer (some ⟨id,off,none⟩)=>match gC P e with
    |some z=>bif bV n len then some (.pointer (some ⟨id,off+n.toNat*z,none⟩))else none
    |none=>none
   |_=>none
  |_=>none
 |_=>none
def uR(t:TypeId)(v i:Value):Option Value:=
 match P.underlying t with
 |some (.string)=>bif bR v&&bR i then cV P (Instr.index t v i)else none
 |some (.array len e)=>match i,v with
  | .int _ n,.agg cs=>match gC P e with
   |some z=>bif bV n len then wH P e cs (n.toNat*z)else none
   |none=>none
  |_,_=>none
 |_=>none
def uT(t:TypeId)(parts:Array (Nat×Value)):Option Value:=
 match bX P (zeroValue t)with
 |some z=>
  bif z.cells.toList.all bR then
   match P.underlying t with
   |some (.struct fs)=>
    match bX P (fs.mapM λf=>do pure (f.offset,<-Go.sizeOf f.type))with
    |some EW=>(Instr.fill (λi=>EW[i]?) z.cells parts.toList).map .agg
    |none=>none
   |some (.array _ e)=>
    match gC P e with
    |some s=>(Instr.fill (λi=>some (i*s,s)) z.cells parts.toList).map .agg
    |none=>none
   |_=>none
  else none
 |none=>none
def lX:Option Value->Option (Option Int)
 |none=>some none
 |some (.int _ n)=>some (some n)
 |_=>none
def oG(H:St)(id z:Nat):Bool:=
 match H.row id with
 |some (_,m)=>Nat.beq m.z z
 |none=>false
def aMW:Value:= .slice (some ⟨0,0,some 0⟩) 0 0
def aLq:Option Addr->Value
 |none=> .slice none 0 0
 |some _=> .slice (some ⟨0,0,some 1⟩) 0 0
def xI:Option Int->Bool
 |some n=>decide (n=0)
 |none=>false
def oN(H:St)(t:TypeId)(v:Value)(lo hi mx:Option Value):Option Value:=
 match P.underlying t with
 |some .string=>match v with
  | .string _=>bif mx.isNone&&bR (lo.getD (.bool true))&&bR (hi.getD (.bool true))then cV P (Instr.sliceAt t v lo hi mx)else none
  |_=>none
 |some (.slice e)=>match v with
  | .slice a len c=>match gC P e,lX lo,lX hi,lX mx with
   |some z,some l,some h,some m=>
    let l:=l.getD 0
    let h':=h.getD (len:Int)
    bif decide (0<=l)&&decide (l<=h')&&decide (h'<=(len:Int))then
     bif Nat.beq len 0&&xI m&&h.isSome then some (aLq a)else
     match a with
     |none=>bif mx.isNone then some (.slice none 0 0)else none
     |some ⟨id,off,none⟩=>
      bif oG H id z then
      match m with
      |none=>
       bif Nat.beq c len&&Nat.beq h'.toNat len then
        bif Nat.beq l.toNat len then some (.slice (some ⟨id,off,none⟩) 0 0)
        else some (.slice (some ⟨id,off+l.toNat*z,none⟩) (len-l.toNat) (len-l.toNat))
       else bif Nat.beq h'.toNat len&&Nat.beq l.toNat 0 then some v
       else bif decide (l<(len:Int))then some (.slice (some ⟨id,off+l.toNat*z,none⟩) (h'.toNat-l.toNat) (h'.toNat-l.toNat+1))
       else some aMW
      |some m=>
       bif decide (h'=m)&&decide (l<m)&&h.isSome then some (.slice (some ⟨id,off+l.toNat*z,none⟩) (h'.toNat-l.toNat) (h'.toNat-l.toNat))else none
      else bif Nat.beq len 0&&mx.isNone then some v else none
     |some ⟨_,_,some _⟩=>bif Nat.beq len 0&&mx.isNone then some v else none
    else none
   |_,_,_,_=>none
  |_=>none
 |some (.array n e)=>match v,lo,hi,mx,gC P e with
  | .pointer (some ⟨id,off,none⟩),none,none,none,some _=>bif oG H id 0 then some (.slice (some ⟨id,off,none⟩) n n)else none
  |_,_,_,_,_=>none
 |_=>none
def XN(op:BinOp)(x y:Value):Option Value:=
 let r (b:Bool):Option Value:=match op with
  | .eql=>some (.bool b)
  | .neq=>some (.bool (!b))
  |_=>none
 match x,y with
 | .slice (some _) _ _,.slice none _ _=>r false
 | .slice none _ _,.slice (some _) _ _=>r false
 |_,_=>none
def De(t:TypeId)(v:Value):Option Value:=
 match P.underlying t with
 |some (.slice _)=>match v with
  | .slice _ n _=>some (goInt n)
  |_=>none
 |some .string=>match v with
  | .string s=>some (goInt s.size)
  |_=>none
 |some (.array n _)=>some (goInt n)
 |_=>none
def fV(Z:Operand->Value)(o:Oper)(c:Call):Option Value:=
 match c.callee with
 | .builtin .len=>match c.argTypes[0]?,c.args[0]? with
  |some t,some x=>De P t (Z x)
  |_,_=>none
 | .builtin .min=>bif (c.args.map Z).toList.all bR then cV P (Builtin.min_ c.argTypes o.type (c.args.map Z))else none
 | .builtin .max=>bif (c.args.map Z).toList.all bR then cV P (Builtin.max_ c.argTypes o.type (c.args.map Z))else none
 |_=>none
def iW(Z:Operand->Value)(o:Oper):Option Value:=
 match o.op with
 | .move x=>some (Z x)
 | .assign x=>some (Z x)
 | .pick c a b=>match Z c with
  | .bool true=>some (Z a)
  | .bool false=>some (Z b)
  |_=>none
 | .build t parts=>uT P t (parts.map λ(i,x)=>(i,Z x))
 | .nilCheck x=>match Z x with
  | .pointer (some a)=>some (.pointer (some a))
  |_=>none
 | .binOp op t x y _=>
  bif cK (Z x)&&cK (Z y)then cV P (do eqGuard op t x y (Z x) (Z y);binOp op t (Z x) (Z y))
  else match P.underlying t with
   |some (.slice _)=>XN op (Z x) (Z y)
   |_=>none
 | .unOp op _ x=>bif bR (Z x)then cV P (Op.unary op (Z x))else none
 | .convert s d x=>bif bR (Z x)then cV P (convert s d (Z x))else none
 | .makeFunc fn first captured=>some (.func fn (first.map Z) (captured.map Z))
 | .fieldAddr s x f=>jT P s (Z x) f
 | .field t x f=>uS P t (Z x) f
 | .indexAddr t x i=>fF P t (Z x) (Z i)
 | .index t x i=>uR P t (Z x) (Z i)
 | .extract t i=>match Z t with
  | .tuple vs=>vs[i]?
  |_=>none
 | .call c=>fV P Z o c
 |_=>none
def iV(H:St)(Z:Operand->Value)(o:Oper):Option Value:=
 match o.op with
 | .load t a=>hY P H t (Z a)
 | .lookup t m k ok=>jK P H t (Z m) (Z k) ok
 | .slice t x lo hi mx=>oN P H t (Z x) (lo.map Z) (hi.map Z) (mx.map Z)
 |_=>none
def dR(z:List Value):Nat->List Value
 |0=>[]
 |n+1=>z++dR z n
def Fu(Z:Operand->Value)(t:TypeId)(r:Option Operand):Bool:=
 match r with
 |none=>true
 |some x=>match Z x,P.underlying t with
  | .int _ _,some (.map _ _)=>true
  |_,_=>false
def eZ(Z:Operand->Value)(o:Oper)(id:Nat):Option (Value×AObj):=
 match o.op with
 | .alloc t=>match bX P (zeroValue t)with
  |some z=>bif z.cells.toList.all bR then some (.pointer (some ⟨id,0,none⟩),.cells z.cells.toList boxMeta)else none
  |none=>none
 | .box _ x=>bif (Z x).cells.toList.all one then some (.pointer (some ⟨id,0,none⟩),.cells (Z x).cells.toList boxMeta)else none
 | .buildSlice t len parts=>
  match P.underlying t with
  |some (.slice e)=>match gC P e with
   |some s=>match bX P (zeroValue e)with
    |some z=>
     bif z.cells.toList.all bR&&Nat.ble (len*s) 1000000&&Nat.beq z.cells.size s&&Nat.ble 1 s then
      (Instr.fill (λi=>some (i*s,s)) (dR z.cells.toList len).toArray (parts.map λ(i,x)=>(i,Z x)).toList).map
       λcs=>(.slice (some ⟨id,0,none⟩) len len,.cells cs.toList (cS s))
     else none
    |none=>none
   |none=>none
  |_=>none
 | .makeSlice t l c=>
  match P.underlying t,Z l,Z c with
  |some (.slice e),.int .i64 n,.int .i64 k=>match P.info? e with
   |some info=>match info.zero with
    |some z=>
     bif decide (0<=n)&&decide (n<=k)&&decide (k*(info.bytes:Int)<=1073741824)&&decide (k<=1073741824)&&z.cells.toList.all bR&&Nat.beq z.cells.size info.size&&Nat.ble 1 info.size then
      bif decide (n=k)then some (.slice (some ⟨id,0,none⟩) n.toNat n.toNat,.cells (dR z.cells.toList n.toNat) (cS info.size))
      else some (.slice (some ⟨id,0,none⟩) n.toNat (n.toNat+1),.cells (dR z.cells.toList n.toNat) {wr:=true,tip:=true,z:=info.size,grp:=some (id,0)})
     else none
    |none=>none
   |none=>none
  |_,_,_=>none
 | .makeMap t r=>bif Fu P Z t r then some (.map (some id),.map [])else none
 |_=>none
def gE(H:St)(t:TypeId)(a x:Value):Option St:=
 match a with
 | .pointer (some ⟨id,off,none⟩)=>
  match H.row id,gC P t with
  |some (cs,m),some n=>
   bif m.wr&&Nat.beq x.cells.size n&&Nat.ble (off+n) cs.length&&x.cells.toList.all one then
    match m.grp with
    |none=>some (H.put id (.cells (eA cs off x.cells.toList) m))
    |some (g,v)=>bif m.tip&&Nat.ble m.lim off then some (H.put id (.cells (eA cs off x.cells.toList) m))else some ((H.put id (.cells (eA cs off x.cells.toList) {m with grp:=some (g,v+1)})).bump g (v+1))
   else none
  |_,_=>none
 |_=>none
def kO(H:St)(z:Nat):Value->Option (Nat×List Value)
 | .slice none _ _=>some (0,[])
 | .slice (some ⟨id,off,none⟩) n _=>match H.row id with
  |some (cs,_)=>(cut cs off (n*z)).map λl=>(n,l)
  |none=>none
 | .string s=>bif Nat.beq z 1 then some (s.size,s.data.toList.map λb=> .int .u8 b.toNat)else none
 | .slice (some ⟨_,_,some _⟩) 0 _=>some (0,[])
 |_=>none
def fW(z id:Nat):mX:={wr:=true,tip:=true,z,grp:=some (id,0)}
def gX(H:St)(id' z bytes n:Nat)(xs:List Value)(s:Value):Option (Value×St):=
 match s with
 | .slice none _ _=>
  bif Nat.ble (n*bytes) 1073741824 then some (.slice (some ⟨id',0,none⟩) n (n+1),H.put id' (.cells xs (fW z id')))else none
 | .slice (some ⟨id,off,none⟩) len k=>
  bif Nat.ble ((len+n)*bytes) 1073741824 then
   match H.row id with
   |some (cs,m)=>
    match cut cs off (len*z)with
    |some old=>
     bif Nat.beq k len then some (.slice (some ⟨id',0,none⟩) (len+n) (len+n+1),H.put id' (.cells (old++xs) (fW z id')))
     else bif m.tip&&m.wr&&Nat.beq m.z z&&Nat.beq (off+len*z) cs.length&&m.grp.isSome then
      some (.slice (some ⟨id',0,none⟩) (len+n) (len+n+1),(H.put id (.cells cs {m with tip:=false})).put id' (.cells (old++xs) {m with lim:=old.length}))
     else none
    |none=>none
   |none=>none
  else none
 | .slice (some ⟨_,_,some s⟩) _ _=>
  bif Nat.beq s 1&&Nat.ble (n*bytes) 1073741824 then some (.slice (some ⟨id',0,none⟩) n (n+1),H.put id' (.cells xs (fW z id')))else none
 |_=>none
def eT:Value->Bool
 | .slice .. =>true
 |_=>false
def BJ(u:TypeDesc)(x:Value):Bool:=
 match u with
 | .slice _=>eT x
 | .string=> !eT x
 |_=>false
def fS(H:St)(id':Nat)(c:Call)(s x:Value):Option (Value×St):=
 match c.argTypes.toList with
 |[t,t1]=>
  match P.underlying t,P.underlying t1 with
  |some (.slice e),some u=>
   bif BJ u x then
    match P.info? e with
    |some info=>
     match kO H info.size x,info.zero with
     |some (n,xs),some z=>
      bif xs.all one&&Nat.ble 1 info.size&&Nat.ble 1 info.bytes&&Nat.beq z.cells.size info.size&&eT s then
       bif Nat.beq n 0 then some (s,H)else gX H id' info.size info.bytes n xs s
      else none
     |_,_=>none
    |none=>none
   else none
  |_,_=>none
 |_=>none
def eQ(H:St)(t:TypeId)(m k x:Value):Option St:=
 match P.underlying t with
 |some (.map kt _)=>match m with
  | .map (some id)=>match H.get id with
   |some (.map es)=>match zH P kt k es with
    |some (some (i,_))=>bif Instr.sameBits 10000 ((es[i]?.map (·.1)).getD k) k then some (H.put id (.map (es.modify i λ_=>(k,x))))else none
    |some none=>some (H.put id (.map (es++ [(k,x)])))
    |none=>none
   |_=>none
  |_=>none
 |_=>none
inductive OK where
 |pure|read|alloc|eff
def cL(o:Oper):OK:=
 match o.op with
 | .load .. | .lookup .. | .slice .. => .read
 | .alloc .. | .box .. | .buildSlice .. | .makeSlice .. | .makeMap .. => .alloc
 | .store .. | .mapUpdate .. | .insert .. => .eff
 | .call c=>match c.callee with
  | .builtin .len| .builtin .min| .builtin .max=> .pure
  |_=> .eff
 |_=> .pure
def gJ(Z:Operand->Value)(c:Call):Option (FuncId×Array Value):=
 match c.callee with
 | .value f=>match Z f with
  | .func (.func g) first captured=>some (g,first++c.args.map Z++captured)
  |_=>none
 |_=>none
def lY(call:FuncId->Array Value->St->Option (Value×St))(H:St)(Z:Operand->Value)(o:Oper)(id':Nat):Option (Value×St):=
 match o.op with
 | .store t a x=>(gE P H t (Z a) (Z x)).map λH'=>(undef,H')
 | .mapUpdate t m k x=>(eQ P H t (Z m) (Z k) (Z x)).map λH'=>(undef,H')
 | .insert t m k x=>(eQ P H t (Z m) (Z k) (Z x)).map λH'=>(undef,H')
 | .call c=>match c.callee with
  | .builtin .append=>match c.args.toList with
   |[s,x]=>fS P H id' c (Z s) (Z x)
   |_=>none
  |_=>match gJ Z c with
   |some (g,args)=>call g args H
   |none=>none
 |_=>none
abbrev Slots:=Tr Value
def Slots.at(S:Slots)(i:Nat):Value:=(Tr.get S i).getD undef
def ev(S:Slots):Operand->Value
 | .tmp t=>S.at t
 | .const v=>v
 | .global g=> .pointer (some ⟨g,0,none⟩)
 | .func f=> .func (.func f) #[] #[]
def Slots.store(S:Slots)(d:Option Tmp)(v:Value):Slots:=
 match d with
 |some d=>Tr.set S d v
 |none=>S
def wanted(ops:Array Oper)(S:Slots)(o:Oper):Bool:=
 match o.guard with
 |none=>true
 |some (j,want)=>
  match(ops[j]?.bind (·.dst)).map S.at with
  |some (.bool b)=>b==want
  |_=>false
def bytesOf:List Value->Option (List Int)
 |[]=>some []
 | .int .u8 n::r=>(bytesOf r).map (n:: ·)
 |_=>none
def oP(H:St)(s d:TypeId)(v:Value):Option Value:=
 match P.underlying s,P.underlying d with
 |some (.slice e),some .string=>match P.underlying e with
  |some (.int .u8)=>match v with
   | .slice (some ⟨id,off,none⟩) n _=>match H.row id with
    |some (cs,_)=>match cut cs off n with
     |some l=>(bytesOf l).map λns=> .string (ns.foldl (λr n=>r.push (UInt8.ofNat n.toNat)) ByteArray.empty)
     |none=>none
    |none=>none
   | .slice (some ⟨_,_,some _⟩) 0 _=>some (.string ByteArray.empty)
   |_=>none
  |_=>none
 |_,_=>none
def LI:Op->Bool
 | .convert .. =>true
 |_=>false
def oO(H:St)(Z:Operand->Value)(o:Oper):Option Value:=
 match iW P Z o with
 |some v=>some v
 |none=>match o.op with
  | .convert s d x=>oP P H s d (Z x)
  |_=>none
def tY(call:FuncId->Array Value->St->Option (Value×St))(base:Nat)(i:Nat)(o:Oper)(S:Slots)(H:St):Option (Value×St):=
 match cL o with
 | .pure=>(oO P H (ev S) o).map λv=>(v,H)
 | .read=>(iV P H (ev S) o).map λv=>(v,H)
 | .alloc=>(eZ P (ev S) o (base+i)).map λ(v,b)=>(v,H.put (base+i) b)
 | .eff=>lY P call H (ev S) o (base+i)
def eN(call:FuncId->Array Value->St->Option (Value×St))(ops:Array Oper)(base:Nat):List Oper->Nat->Slots->St->Option (Slots×St)
 |[],_,S,H=>some (S,H)
 |o::rest,i,S,H=>
  bif wanted ops S o then
   match tY P call base i o S H with
   |some (v,H')=>eN call ops base rest (i+1) (S.store o.dst v) H'
   |none=>none
  else eN call ops base rest (i+1) (S.store o.dst undef) H
def jX(o:Oper):Bool:=match cL o with| .eff=>true|_=>false
def qE(ms:List Nat)(o:Oper):Nat:=
 o.after.toList.foldl (λm e=>bif Region.binds .any e then(m|||(1<<<e.on))|||ms.getD e.on 0 else m) 0
def fL:List Oper->List Nat->List Nat
 |[],ms=>ms
 |o::os,ms=>fL os (ms++ [qE ms o])
def kK(m i:Nat):Bool:=Nat.beq ((m>>>i)%2) 1
def aCU:List Oper->Nat->List Nat
 |[],_=>[]
 |o::os,i=>bif jX o then i::aCU os (i+1)else aCU os (i+1)
def aGb(ms:List Nat)(es:List Nat)(i:Nat):Nat:=(es.filter λe=>kK (ms.getD i 0) e).length
def Eg(ms:List Nat)(all es:List Nat)(quiet:List Nat):Nat->List Nat->List Nat
 |k,[]=>quiet.filter λi=>Nat.beq (aGb ms all i) k
 |k,e::rest=>(quiet.filter λi=>Nat.beq (aGb ms all i) k)++e::Eg ms all es quiet (k+1) rest
def aNz(ops:Array Oper)(ms:List Nat):List Nat:=
 let es:=aCU ops.toList 0
 Eg ms es es ((List.range ops.size).filter λi=> !(es.contains i)) 0 es
def Ue(ops:Array Oper):Option (Nat×Nat):=match(aCU ops.toList 0).reverse with|y::x::_=>some (x,y)|_=>none
def R6(ops:Array Oper):Option (Operand×Operand):=
 match Ue ops with
 |none=>none
 |some (i,j)=>match ops[i]?,ops[j]? with
  |some x,some y=>match x.op,y.op,x.guard,y.guard,x.dst,y.dst with
   | .store _ a _,.store _ b _,none,none,none,none=>bif !Nat.blt i j||kK ((fL ops.toList []).getD j 0) i then none else some (a,b)
   |_,_,_,_,_,_=>none
  |_,_=>none
def a0Z(ops:Array Oper)(c:List Nat):List Nat:=
 match R6 ops,Ue ops with
 |some _,some (x,y)=>(c.filter λi=>Nat.blt i x)++x::((c.filter λi=>Nat.blt x i&& !Nat.beq i y)++ [y])
 |_,_=>c
def canon(ops:Array Oper)(ms:List Nat):List Nat:=a0Z ops (aNz ops ms)
structure iB where
 i:Nat
 o:Oper
 S:Slots
 v:Value
 ob:Option AObj
def rL(m n:mX):Bool:=(m.wr==n.wr)&&(m.tip==n.tip)&&Nat.beq m.z n.z&&(m.grp==n.grp)&&Nat.beq m.lim n.lim
def vH:List (Value×Value)->List (Value×Value)->Bool
 |[],[]=>true
 |x::xs,y::ys=>fB x.1 y.1&&fB x.2 y.2&&vH xs ys
 |_,_=>false
def nU:AObj->AObj->Bool
 | .cells cs m,.cells ds n=>oY cs ds&&rL m n
 | .map es,.map fs=>vH es fs
 |_,_=>false
def check(base:Nat)(H:St)(r:iB):Bool:=
 match r.ob with
 |none=>match iV P H (ev r.S) r.o with
  |some v=>fB v r.v
  |none=>false
 |some ob=>match H.get (base+r.i)with
  |some ob'=>nU ob' ob
  |none=>false
def fD(call:FuncId->Array Value->St->Option (Value×St))(ops:Array Oper)(ms:List Nat)(base:Nat):List Nat->List iB->Slots->St->Option (Slots×St)
 |[],pend,S,H=>bif pend.all (check P base H)then some (S,H)else none
 |i::rest,pend,S,H=>
  match ops[i]? with
  |none=>none
  |some o=>
   bif wanted ops S o then
    match cL o with
    | .pure=>match iW P (ev S) o with
     |some v=>fD call ops ms base rest pend (S.store o.dst v) H
     |none=>none
    | .read=>match iV P H (ev S) o with
     |some v=>fD call ops ms base rest (⟨i,o,S,v,none⟩::pend) (S.store o.dst v) H
     |none=>none
    | .alloc=>match eZ P (ev S) o (base+i)with
     |some (v,ob)=>fD call ops ms base rest (⟨i,o,S,v,some ob⟩::pend) (S.store o.dst v) (H.put (base+i) ob)
     |none=>none
    | .eff=>bif pend.all (check P base H)then
            match lY P call H (ev S) o (base+i)with
            |some (v,H')=>fD call ops ms base rest (pend.filter λr=> !kK (ms.getD i 0) r.i) (S.store o.dst v) H'
            |none=>none
     else none
   else fD call ops ms base rest pend (S.store o.dst undef) H
inductive Fl where
 |normal
 |exit (n:Nat)
 |ret
def sA(body:Slots->St->Option (Fl×Slots×St)):Nat->Slots->St->Option (Fl×Slots×St)
 |0,_,_=>none
 |n+1,S,H=>match body S H with
  |some (.normal,S',H')=>sA body n S' H'
  |r=>r
def aCd(ops:Array Oper)(S:Slots)(H:St):Bool:=
 match R6 ops with
 |none=>true
 |some (a,b)=>match ev S a,ev S b with
  | .pointer (some ⟨i,_,none⟩),.pointer (some ⟨j,_,none⟩)=> !Nat.beq i j&&(match H.get j with|some (.cells _ m)=>m.grp.isNone|_=>false)
  |_,_=>false
def WH(ops:Array Oper):Option (Slots×St)->Option (Slots×St)
 |some r=>bif aCd ops r.1 r.2 then some r else none
 |none=>none
def iC(call:FuncId->Array Value->St->Option (Value×St))(ops:Array Oper)(draw:Bool)(S:Slots)(H:St):Option (Slots×St):=
 bif draw then WH ops (fD P call ops (fL ops.toList []) H.next (canon ops (fL ops.toList [])) [] S {H with next:=H.next+ops.size})
 else eN P call ops H.next ops.toList 0 S {H with next:=H.next+ops.size}
def cR(call:FuncId->Array Value->St->Option (Value×St))(L:Nat):Code->Slots->St->Option (Fl×Slots×St)
 | .skip,S,H=>some (.normal,S,H)
 | .label _,S,H=>some (.normal,S,H)
 | .region _ ops draw,S,H=>(iC P call ops draw S H).map λ(S',H')=>(.normal,S',H')
 | .seq a b,S,H=>match cR call L a S H with
  |some (.normal,S',H')=>cR call L b S' H'
  |r=>r
 | .cond c a b,S,H=>match ev S c with
  | .bool true=>cR call L a S H
  | .bool false=>cR call L b S H
  |_=>none
 | .block id c,S,H=>match cR call L c S H with
  |some (.exit n,S',H')=>bif Nat.beq n id then some (.normal,S',H')else some (.exit n,S',H')
  |r=>r
 | .loop c,S,H=>sA (λS H=>cR call L c S H) L S H
 | .exit id,S,H=>some (.exit id,S,H)
 | .ret,S,H=>some (.ret,S,H)
 | .scope c,S,H=>cR call L c S H
 |_,_,_=>none
def oH(S:Slots)(H:St):ResultVar->Option Value
 | .tmp t=>some (S.at t)
 | .cell a t=>hY P H t (S.at a)
def cO(S:Slots)(H:St):List ResultVar->Option (List Value)
 |[]=>some []
 |r::rs=>match oH P S H r,cO S H rs with
  |some v,some vs=>some (v::vs)
  |_,_=>none
def kN:List Value->Value
 |[v]=>v
 |vs=> .tuple vs.toArray
def fU:List Value->Nat->Slots->Slots
 |[],_,S=>S
 |v::vs,i,S=>fU vs (i+1) (Tr.set S i v)
def cI:Operand->Bool
 | .const v=>cK v
 | .global g=>Nat.blt g P.globals.size
 |_=>true
def pY(α:Nat)(o:Oper):Bool:=
 (match o.dst with|some d=>Nat.blt d α|none=>true)&&o.op.operands.all (cI P)
def aGu(ops:Array Oper)(e:Nat):Bool:=match ops[e]? with|some o=>jX o|none=>false
def GY(ops:Array Oper)(ms:List Nat):List Nat->List Nat->Bool
 |[],done=>(List.range ops.size).all λi=>done.contains i
 |i::rest,done=>Nat.blt i ops.size&& !done.contains i&&(List.range ops.size).all (λj=> !kK (ms.getD i 0) j||done.contains j)&&
      done.all (λe=> !aGu ops e||kK (ms.getD i 0) e)&&GY ops ms rest (i::done)
def Fv(ops:Array Oper)(ms:List Nat)(x y:Oper×Nat):Bool:=
 Nat.beq x.2 y.2||((match y.1.dst with
        |some d=>(kK (ms.getD x.2 0) y.2||kK (ms.getD y.2 0) x.2|| !(x.1.looksAt ops).contains d)
        |none=>true)&&
       (match x.1.dst,y.1.dst with|some d,some d'=> !Nat.beq d d'|_,_=>true))
def Bj(ops:Array Oper):Bool:=
 GY ops (fL ops.toList []) (canon ops (fL ops.toList [])) []&&
 ops.toList.zipIdx.all λx=>
  x.1.after.toList.all (λe=> !Region.binds .any e||Nat.blt e.on x.2)&&
  (match x.1.guard with|some (j,_)=>kK ((fL ops.toList []).getD x.2 0) j&&Nat.blt j ops.size|none=>true)&&
  ops.toList.zipIdx.all λy=>Fv ops (fL ops.toList []) x y
def Ap(rk:Nat->Nat)(ops:Array Oper)(order:List Nat):Bool:=
 GY ops (fL ops.toList []) order []&&
 ops.toList.zipIdx.all λx=>
  x.1.after.toList.all (λe=> !Region.binds .any e||(Nat.blt (rk e.on) (rk x.2)&&Nat.blt e.on ops.size))&&
  (match x.1.guard with|some (j,_)=>kK ((fL ops.toList []).getD x.2 0) j&&Nat.blt j ops.size|none=>true)&&
  ops.toList.zipIdx.all λy=>Fv ops (fL ops.toList []) x y
def Ao(ops:Array Oper):Bool:=match R6 ops with|none=>Bj ops|some _=>false
def dX(α:Nat):Code->Bool
 | .region _ ops draw=>ops.toList.all (pY P α)&&(!draw||Ao ops)
 | .seq a b=>dX α a&&dX α b
 | .cond c a b=>cI P c&&dX α a&&dX α b
 | .block _ c=>dX α c
 | .loop c=>dX α c
 | .scope c=>dX α c
 |_=>true
def pZ(fn:Func):Bool:=
 match fn.body with
 |some c=>dX P fn.ntmps c&& !(fn.name== "runtime.NumGoroutine")
 |none=>true
end
end Go.AI
