import Derived.WalkKit
set_option linter.unusedVariables false
set_option linter.unusedSimpArgs false
set_option linter.constructorNameAsVariable false
universe u v
namespace Go.AI
theorem ojE{α:Type u}(a b:α):(some a=some b)=(a=b):=Option.some.injEq a b
theorem pjE{α:Type u}{β:Type v}(a:α)(b:β)(c:α)(d:β):((a,b)=(c,d))=(a=c∧b=d):=Prod.mk.injEq a b c d
theorem bjE(a b:Bool):((a&&b)=true)=(a=true∧b=true):=Bool.and_eq_true a b
theorem djE{p:Prop}[Decidable p]:(decide p=true)=p:=decide_eq_true_eq
theorem nqE{n m:Nat}(h:Nat.beq n m=true):n=m:=Nat.eq_of_beq_eq_true h
theorem mjE{α:Type u}{β:Type v}{b:β}{f:α→β}{o:Option α}:o.map f=some b↔∃a,o=some a∧f a=b:=Option.map_eq_some_iff
theorem mtE{α:Type u}(y:α){a:α}{l:List α}(h:a∈l):a∈y::l:=List.mem_cons_of_mem y h
theorem mhE{α:Type u}{a:α}{l:List α}:a∈a::l:=List.mem_cons_self
theorem cdt{α:Sort u}(a b:α):(bif true then a else b)=a:=rfl
theorem cdf{α:Sort u}(a b:α):(bif false then a else b)=b:=rfl
theorem omS{α:Type u}{β:Type v}(a:α)(f:α→β):Option.map f (some a)=some (f a):=rfl
theorem obS{α:Type u}{β:Type v}(a:α)(f:α→Option β):(some a).bind f=f a:=rfl
theorem lcS{α:Type u}{a:α}{l:List α}:(a::l).length=l.length+1:=rfl
theorem fmC{α:Type u}{β:Type v}{x:α}{l:List α}{f:α→List β}:List.flatMap f (x::l)=f x++List.flatMap f l:=List.flatMap_cons
theorem mpC{α:Type u}{β:Type v}{f:α→β}{a:α}{l:List α}:List.map f (a::l)=f a::List.map f l:=rfl
theorem alC{α:Type u}{a:α}{l:List α}{f:α→Bool}:(a::l).all f=(f a&&l.all f):=List.all_cons
theorem apA{α:Type u}(a b c:List α):a++b++c=a++(b++c):=List.append_assoc a b c
theorem sgA{α:Type u}{x:α}{l:List α}:[x]++l=x::l:=rfl
theorem nlR(n:Nat):n≤n:=Nat.le_refl n
theorem gcS{α:Type u}{a:α}{i:Nat}{l:List α}:(a::l)[i+1]?=l[i]?:=List.getElem?_cons_succ
theorem gcZ{α:Type u}{a:α}{l:List α}:(a::l)[0]?=some a:=List.getElem?_cons_zero
theorem geG{α:Type u}{l:List α}{i:Nat}(h:i<l.length):l[i]?=some l[i]:=List.getElem?_eq_getElem h
theorem nlA{α:Type u}(l:List α):[]++l=l:=rfl
theorem lnN{α:Type u}:([]:List α).length=0:=rfl
theorem cnA{α:Type u}{a:α}{l m:List α}:a::l++m=a::(l++m):=rfl
theorem lnA{α:Type u}{l m:List α}:(l++m).length=l.length+m.length:=List.length_append
theorem apN{α:Type u}(l:List α):l++ []=l:=List.append_nil l
theorem fmN{α:Type u}{β:Type v}{f:α→List β}:List.flatMap f []=[]:=rfl
theorem dfN{p:Prop}{_:Decidable p}:decide p=false↔¬p:=decide_eq_false_iff_not
theorem bnT:(!true)=false:=rfl
theorem bnA(b:Bool):(b&&true)=b:=Bool.and_true b
end Go.AI
namespace Go.AI
inductive Tr(α:Type) where
 |nil:Tr α
 |node:Option α→Tr α→Tr α→Tr α
def Tr.get{α:Type}:Tr α→Nat→Option α
 | .nil,_=>none
 | .node v l r,n=>bif Nat.beq n 0 then v else bif Nat.beq (n%2) 1 then l.get (n/2)else r.get (n/2-1)
def Tr.setF{α:Type}:Nat→Tr α→Nat→α→Tr α
 |0,t,_,_=>t
 |f+1,.nil,n,x=>
  bif Nat.beq n 0 then .node (some x) .nil .nil
  else bif Nat.beq (n%2) 1 then .node none (Tr.setF f .nil (n/2) x) .nil else .node none .nil (Tr.setF f .nil (n/2-1) x)
 |f+1,.node v l r,n,x=>
  bif Nat.beq n 0 then .node (some x) l r
  else bif Nat.beq (n%2) 1 then .node v (Tr.setF f l (n/2) x) r else .node v l (Tr.setF f r (n/2-1) x)
def Tr.set{α:Type}(t:Tr α)(n:Nat)(x:α):Tr α:=Tr.setF (n+1) t n x
def aB:Value→Bool
 | .bool _| .int _ _| .float _ _| .complex _ _ _| .string _=>true
 | .pointer none| .map none| .chan none| .nilFunc| .nilIface=>true
 | .slice none l c=>Nat.beq l 0&&Nat.beq c 0
 |_=>false
def aH:Value→Bool
 | .agg cs=>cs.toList.all aB
 |v=>aB v
def aO{α:Type}(p:Program):Sem α→Option α
 | .pure a=>some a
 | .program k=>aO p (k p)
 | .mark _ k=>aO p k
 |_=>none
def aL(p:Program)(s:Sem Value):Option Value:=
 match aO p s with
 |some v=>bif aH v then some v else none
 |none=>none
def one:Value→Bool
 | .agg _| .tuple _=>false
 |_=>true
mutual
def dE:Value→Value→Bool
 | .bool a,.bool b=>a==b
 | .int j a,.int k b=>(j==k)&&(a==b)
 | .float j a,.float k b=>(j==k)&&(a==b)
 | .complex j a c,.complex k b d=>(j==k)&&(a==b)&&(c==d)
 | .string a,.string b=>a.data.toList==b.data.toList
 | .pointer a,.pointer b=>a==b
 | .slice a l c,.slice b m d=>(a==b)&&(l==m)&&(c==d)
 | .map a,.map b=>a==b
 | .chan a,.chan b=>a==b
 | .func f ⟨xs⟩ ⟨ys⟩,.func g ⟨us⟩ ⟨vs⟩=>(f==g)&&mZ xs us&&mZ ys vs
 | .nilFunc,.nilFunc=>true
 | .iface t v,.iface u w=>(t==u)&&dE v w
 | .nilIface,.nilIface=>true
 | .agg ⟨xs⟩,.agg ⟨ys⟩=>mZ xs ys
 | .tuple ⟨xs⟩,.tuple ⟨ys⟩=>mZ xs ys
 |_,_=>false
def mZ:List Value→List Value→Bool
 |[],[]=>true
 |x::xs,y::ys=>dE x y&&mZ xs ys
 |_,_=>false
end
structure Mta where
 wr:Bool
 tip:Bool
 z:Nat
 grp:Option (Nat×Nat)
 lim:Nat:=0
inductive AObj where
 |cells (cs:List Value) (m:Mta)
 |map (es:List (Value×Value))
structure St where
 mem:Tr AObj
 vers:Tr Nat
 next:Nat
def St.get(σ:St)(id:Nat):Option AObj:=σ.mem.get id
def St.put(σ:St)(id:Nat)(o:AObj):St:={σ with mem:=σ.mem.set id o}
def St.ver(σ:St)(g:Nat):Nat:=(σ.vers.get g).getD 0
def St.bump(σ:St)(g:Nat)(v:Nat):St:={σ with vers:=σ.vers.set g v}
def St.good(σ:St)(m:Mta):Bool:=
 match m.grp with
 |none=>true
 |some (g,v)=>Nat.beq (σ.ver g) v
def St.row(σ:St)(id:Nat):Option (List Value×Mta):=
 match σ.get id with
 |some (.cells cs m)=>bif σ.good m then some (cs,m)else none
 |_=>none
def boxMeta:Mta:={wr:=true,tip:=false,z:=0,grp:=none}
def bD(z:Nat):Mta:={wr:=true,tip:=false,z,grp:=none}
def cut(cs:List Value)(off n:Nat):Option (List Value):=
 let l:=(cs.drop off).take n
 bif Nat.beq l.length n then some l else none
def eZ:List Value→Nat→List Value→List Value
 |cs,_,[]=>cs
 |cs,off,x::xs=>eZ (cs.set off x) (off+1) xs
section
variable(P:Program)
def jD(t:TypeId):Option Nat:=(P.info? t).map (·.size)
def jA(t:TypeId):Option Bool:=(P.underlying t).map fun| .struct _=>true| .array _ _=>true|_=>false
def fD(σ:St)(t:TypeId):Value→Option Value
 | .pointer (some ⟨id,off,none⟩)=>
  match σ.row id with
  |some (cs,_)=>
   match jA P t with
   |some true=>match jD P t with
    |some n=>(cut cs off n).map fun l=> .agg l.toArray
    |none=>none
   |some false=>cs[off]?
   |none=>none
  |none=>none
 |_=>none
def aZ(i:Int)(n:Nat):Bool:=decide (0≤i)&&decide (i<(n:Int))
def gP(s:TypeId)(v:Value)(f:Nat):Option Value:=
 match P.underlying s with
 |some (.struct fs)=>match fs[f]? with
  |some fd=>match jD P fd.type with
   |some n=>match v with
    | .pointer (some ⟨id,off,none⟩)=>bif Nat.beq n 0 then none else some (.pointer (some ⟨id,off+fd.offset,none⟩))
    |_=>none
   |none=>none
  |none=>none
 |_=>none
def wN(t:TypeId)(cs:Array Value)(off:Nat):Option Value:=
 match jA P t with
 |some true=>match jD P t with
  |some n=>some (.agg (cs.extract off (off+n)))
  |none=>none
 |some false=>cs[off]?
 |none=>none
def aAf(t:TypeId)(v:Value)(f:Nat):Option Value:=
 match P.underlying t with
 |some (.struct fs)=>match fs[f]? with
  |some fd=>match v with
   | .agg cs=>wN P fd.type cs fd.offset
   |_=>none
  |none=>none
 |_=>none
def cO(t:TypeId)(v i:Value):Option Value:=
 match i with
 | .int _ n=>
  match P.underlying t with
  |some (.slice e)=>match v with
   | .slice (some ⟨id,off,none⟩) len _=>match jD P e with
    |some z=>bif aZ n len then some (.pointer (some ⟨id,off+n.toNat*z,none⟩))else none
    |none=>none
   |_=>none
  |some (.array len e)=>match v with
   | .pointer (some ⟨id,off,none⟩)=>match jD P e with
    |some z=>bif aZ n len then some (.pointer (some ⟨id,off+n.toNat*z,none⟩))else none
    |none=>none
   |_=>none
  |_=>none
 |_=>none
def aAe(t:TypeId)(v i:Value):Option Value:=
 match P.underlying t with
 |some (.string)=>bif aB v&&aB i then aL P (Instr.index t v i)else none
 |some (.array len e)=>match i,v with
  | .int _ n,.agg cs=>match jD P e with
   |some z=>bif aZ n len then wN P e cs (n.toNat*z)else none
   |none=>none
  |_,_=>none
 |_=>none
def aAg(t:TypeId)(parts:Array (Nat×Value)):Option Value:=
 match aO P (zeroValue t)with
 |some z=>
  bif z.cells.toList.all aB then
   match P.underlying t with
   |some (.struct fs)=>
    match aO P (fs.mapM fun f=>do pure (f.offset,←Go.sizeOf f.type))with
    |some places=>(Instr.fill (fun i=>places[i]?) z.cells parts.toList).map .agg
    |none=>none
   |some (.array _ e)=>
    match jD P e with
    |some s=>(Instr.fill (fun i=>some (i*s,s)) z.cells parts.toList).map .agg
    |none=>none
   |_=>none
  else none
 |none=>none
def iR:Option Value→Option (Option Int)
 |none=>some none
 |some (.int _ n)=>some (some n)
 |_=>none
def aAF(σ:St)(id z:Nat):Bool:=
 match σ.row id with
 |some (_,m)=>Nat.beq m.z z
 |none=>false
def zH:Value:= .slice (some ⟨0,0,some 0⟩) 0 0
def qP:Option Addr→Value
 |none=> .slice none 0 0
 |some _=> .slice (some ⟨0,0,some 1⟩) 0 0
def aFl:Option Int→Bool
 |some n=>decide (n=0)
 |none=>false
def oW(σ:St)(t:TypeId)(v:Value)(lo hi mx:Option Value):Option Value:=
 match P.underlying t with
 |some .string=>match v with
  | .string _=>bif mx.isNone&&aB (lo.getD (.bool true))&&aB (hi.getD (.bool true))then aL P (Instr.sliceAt t v lo hi mx)else none
  |_=>none
 |some (.slice e)=>match v with
  | .slice a len c=>match jD P e,iR lo,iR hi,iR mx with
   |some z,some l,some h,some m=>
    let l:=l.getD 0
    let h':=h.getD (len:Int)
    bif decide (0≤l)&&decide (l≤h')&&decide (h'≤(len:Int))then
     bif Nat.beq len 0&&aFl m&&h.isSome then some (qP a)else
     match a with
     |none=>bif mx.isNone then some (.slice none 0 0)else none
     |some ⟨id,off,none⟩=>
      bif aAF σ id z then
      match m with
      |none=>
       bif Nat.beq c len&&Nat.beq h'.toNat len then
        bif Nat.beq l.toNat len then some (.slice (some ⟨id,off,none⟩) 0 0)
        else some (.slice (some ⟨id,off+l.toNat*z,none⟩) (len-l.toNat) (len-l.toNat))
       else bif Nat.beq h'.toNat len&&Nat.beq l.toNat 0 then some v
       else bif decide (l<(len:Int))then some (.slice (some ⟨id,off+l.toNat*z,none⟩) (h'.toNat-l.toNat) (h'.toNat-l.toNat+1))
       else some zH
      |some m=>
       bif decide (h'=m)&&decide (l<m)&&h.isSome then some (.slice (some ⟨id,off+l.toNat*z,none⟩) (h'.toNat-l.toNat) (h'.toNat-l.toNat))else none
      else bif Nat.beq len 0&&mx.isNone then some v else none
     |some ⟨_,_,some _⟩=>bif Nat.beq len 0&&mx.isNone then some v else none
    else none
   |_,_,_,_=>none
  |_=>none
 |_=>none
def anil(op:BinOp)(x y:Value):Option Value:=
 let r (b:Bool):Option Value:=match op with
  | .eql=>some (.bool b)
  | .neq=>some (.bool (!b))
  |_=>none
 match x,y with
 | .slice (some _) _ _,.slice none _ _=>r false
 | .slice none _ _,.slice (some _) _ _=>r false
 |_,_=>none
def alen(t:TypeId)(v:Value):Option Value:=
 match P.underlying t with
 |some (.slice _)=>match v with
  | .slice _ n _=>some (goInt n)
  |_=>none
 |some .string=>match v with
  | .string s=>some (goInt s.size)
  |_=>none
 |some (.array n _)=>some (goInt n)
 |_=>none
def jV(ρ:Operand→Value)(o:Oper)(c:Call):Option Value:=
 match c.callee with
 | .builtin .len=>match c.argTypes[0]?,c.args[0]? with
  |some t,some x=>alen P t (ρ x)
  |_,_=>none
 | .builtin .min=>bif (c.args.map ρ).toList.all aB then aL P (Builtin.min_ c.argTypes o.type (c.args.map ρ))else none
 | .builtin .max=>bif (c.args.map ρ).toList.all aB then aL P (Builtin.max_ c.argTypes o.type (c.args.map ρ))else none
 |_=>none
def fQ(ρ:Operand→Value)(o:Oper):Option Value:=
 match o.op with
 | .move x=>some (ρ x)
 | .assign x=>some (ρ x)
 | .pick c a b=>match ρ c with
  | .bool true=>some (ρ a)
  | .bool false=>some (ρ b)
  |_=>none
 | .build t parts=>aAg P t (parts.map fun(i,x)=>(i,ρ x))
 | .nilCheck x=>match ρ x with
  | .pointer (some a)=>some (.pointer (some a))
  |_=>none
 | .binOp op t x y _=>
  bif aH (ρ x)&&aH (ρ y)then aL P (do eqGuard op t x y (ρ x) (ρ y);binOp op t (ρ x) (ρ y))
  else match P.underlying t with
   |some (.slice _)=>anil op (ρ x) (ρ y)
   |_=>none
 | .unOp op _ x=>bif aB (ρ x)then aL P (Op.unary op (ρ x))else none
 | .convert s d x=>bif aB (ρ x)then aL P (convert s d (ρ x))else none
 | .makeFunc fn first captured=>some (.func fn (first.map ρ) (captured.map ρ))
 | .fieldAddr s x f=>gP P s (ρ x) f
 | .field t x f=>aAf P t (ρ x) f
 | .indexAddr t x i=>cO P t (ρ x) (ρ i)
 | .index t x i=>aAe P t (ρ x) (ρ i)
 | .extract t i=>match ρ t with
  | .tuple vs=>vs[i]?
  |_=>none
 | .call c=>jV P ρ o c
 |_=>none
def gO(σ:St)(ρ:Operand→Value)(o:Oper):Option Value:=
 match o.op with
 | .load t a=>fD P σ t (ρ a)
 | .slice t x lo hi mx=>oW P σ t (ρ x) (lo.map ρ) (hi.map ρ) (mx.map ρ)
 |_=>none
def bI(z:List Value):Nat→List Value
 |0=>[]
 |n+1=>z++bI z n
def eA(ρ:Operand→Value)(o:Oper)(id:Nat):Option (Value×AObj):=
 match o.op with
 | .alloc t=>match aO P (zeroValue t)with
  |some z=>bif z.cells.toList.all aB then some (.pointer (some ⟨id,0,none⟩),.cells z.cells.toList boxMeta)else none
  |none=>none
 | .box _ x=>bif (ρ x).cells.toList.all one then some (.pointer (some ⟨id,0,none⟩),.cells (ρ x).cells.toList boxMeta)else none
 | .buildSlice t len parts=>
  match P.underlying t with
  |some (.slice e)=>match jD P e with
   |some s=>match aO P (zeroValue e)with
    |some z=>
     bif z.cells.toList.all aB&&Nat.ble (len*s) 1000000&&Nat.beq z.cells.size s&&Nat.ble 1 s then
      (Instr.fill (fun i=>some (i*s,s)) (bI z.cells.toList len).toArray (parts.map fun(i,x)=>(i,ρ x)).toList).map
       fun cs=>(.slice (some ⟨id,0,none⟩) len len,.cells cs.toList (bD s))
     else none
    |none=>none
   |none=>none
  |_=>none
 | .makeSlice t l c=>
  match P.underlying t,ρ l,ρ c with
  |some (.slice e),.int .i64 n,.int .i64 k=>match P.info? e with
   |some info=>match info.zero with
    |some z=>
     bif decide (0≤n)&&decide (n≤k)&&decide (k*(info.bytes:Int)≤1073741824)&&decide (k≤1073741824)&&z.cells.toList.all aB&&Nat.beq z.cells.size info.size&&Nat.ble 1 info.size then
      bif decide (n=k)then some (.slice (some ⟨id,0,none⟩) n.toNat n.toNat,.cells (bI z.cells.toList n.toNat) (bD info.size))
      else some (.slice (some ⟨id,0,none⟩) n.toNat (n.toNat+1),.cells (bI z.cells.toList n.toNat) {wr:=true,tip:=true,z:=info.size,grp:=some (id,0)})
     else none
    |none=>none
   |none=>none
  |_,_,_=>none
 |_=>none
def iT(σ:St)(t:TypeId)(a x:Value):Option St:=
 match a with
 | .pointer (some ⟨id,off,none⟩)=>
  match σ.row id,jD P t with
  |some (cs,m),some n=>
   bif m.wr&&Nat.beq x.cells.size n&&Nat.ble (off+n) cs.length&&x.cells.toList.all one then
    match m.grp with
    |none=>some (σ.put id (.cells (eZ cs off x.cells.toList) m))
    |some (g,v)=>bif m.tip&&Nat.ble m.lim off then some (σ.put id (.cells (eZ cs off x.cells.toList) m))else some ((σ.put id (.cells (eZ cs off x.cells.toList) {m with grp:=some (g,v+1)})).bump g (v+1))
   else none
  |_,_=>none
 |_=>none
def lN(σ:St)(z:Nat):Value→Option (Nat×List Value)
 | .slice none _ _=>some (0,[])
 | .slice (some ⟨id,off,none⟩) n _=>match σ.row id with
  |some (cs,_)=>(cut cs off (n*z)).map fun l=>(n,l)
  |none=>none
 | .string s=>bif Nat.beq z 1 then some (s.size,s.data.toList.map fun b=> .int .u8 b.toNat)else none
 | .slice (some ⟨_,_,some _⟩) 0 _=>some (0,[])
 |_=>none
def cS(z id:Nat):Mta:={wr:=true,tip:=true,z,grp:=some (id,0)}
def iZ(σ:St)(id' z bytes n:Nat)(xs:List Value)(s:Value):Option (Value×St):=
 match s with
 | .slice none _ _=>
  bif Nat.ble (n*bytes) 1073741824 then some (.slice (some ⟨id',0,none⟩) n (n+1),σ.put id' (.cells xs (cS z id')))else none
 | .slice (some ⟨id,off,none⟩) len k=>
  bif Nat.ble ((len+n)*bytes) 1073741824 then
   match σ.row id with
   |some (cs,m)=>
    match cut cs off (len*z)with
    |some old=>
     bif Nat.beq k len then some (.slice (some ⟨id',0,none⟩) (len+n) (len+n+1),σ.put id' (.cells (old++xs) (cS z id')))
     else bif m.tip&&m.wr&&Nat.beq m.z z&&Nat.beq (off+len*z) cs.length&&m.grp.isSome then
      some (.slice (some ⟨id',0,none⟩) (len+n) (len+n+1),(σ.put id (.cells cs {m with tip:=false})).put id' (.cells (old++xs) {m with lim:=old.length}))
     else none
    |none=>none
   |none=>none
  else none
 | .slice (some ⟨_,_,some s⟩) _ _=>
  bif Nat.beq s 1&&Nat.ble (n*bytes) 1073741824 then some (.slice (some ⟨id',0,none⟩) n (n+1),σ.put id' (.cells xs (cS z id')))else none
 |_=>none
def cV:Value→Bool
 | .slice .. =>true
 |_=>false
def fits(u:TypeDesc)(x:Value):Bool:=
 match u with
 | .slice _=>cV x
 | .string=> !cV x
 |_=>false
def gG(σ:St)(id':Nat)(c:Call)(s x:Value):Option (Value×St):=
 match c.argTypes.toList with
 |[t,t1]=>
  match P.underlying t,P.underlying t1 with
  |some (.slice e),some u=>
   bif fits u x then
    match P.info? e with
    |some info=>
     match lN σ info.size x,info.zero with
     |some (n,xs),some z=>
      bif xs.all one&&Nat.ble 1 info.size&&Nat.ble 1 info.bytes&&Nat.beq z.cells.size info.size&&cV s then
       bif Nat.beq n 0 then some (s,σ)else iZ σ id' info.size info.bytes n xs s
      else none
     |_,_=>none
    |none=>none
   else none
  |_,_=>none
 |_=>none
inductive OK where
 |pure|read|alloc|eff
def aP(o:Oper):OK:=
 match o.op with
 | .load .. | .lookup .. | .slice .. => .read
 | .alloc .. | .box .. | .buildSlice .. | .makeSlice .. | .makeMap .. => .alloc
 | .store .. | .mapUpdate .. | .insert .. => .eff
 | .call c=>match c.callee with
  | .builtin .len| .builtin .min| .builtin .max=> .pure
  |_=> .eff
 |_=> .pure
def rX(ρ:Operand→Value)(c:Call):Option (FuncId×Array Value):=
 match c.callee with
 | .value f=>match ρ f with
  | .func (.func g) first captured=>some (g,first++c.args.map ρ++captured)
  |_=>none
 |_=>none
def aAK(call:FuncId→Array Value→St→Option (Value×St))(σ:St)(ρ:Operand→Value)(o:Oper)(id':Nat):Option (Value×St):=
 match o.op with
 | .store t a x=>(iT P σ t (ρ a) (ρ x)).map fun σ'=>(undef,σ')
 | .call c=>match c.callee with
  | .builtin .append=>match c.args.toList with
   |[s,x]=>gG P σ id' c (ρ s) (ρ x)
   |_=>none
  |_=>match rX ρ c with
   |some (g,args)=>call g args σ
   |none=>none
 |_=>none
abbrev Slots:=Tr Value
def Slots.at(S:Slots)(i:Nat):Value:=(Tr.get S i).getD undef
def ev(S:Slots):Operand→Value
 | .tmp t=>S.at t
 | .const v=>v
 | .global g=> .pointer (some ⟨g,0,none⟩)
 | .func f=> .func (.func f) #[] #[]
def Slots.store(S:Slots)(d:Option Tmp)(v:Value):Slots:=
 match d with
 |some d=>Tr.set S d v
 |none=>S
def wanted(ops:Array Oper)(S:Slots)(o:Oper):Bool:=
 match o.guard with
 |none=>true
 |some (j,want)=>
  match(ops[j]?.bind (·.dst)).map S.at with
  |some (.bool b)=>b==want
  |_=>false
def bytesOf:List Value→Option (List Int)
 |[]=>some []
 | .int .u8 n::r=>(bytesOf r).map (n:: ·)
 |_=>none
def mP(σ:St)(s d:TypeId)(v:Value):Option Value:=
 match P.underlying s,P.underlying d with
 |some (.slice e),some .string=>match P.underlying e with
  |some (.int .u8)=>match v with
   | .slice (some ⟨id,off,none⟩) n _=>match σ.row id with
    |some (cs,_)=>match cut cs off n with
     |some l=>(bytesOf l).map fun ns=> .string (ns.foldl (fun r n=>r.push (UInt8.ofNat n.toNat)) ByteArray.empty)
     |none=>none
    |none=>none
   | .slice (some ⟨_,_,some _⟩) 0 _=>some (.string ByteArray.empty)
   |_=>none
  |_=>none
 |_,_=>none
def fL(σ:St)(ρ:Operand→Value)(o:Oper):Option Value:=
 match fQ P ρ o with
 |some v=>some v
 |none=>match o.op with
  | .convert s d x=>mP P σ s d (ρ x)
  |_=>none
def aop(call:FuncId→Array Value→St→Option (Value×St))(base:Nat)(i:Nat)(o:Oper)(S:Slots)(σ:St):Option (Value×St):=
 match aP o with
 | .pure=>(fL P σ (ev S) o).map fun v=>(v,σ)
 | .read=>(gO P σ (ev S) o).map fun v=>(v,σ)
 | .alloc=>(eA P (ev S) o (base+i)).map fun(v,b)=>(v,σ.put (base+i) b)
 | .eff=>aAK P call σ (ev S) o (base+i)
def cK(call:FuncId→Array Value→St→Option (Value×St))(ops:Array Oper)(base:Nat):List Oper→Nat→Slots→St→Option (Slots×St)
 |[],_,S,σ=>some (S,σ)
 |o::rest,i,S,σ=>
  bif wanted ops S o then
   match aop P call base i o S σ with
   |some (v,σ')=>cK call ops base rest (i+1) (S.store o.dst v) σ'
   |none=>none
  else cK call ops base rest (i+1) (S.store o.dst undef) σ
def gK(o:Oper):Bool:=match aP o with| .eff=>true|_=>false
def mH(ms:List Nat)(o:Oper):Nat:=
 o.after.toList.foldl (fun m e=>bif Region.binds .any e then(m|||(1<<<e.on))|||ms.getD e.on 0 else m) 0
def dV:List Oper→List Nat→List Nat
 |[],ms=>ms
 |o::os,ms=>dV os (ms++ [mH ms o])
def bit(m i:Nat):Bool:=Nat.beq ((m>>>i)%2) 1
def effs:List Oper→Nat→List Nat
 |[],_=>[]
 |o::os,i=>bif gK o then i::effs os (i+1)else effs os (i+1)
def level(ms:List Nat)(es:List Nat)(i:Nat):Nat:=(es.filter fun e=>bit (ms.getD i 0) e).length
def zX(ms:List Nat)(all es:List Nat)(quiet:List Nat):Nat→List Nat→List Nat
 |k,[]=>quiet.filter fun i=>Nat.beq (level ms all i) k
 |k,e::rest=>(quiet.filter fun i=>Nat.beq (level ms all i) k)++e::zX ms all es quiet (k+1) rest
def sK(ops:Array Oper)(ms:List Nat):List Nat:=
 let es:=effs ops.toList 0
 zX ms es es ((List.range ops.size).filter fun i=> !(es.contains i)) 0 es
structure jC where
 i:Nat
 o:Oper
 S:Slots
 v:Value
 ob:Option AObj
def lY(m n:Mta):Bool:=(m.wr==n.wr)&&(m.tip==n.tip)&&Nat.beq m.z n.z&&(m.grp==n.grp)&&Nat.beq m.lim n.lim
def uT:List (Value×Value)→List (Value×Value)→Bool
 |[],[]=>true
 |x::xs,y::ys=>dE x.1 y.1&&dE x.2 y.2&&uT xs ys
 |_,_=>false
def jH:AObj→AObj→Bool
 | .cells cs m,.cells ds n=>mZ cs ds&&lY m n
 | .map es,.map fs=>uT es fs
 |_,_=>false
def check(base:Nat)(σ:St)(r:jC):Bool:=
 match r.ob with
 |none=>match gO P σ (ev r.S) r.o with
  |some v=>dE v r.v
  |none=>false
 |some ob=>match σ.get (base+r.i)with
  |some ob'=>jH ob' ob
  |none=>false
def dK(call:FuncId→Array Value→St→Option (Value×St))(ops:Array Oper)(ms:List Nat)(base:Nat):List Nat→List jC→Slots→St→Option (Slots×St)
 |[],pend,S,σ=>bif pend.all (check P base σ)then some (S,σ)else none
 |i::rest,pend,S,σ=>
  match ops[i]? with
  |none=>none
  |some o=>
   bif wanted ops S o then
    match aP o with
    | .pure=>match fQ P (ev S) o with
     |some v=>dK call ops ms base rest pend (S.store o.dst v) σ
     |none=>none
    | .read=>match gO P σ (ev S) o with
     |some v=>dK call ops ms base rest (⟨i,o,S,v,none⟩::pend) (S.store o.dst v) σ
     |none=>none
    | .alloc=>match eA P (ev S) o (base+i)with
     |some (v,ob)=>dK call ops ms base rest (⟨i,o,S,v,some ob⟩::pend) (S.store o.dst v) (σ.put (base+i) ob)
     |none=>none
    | .eff=>bif pend.all (check P base σ)then
            match aAK P call σ (ev S) o (base+i)with
            |some (v,σ')=>dK call ops ms base rest (pend.filter fun r=> !bit (ms.getD i 0) r.i) (S.store o.dst v) σ'
            |none=>none
     else none
   else dK call ops ms base rest pend (S.store o.dst undef) σ
inductive Fl where
 |normal
 |exit (n:Nat)
 |ret
def iter(body:Slots→St→Option (Fl×Slots×St)):Nat→Slots→St→Option (Fl×Slots×St)
 |0,_,_=>none
 |n+1,S,σ=>match body S σ with
  |some (.normal,S',σ')=>iter body n S' σ'
  |r=>r
def twin(ops:Array Oper):Option (Operand×Operand):=
 match ops[ops.size-2]?,ops[ops.size-1]? with
 |some x,some y=>match x.op,y.op,x.guard,y.guard,x.dst,y.dst with
  | .store _ a _,.store _ b _,none,none,none,none=>bif Nat.blt ops.size 2||bit ((dV ops.toList []).getD (ops.size-1) 0) (ops.size-2)then none else some (a,b)
  |_,_,_,_,_,_=>none
 |_,_=>none
def okTw(ops:Array Oper)(S:Slots)(σ:St):Bool:=
 match twin ops with
 |none=>true
 |some (a,b)=>match ev S a,ev S b with
  | .pointer (some ⟨i,_,none⟩),.pointer (some ⟨j,_,none⟩)=> !Nat.beq i j&&(match σ.get j with|some (.cells _ m)=>m.grp.isNone|_=>false)
  |_,_=>false
def fitTw(ops:Array Oper):Option (Slots×St)→Option (Slots×St)
 |some r=>bif okTw ops r.1 r.2 then some r else none
 |none=>none
def dN(call:FuncId→Array Value→St→Option (Value×St))(ops:Array Oper)(draw:Bool)(S:Slots)(σ:St):Option (Slots×St):=
 bif draw then fitTw ops (dK P call ops (dV ops.toList []) σ.next (sK ops (dV ops.toList [])) [] S {σ with next:=σ.next+ops.size})
 else cK P call ops σ.next ops.toList 0 S {σ with next:=σ.next+ops.size}
def aS(call:FuncId→Array Value→St→Option (Value×St))(L:Nat):Code→Slots→St→Option (Fl×Slots×St)
 | .skip,S,σ=>some (.normal,S,σ)
 | .label _,S,σ=>some (.normal,S,σ)
 | .region _ ops draw,S,σ=>(dN P call ops draw S σ).map fun(S',σ')=>(.normal,S',σ')
 | .seq a b,S,σ=>match aS call L a S σ with
  |some (.normal,S',σ')=>aS call L b S' σ'
  |r=>r
 | .cond c a b,S,σ=>match ev S c with
  | .bool true=>aS call L a S σ
  | .bool false=>aS call L b S σ
  |_=>none
 | .block id c,S,σ=>match aS call L c S σ with
  |some (.exit n,S',σ')=>bif Nat.beq n id then some (.normal,S',σ')else some (.exit n,S',σ')
  |r=>r
 | .loop c,S,σ=>iter (fun S σ=>aS call L c S σ) L S σ
 | .exit id,S,σ=>some (.exit id,S,σ)
 | .ret,S,σ=>some (.ret,S,σ)
 | .scope c,S,σ=>aS call L c S σ
 |_,_,_=>none
def qD(S:Slots)(σ:St):ResultVar→Option Value
 | .tmp t=>some (S.at t)
 | .cell a t=>fD P σ t (S.at a)
def cG(S:Slots)(σ:St):List ResultVar→Option (List Value)
 |[]=>some []
 |r::rs=>match qD P S σ r,cG S σ rs with
  |some v,some vs=>some (v::vs)
  |_,_=>none
def rU:List Value→Value
 |[v]=>v
 |vs=> .tuple vs.toArray
def gF:List Value→Nat→Slots→Slots
 |[],_,S=>S
 |v::vs,i,S=>gF vs (i+1) (Tr.set S i v)
def aI:Operand→Bool
 | .const v=>aH v
 | .global g=>Nat.blt g P.globals.size
 |_=>true
def mE(N:Nat)(o:Oper):Bool:=
 (match o.dst with|some d=>Nat.blt d N|none=>true)&&o.op.operands.all (aI P)
def effAt(ops:Array Oper)(e:Nat):Bool:=match ops[e]? with|some o=>gK o|none=>false
def topo(ops:Array Oper)(ms:List Nat):List Nat→List Nat→Bool
 |[],done=>(List.range ops.size).all fun i=>done.contains i
 |i::rest,done=>Nat.blt i ops.size&& !done.contains i&&(List.range ops.size).all (fun j=> !bit (ms.getD i 0) j||done.contains j)&&
      done.all (fun e=> !effAt ops e||bit (ms.getD i 0) e)&&topo ops ms rest (i::done)
def aDN(ops:Array Oper)(ms:List Nat)(x y:Oper×Nat):Bool:=
 Nat.beq x.2 y.2||((match y.1.dst with
        |some d=>(bit (ms.getD x.2 0) y.2||bit (ms.getD y.2 0) x.2|| !(x.1.looksAt ops).contains d)
        |none=>true)&&
       (match x.1.dst,y.1.dst with|some d,some d'=> !Nat.beq d d'|_,_=>true))
def yF(ops:Array Oper):Bool:=
 topo ops (dV ops.toList []) (sK ops (dV ops.toList [])) []&&
 ops.toList.zipIdx.all fun x=>
  x.1.after.toList.all (fun e=> !Region.binds .any e||Nat.blt e.on x.2)&&
  (match x.1.guard with|some (j,_)=>bit ((dV ops.toList []).getD x.2 0) j&&Nat.blt j ops.size|none=>true)&&
  ops.toList.zipIdx.all fun y=>aDN ops (dV ops.toList []) x y
def vL(rk:Nat→Nat)(ops:Array Oper)(order:List Nat):Bool:=
 topo ops (dV ops.toList []) order []&&
 ops.toList.zipIdx.all fun x=>
  x.1.after.toList.all (fun e=> !Region.binds .any e||(Nat.blt (rk e.on) (rk x.2)&&Nat.blt e.on ops.size))&&
  (match x.1.guard with|some (j,_)=>bit ((dV ops.toList []).getD x.2 0) j&&Nat.blt j ops.size|none=>true)&&
  ops.toList.zipIdx.all fun y=>aDN ops (dV ops.toList []) x y
def eqN:List Nat→List Nat→Bool
 |[],[]=>true
 |a::l,b::r=>Nat.beq a b&&eqN l r
 |_,_=>false
def vK(ops:Array Oper):Bool:=match twin ops with|none=>yF ops|some _=>false
def bV(N:Nat):Code→Bool
 | .region _ ops draw=>ops.toList.all (mE P N)&&(!draw||vK ops)
 | .seq a b=>bV N a&&bV N b
 | .cond c a b=>aI P c&&bV N a&&bV N b
 | .block _ c=>bV N c
 | .loop c=>bV N c
 | .scope c=>bV N c
 |_=>true
def dJ(fn:Func):Bool:=
 match fn.body with
 | some c => bV P fn.ntmps c && !(fn.name == "runtime.NumGoroutine")
 |none=>true
end
end Go.AI
