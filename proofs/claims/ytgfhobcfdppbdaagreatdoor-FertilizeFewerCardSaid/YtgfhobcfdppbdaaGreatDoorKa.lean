import Derived.WalkKit
open Option renaming some->aa,none->ad
open Bool renaming true->ae,false->ah
open Decidable renaming decide->aj
open Nat renaming beq->am,ble->an,blt->d8
open Go renaming Value->au,TypeId->av,Operand->az
set_option linter.unusedVariables false
set_option linter.unusedSimpArgs false
set_option linter.constructorNameAsVariable false
set_option linter.defProp false
universe u v
namespace Go.AI
def aA{N:Type u}(a b:N):(aa a=aa b)=(a=b):=Option.some.injEq a b
def aB{N:Type u}{W:Type v}(a:N)(b:W)(c:N)(d:W):((a,b)=(c,d))=(a=c/\b=d):=Prod.mk.injEq a b c d
def aC(a b:Bool):((a&&b)=ae)=(a=ae/\b=ae):=Bool.and_eq_true a b
def aD{p:Prop}[Decidable p]:(decide p=ae)=p:=decide_eq_true_eq
def aE{n m:Nat}(h:am n m=ae):n=m:=Nat.eq_of_beq_eq_true h
def aF{N:Type u}{W:Type v}{b:W}{f:N->W}{o:Option N}:o.map f=aa b↔∃a,o=aa a/\f a=b:=Option.map_eq_some_iff
def aG{N:Type u}(y:N){a:N}{l:List N}(h:a∈l):a∈y::l:=List.mem_cons_of_mem y h
def aH{N:Type u}{a:N}{l:List N}:a∈a::l:=List.mem_cons_self
def aI{N:Sort u}(a b:N):(bif ae then a else b)=a:=rfl
def aJ{N:Sort u}(a b:N):(bif ah then a else b)=b:=rfl
def aK{N:Type u}{W:Type v}(a:N)(f:N->W):Option.map f (aa a)=aa (f a):=rfl
def aL{N:Type u}{W:Type v}(a:N)(f:N->Option W):(aa a).bind f=f a:=rfl
def aM{N:Type u}{a:N}{l:List N}:(a::l).length=l.length+1:=rfl
def aN{N:Type u}{W:Type v}{x:N}{l:List N}{f:N->List W}:List.flatMap f (x::l)=f x++List.flatMap f l:=List.flatMap_cons
def aO{N:Type u}{W:Type v}{f:N->W}{a:N}{l:List N}:List.map f (a::l)=f a::List.map f l:=rfl
def aP{N:Type u}{a:N}{l:List N}{f:N->Bool}:(a::l).all f=(f a&&l.all f):=List.all_cons
def aQ{N:Type u}(a b c:List N):a++b++c=a++(b++c):=List.append_assoc a b c
def aR{N:Type u}{x:N}{l:List N}:[x]++l=x::l:=rfl
def aS(n:Nat):n<=n:=Nat.le_refl n
def aT{N:Type u}{a:N}{i:Nat}{l:List N}:(a::l)[i+1]?=l[i]?:=List.getElem?_cons_succ
def aU{N:Type u}{a:N}{l:List N}:(a::l)[0]?=aa a:=List.getElem?_cons_zero
def aV{N:Type u}{l:List N}{i:Nat}(h:i<l.length):l[i]?=aa l[i]:=List.getElem?_eq_getElem h
def aW{N:Type u}(l:List N):[]++l=l:=rfl
def aX{N:Type u}:([]:List N).length=0:=rfl
def aY{N:Type u}{a:N}{l m:List N}:a::l++m=a::(l++m):=rfl
def aZ{N:Type u}{l m:List N}:(l++m).length=l.length+m.length:=List.length_append
def bA{N:Type u}(l:List N):l++ []=l:=List.append_nil l
def bB{N:Type u}{W:Type v}{f:N->List W}:List.flatMap f []=[]:=rfl
def bC{p:Prop}{_:Decidable p}:decide p=ah↔¬p:=decide_eq_false_iff_not
def bD:(!true)=ah:=rfl
def bE(b:Bool):(b&&ae)=b:=Bool.and_true b
def bF{p:Prop}[Decidable p](h:p):decide p=ae:=decide_eq_true h
def bG{p:Prop}[Decidable p](h: ¬p):decide p=ah:=decide_eq_false h
def bH{c:Prop}{_:Decidable c}(h: ¬c){N:Sort u}{t e:N}:(if c then t else e)=e:=if_neg h
def bI{c:Prop}{_:Decidable c}(h:c){N:Sort u}{t e:N}:(if c then t else e)=t:=if_pos h
def bJ{N:Type u}{p:N->Bool}{l:List N}:l.all p=ae↔∀x,x∈l->p x=ae:=List.all_eq_true
def bK{n m:Nat}(h:an n m=ae):n<=m:=Nat.le_of_ble_eq_true h
end Go.AI
namespace Go.AI
inductive Tr(N:Type) where
 |nil:Tr N
 |node:Option N->Tr N->Tr N->Tr N
def Tr.get{N:Type}:Tr N->Nat->Option N
 | .nil,_=>ad
 | .node v l r,n=>bif am n 0 then v else bif am (n%2) 1 then l.get (n/2)else r.get (n/2-1)
def Tr.setF{N:Type}:Nat->Tr N->Nat->N->Tr N
 |0,t,_,_=>t
 |f+1,.nil,n,x=>
  bif am n 0 then .node (aa x) .nil .nil
  else bif am (n%2) 1 then .node ad (Tr.setF f .nil (n/2) x) .nil else .node ad .nil (Tr.setF f .nil (n/2-1) x)
 |f+1,.node v l r,n,x=>
  bif am n 0 then .node (aa x) l r
  else bif am (n%2) 1 then .node v (Tr.setF f l (n/2) x) r else .node v l (Tr.setF f r (n/2-1) x)
def Tr.set{N:Type}(t:Tr N)(n:Nat)(x:N):Tr N:=Tr.setF (n+1) t n x
def bQ:au->Bool
 | .bool _| .int _ _| .float _ _| .complex _ _ _| .string _=>ae
 | .pointer ad| .map ad| .chan ad| .nilFunc| .nilIface=>ae
 | .slice ad l c=>am l 0&&am c 0
 |_=>ah
def cN:au->Bool
 | .agg cs=>cs.toList.all bQ
 |v=>bQ v
def cJ{N:Type}(p:Program):Sem N->Option N
 | .pure a=>aa a
 | .program k=>cJ p (k p)
 | .mark _ k=>cJ p k
 |_=>ad
def cS(p:Program)(s:Sem au):Option au:=
 match cJ p s with
 |some v=>bif cN v then aa v else ad
 |none=>ad
def one:au->Bool
 | .agg _| .tuple _=>ah
 |_=>ae
mutual
def fM:au->au->Bool
 | .bool a,.bool b=>a==b
 | .int j a,.int k b=>(j==k)&&(a==b)
 | .float j a,.float k b=>(j==k)&&(a==b)
 | .complex j a c,.complex k b d=>(j==k)&&(a==b)&&(c==d)
 | .string a,.string b=>a.data.toList==b.data.toList
 | .pointer a,.pointer b=>a==b
 | .slice a l c,.slice b m d=>(a==b)&&(l==m)&&(c==d)
 | .map a,.map b=>a==b
 | .chan a,.chan b=>a==b
 | .func f ⟨xs⟩ ⟨ys⟩,.func g ⟨us⟩ ⟨vs⟩=>(f==g)&&qX xs us&&qX ys vs
 | .nilFunc,.nilFunc=>ae
 | .iface t v,.iface u w=>(t==u)&&fM v w
 | .nilIface,.nilIface=>ae
 | .agg ⟨xs⟩,.agg ⟨ys⟩=>qX xs ys
 | .tuple ⟨xs⟩,.tuple ⟨ys⟩=>qX xs ys
 |_,_=>ah
def qX:List au->List au->Bool
 |[],[]=>ae
 |x::xs,y::ys=>fM x y&&qX xs ys
 |_,_=>ah
end
structure uJ where
 wr:Bool
 tip:Bool
 z:Nat
 grp:Option (Nat×Nat)
 lim:Nat:=0
inductive AObj where
 |cells (cs:List au) (m:uJ)
 |map (es:List (au×au))
structure St where
 mem:Tr AObj
 vers:Tr Nat
 next:Nat
def St.get(H:St)(id:Nat):Option AObj:=H.mem.get id
def St.put(H:St)(id:Nat)(o:AObj):St:={H with mem:=H.mem.set id o}
def St.ver(H:St)(g:Nat):Nat:=(H.vers.get g).getD 0
def St.bump(H:St)(g:Nat)(v:Nat):St:={H with vers:=H.vers.set g v}
def St.good(H:St)(m:uJ):Bool:=
 match m.grp with
 |none=>ae
 |some (g,v)=>am (H.ver g) v
def St.row(H:St)(id:Nat):Option (List au×uJ):=
 match H.get id with
 |some (.cells cs m)=>bif H.good m then aa (cs,m)else ad
 |_=>ad
def boxMeta:uJ:={wr:=ae,tip:=ah,z:=0,grp:=ad}
def eG(z:Nat):uJ:={wr:=ae,tip:=ah,z,grp:=ad}
def cut(cs:List au)(off n:Nat):Option (List au):=
 let l:=(cs.drop off).take n
 bif am l.length n then aa l else ad
def iJ:List au->Nat->List au->List au
 |cs,_,[]=>cs
 |cs,off,x::xs=>iJ (cs.set off x) (off+1) xs
section
variable(P:Program)
def iH(t:av):Option Nat:=(P.info? t).map (·.size)
def jT(t:av):Option Bool:=(P.underlying t).map fun| .struct _=>ae| .array _ _=>ae|_=>ah
def kT(H:St)(t:av):au->Option au
 | .pointer (aa ⟨id,off,ad⟩)=>
  match H.row id with
  |some (cs,_)=>
   match jT P t with
   |some ae=>match iH P t with
    |some n=>(cut cs off n).map λl=> .agg l.toArray
    |none=>ad
   |some ah=>cs[off]?
   |none=>ad
  |none=>ad
 |_=>ad
def cR(i:Int)(n:Nat):Bool:=aj (0<=i)&&aj (i<(n:Int))
def pF(s:av)(v:au)(f:Nat):Option au:=
 match P.underlying s with
 |some (.struct fs)=>match fs[f]? with
  |some fd=>match iH P fd.type with
   |some n=>match v with
    | .pointer (aa ⟨id,off,ad⟩)=>bif am n 0 then ad else aa (.pointer (aa ⟨id,off+fd.offset,ad⟩))
    |_=>ad
   |none=>ad
  |none=>ad
 |_=>ad
def Bu(t:av)(cs:Array au)(off:Nat):Option au:=
 match jT P t with
 |some ae=>match iH P t with
  |some n=>aa (.agg (cs.extract off (off+n)))
  |none=>ad
 |some ah=>cs[off]?
 |none=>ad
def sZ(t:av)(v:au)(f:Nat):Option au:=
 match P.underlying t with
 |some (.struct fs)=>match fs[f]? with
  |some fd=>match v with
   | .agg cs=>Bu P fd.type cs fd.offset
   |_=>ad
  |none=>ad
 |_=>ad
def jL(t:av)(v i:au):Option au:=
 match i with
 | .int _ n=>
  match P.underlying t with
  |some (.slice e)=>match v with
   | .slice (aa ⟨id,off,ad⟩) len _=>match iH P e with
    |some z=>bif cR n len then aa (.pointer (aa ⟨id,off+n.toNat*z,ad⟩))else ad
    |none=>ad
   |_=>ad
  |some (.array len e)=>match v with
   | .pointer (aa ⟨id,off,ad⟩)=>match iH P e with
    |some z=>bif cR n len then aa (.pointer (aa ⟨id,off+n.toNat*z,ad⟩))else ad
    |none=>ad
   |_=>ad
  |_=>ad
 |_=>ad
def FF(t:av)(v i:au):Option au:=
 match P.underlying t with
 |some (.string)=>bif bQ v&&bQ i then cS P (Instr.index t v i)else ad
 |some (.array len e)=>match i,v with
  | .int _ n,.agg cs=>match iH P e with
   |some z=>bif cR n len then Bu P e cs (n.toNat*z)else ad
   |none=>ad
  |_,_=>ad
 |_=>ad
def FG(t:av)(parts:Array (Nat×au)):Option au:=
 match cJ P (zeroValue t)with
 |some z=>
  bif z.cells.toList.all bQ then
   match P.underlying t with
   |some (.struct fs)=>
    match cJ P (fs.mapM λf=>do pure (f.offset,<-Go.sizeOf f.type))with
    |some places=>(Instr.fill (λi=>places[i]?) z.cells parts.toList).map .agg
    |none=>ad
   |some (.array _ e)=>
    match iH P e with
    |some s=>(Instr.fill (λi=>aa (i*s,s)) z.cells parts.toList).map .agg
    |none=>ad
   |_=>ad
  else ad
 |none=>ad
def nZ:Option au->Option (Option Int)
 |none=>aa ad
 |some (.int _ n)=>aa (aa n)
 |_=>ad
def qD(H:St)(id z:Nat):Bool:=
 match H.row id with
 |some (_,m)=>am m.z z
 |none=>ah
def Fc:au:= .slice (aa ⟨0,0,aa 0⟩) 0 0
def Ac:Option Addr->au
 |none=> .slice ad 0 0
 |some _=> .slice (aa ⟨0,0,aa 1⟩) 0 0
def BW:Option Int->Bool
 |some n=>decide (n=0)
 |none=>ah
def wE(H:St)(t:av)(v:au)(lo hi mx:Option au):Option au:=
 match P.underlying t with
 |some .string=>match v with
  | .string _=>bif mx.isNone&&bQ (lo.getD (.bool ae))&&bQ (hi.getD (.bool ae))then cS P (Instr.sliceAt t v lo hi mx)else ad
  |_=>ad
 |some (.slice e)=>match v with
  | .slice a len c=>match iH P e,nZ lo,nZ hi,nZ mx with
   |some z,aa l,aa h,aa m=>
    let l:=l.getD 0
    let h':=h.getD (len:Int)
    bif aj (0<=l)&&aj (l<=h')&&aj (h'<=(len:Int))then
     bif am len 0&&BW m&&h.isSome then aa (Ac a)else
     match a with
     |none=>bif mx.isNone then aa (.slice ad 0 0)else ad
     |some ⟨id,off,ad⟩=>
      bif qD H id z then
      match m with
      |none=>
       bif am c len&&am h'.toNat len then
        bif am l.toNat len then aa (.slice (aa ⟨id,off,ad⟩) 0 0)
        else aa (.slice (aa ⟨id,off+l.toNat*z,ad⟩) (len-l.toNat) (len-l.toNat))
       else bif am h'.toNat len&&am l.toNat 0 then aa v
       else bif aj (l<(len:Int))then aa (.slice (aa ⟨id,off+l.toNat*z,ad⟩) (h'.toNat-l.toNat) (h'.toNat-l.toNat+1))
       else aa Fc
      |some m=>
       bif aj (h'=m)&&aj (l<m)&&h.isSome then aa (.slice (aa ⟨id,off+l.toNat*z,ad⟩) (h'.toNat-l.toNat) (h'.toNat-l.toNat))else ad
      else bif am len 0&&mx.isNone then aa v else ad
     |some ⟨_,_,aa _⟩=>bif am len 0&&mx.isNone then aa v else ad
    else ad
   |_,_,_,_=>ad
  |_=>ad
 |some (.array n e)=>match v,lo,hi,mx,iH P e with
  | .pointer (aa ⟨id,off,ad⟩),ad,ad,ad,aa _=>bif qD H id 0 then aa (.slice (aa ⟨id,off,ad⟩) n n)else ad
  |_,_,_,_,_=>ad
 |_=>ad
def UU(op:BinOp)(x y:au):Option au:=
 let r (b:Bool):Option au:=match op with
  | .eql=>aa (.bool b)
  | .neq=>aa (.bool (!b))
  |_=>ad
 match x,y with
 | .slice (aa _) _ _,.slice ad _ _=>r ah
 | .slice ad _ _,.slice (aa _) _ _=>r ah
 |_,_=>ad
def R2(t:av)(v:au):Option au:=
 match P.underlying t with
 |some (.slice _)=>match v with
  | .slice _ n _=>aa (goInt n)
  |_=>ad
 |some .string=>match v with
  | .string s=>aa (goInt s.size)
  |_=>ad
 |some (.array n _)=>aa (goInt n)
 |_=>ad
def rP(Z:az->au)(o:Oper)(c:Call):Option au:=
 match c.callee with
 | .builtin .len=>match c.argTypes[0]?,c.args[0]? with
  |some t,aa x=>R2 P t (Z x)
  |_,_=>ad
 | .builtin .min=>bif (c.args.map Z).toList.all bQ then cS P (Builtin.min_ c.argTypes o.type (c.args.map Z))else ad
 | .builtin .max=>bif (c.args.map Z).toList.all bQ then cS P (Builtin.max_ c.argTypes o.type (c.args.map Z))else ad
 |_=>ad
def mD(Z:az->au)(o:Oper):Option au:=
 match o.op with
 | .move x=>aa (Z x)
 | .assign x=>aa (Z x)
 | .pick c a b=>match Z c with
  | .bool ae=>aa (Z a)
  | .bool ah=>aa (Z b)
  |_=>ad
 | .build t parts=>FG P t (parts.map λ(i,x)=>(i,Z x))
 | .nilCheck x=>match Z x with
  | .pointer (aa a)=>aa (.pointer (aa a))
  |_=>ad
 | .binOp op t x y _=>
  bif cN (Z x)&&cN (Z y)then cS P (do eqGuard op t x y (Z x) (Z y);binOp op t (Z x) (Z y))
  else match P.underlying t with
   |some (.slice _)=>UU op (Z x) (Z y)
   |_=>ad
 | .unOp op _ x=>bif bQ (Z x)then cS P (Op.unary op (Z x))else ad
 | .convert s d x=>bif bQ (Z x)then cS P (convert s d (Z x))else ad
 | .makeFunc fn first captured=>aa (.func fn (first.map Z) (captured.map Z))
 | .fieldAddr s x f=>pF P s (Z x) f
 | .field t x f=>sZ P t (Z x) f
 | .indexAddr t x i=>jL P t (Z x) (Z i)
 | .index t x i=>FF P t (Z x) (Z i)
 | .extract t i=>match Z t with
  | .tuple vs=>vs[i]?
  |_=>ad
 | .call c=>rP P Z o c
 |_=>ad
def kS(H:St)(Z:az->au)(o:Oper):Option au:=
 match o.op with
 | .load t a=>kT P H t (Z a)
 | .slice t x lo hi mx=>wE P H t (Z x) (lo.map Z) (hi.map Z) (mx.map Z)
 |_=>ad
def eK(z:List au):Nat->List au
 |0=>[]
 |n+1=>z++eK z n
def iF(Z:az->au)(o:Oper)(id:Nat):Option (au×AObj):=
 match o.op with
 | .alloc t=>match cJ P (zeroValue t)with
  |some z=>bif z.cells.toList.all bQ then aa (.pointer (aa ⟨id,0,ad⟩),.cells z.cells.toList boxMeta)else ad
  |none=>ad
 | .box _ x=>bif (Z x).cells.toList.all one then aa (.pointer (aa ⟨id,0,ad⟩),.cells (Z x).cells.toList boxMeta)else ad
 | .buildSlice t len parts=>
  match P.underlying t with
  |some (.slice e)=>match iH P e with
   |some s=>match cJ P (zeroValue e)with
    |some z=>
     bif z.cells.toList.all bQ&&an (len*s) 1000000&&am z.cells.size s&&an 1 s then
      (Instr.fill (λi=>aa (i*s,s)) (eK z.cells.toList len).toArray (parts.map λ(i,x)=>(i,Z x)).toList).map
       λcs=>(.slice (aa ⟨id,0,ad⟩) len len,.cells cs.toList (eG s))
     else ad
    |none=>ad
   |none=>ad
  |_=>ad
 | .makeSlice t l c=>
  match P.underlying t,Z l,Z c with
  |some (.slice e),.int .i64 n,.int .i64 k=>match P.info? e with
   |some info=>match info.zero with
    |some z=>
     bif aj (0<=n)&&aj (n<=k)&&aj (k*(info.bytes:Int)<=1073741824)&&aj (k<=1073741824)&&z.cells.toList.all bQ&&am z.cells.size info.size&&an 1 info.size then
      bif aj (n=k)then aa (.slice (aa ⟨id,0,ad⟩) n.toNat n.toNat,.cells (eK z.cells.toList n.toNat) (eG info.size))
      else aa (.slice (aa ⟨id,0,ad⟩) n.toNat (n.toNat+1),.cells (eK z.cells.toList n.toNat) {wr:=ae,tip:=ae,z:=info.size,grp:=aa (id,0)})
     else ad
    |none=>ad
   |none=>ad
  |_,_,_=>ad
 |_=>ad
def oE(H:St)(t:av)(a x:au):Option St:=
 match a with
 | .pointer (aa ⟨id,off,ad⟩)=>
  match H.row id,iH P t with
  |some (cs,m),aa n=>
   bif m.wr&&am x.cells.size n&&an (off+n) cs.length&&x.cells.toList.all one then
    match m.grp with
    |none=>aa (H.put id (.cells (iJ cs off x.cells.toList) m))
    |some (g,v)=>bif m.tip&&an m.lim off then aa (H.put id (.cells (iJ cs off x.cells.toList) m))else aa ((H.put id (.cells (iJ cs off x.cells.toList) {m with grp:=aa (g,v+1)})).bump g (v+1))
   else ad
  |_,_=>ad
 |_=>ad
def tD(H:St)(z:Nat):au->Option (Nat×List au)
 | .slice ad _ _=>aa (0,[])
 | .slice (aa ⟨id,off,ad⟩) n _=>match H.row id with
  |some (cs,_)=>(cut cs off (n*z)).map λl=>(n,l)
  |none=>ad
 | .string s=>bif am z 1 then aa (s.size,s.data.toList.map λb=> .int .u8 b.toNat)else ad
 | .slice (aa ⟨_,_,aa _⟩) 0 _=>aa (0,[])
 |_=>ad
def gM(z id:Nat):uJ:={wr:=ae,tip:=ae,z,grp:=aa (id,0)}
def mE(H:St)(bu z bytes n:Nat)(xs:List au)(s:au):Option (au×St):=
 match s with
 | .slice ad _ _=>
  bif an (n*bytes) 1073741824 then aa (.slice (aa ⟨bu,0,ad⟩) n (n+1),H.put bu (.cells xs (gM z bu)))else ad
 | .slice (aa ⟨id,off,ad⟩) len k=>
  bif an ((len+n)*bytes) 1073741824 then
   match H.row id with
   |some (cs,m)=>
    match cut cs off (len*z)with
    |some old=>
     bif am k len then aa (.slice (aa ⟨bu,0,ad⟩) (len+n) (len+n+1),H.put bu (.cells (old++xs) (gM z bu)))
     else bif m.tip&&m.wr&&am m.z z&&am (off+len*z) cs.length&&m.grp.isSome then
      aa (.slice (aa ⟨bu,0,ad⟩) (len+n) (len+n+1),(H.put id (.cells cs {m with tip:=ah})).put bu (.cells (old++xs) {m with lim:=old.length}))
     else ad
    |none=>ad
   |none=>ad
  else ad
 | .slice (aa ⟨_,_,aa s⟩) _ _=>
  bif am s 1&&an (n*bytes) 1073741824 then aa (.slice (aa ⟨bu,0,ad⟩) n (n+1),H.put bu (.cells xs (gM z bu)))else ad
 |_=>ad
def gO:au->Bool
 | .slice .. =>ae
 |_=>ah
def GX(u:TypeDesc)(x:au):Bool:=
 match u with
 | .slice _=>gO x
 | .string=> !gO x
 |_=>ah
def mR(H:St)(bu:Nat)(c:Call)(s x:au):Option (au×St):=
 match c.argTypes.toList with
 |[t,t1]=>
  match P.underlying t,P.underlying t1 with
  |some (.slice e),aa u=>
   bif GX u x then
    match P.info? e with
    |some info=>
     match tD H info.size x,info.zero with
     |some (n,xs),aa z=>
      bif xs.all one&&an 1 info.size&&an 1 info.bytes&&am z.cells.size info.size&&gO s then
       bif am n 0 then aa (s,H)else mE H bu info.size info.bytes n xs s
      else ad
     |_,_=>ad
    |none=>ad
   else ad
  |_,_=>ad
 |_=>ad
inductive OK where
 |pure|read|alloc|eff
def dG(o:Oper):OK:=
 match o.op with
 | .load .. | .lookup .. | .slice .. => .read
 | .alloc .. | .box .. | .buildSlice .. | .makeSlice .. | .makeMap .. => .alloc
 | .store .. | .mapUpdate .. | .insert .. => .eff
 | .call c=>match c.callee with
  | .builtin .len| .builtin .min| .builtin .max=> .pure
  |_=> .eff
 |_=> .pure
def DB(Z:az->au)(c:Call):Option (FuncId×Array au):=
 match c.callee with
 | .value f=>match Z f with
  | .func (.func g) first captured=>aa (g,first++c.args.map Z++captured)
  |_=>ad
 |_=>ad
def Al(call:FuncId->Array au->St->Option (au×St))(H:St)(Z:az->au)(o:Oper)(bu:Nat):Option (au×St):=
 match o.op with
 | .store t a x=>(oE P H t (Z a) (Z x)).map λH'=>(undef,H')
 | .call c=>match c.callee with
  | .builtin .append=>match c.args.toList with
   |[s,x]=>mR P H bu c (Z s) (Z x)
   |_=>ad
  |_=>match DB Z c with
   |some (g,args)=>call g args H
   |none=>ad
 |_=>ad
abbrev Slots:=Tr au
def Slots.at(S:Slots)(i:Nat):au:=(Tr.get S i).getD undef
def ev(S:Slots):az->au
 | .tmp t=>S.at t
 | .const v=>v
 | .global g=> .pointer (aa ⟨g,0,ad⟩)
 | .func f=> .func (.func f) #[] #[]
def Slots.store(S:Slots)(d:Option Tmp)(v:au):Slots:=
 match d with
 |some d=>Tr.set S d v
 |none=>S
def wanted(ops:Array Oper)(S:Slots)(o:Oper):Bool:=
 match o.guard with
 |none=>ae
 |some (j,want)=>
  match(ops[j]?.bind (·.dst)).map S.at with
  |some (.bool b)=>b==want
  |_=>ah
def bytesOf:List au->Option (List Int)
 |[]=>aa []
 | .int .u8 n::r=>(bytesOf r).map (n:: ·)
 |_=>ad
def tB(H:St)(s d:av)(v:au):Option au:=
 match P.underlying s,P.underlying d with
 |some (.slice e),aa .string=>match P.underlying e with
  |some (.int .u8)=>match v with
   | .slice (aa ⟨id,off,ad⟩) n _=>match H.row id with
    |some (cs,_)=>match cut cs off n with
     |some l=>(bytesOf l).map λns=> .string (ns.foldl (λr n=>r.push (UInt8.ofNat n.toNat)) ByteArray.empty)
     |none=>ad
    |none=>ad
   | .slice (aa ⟨_,_,aa _⟩) 0 _=>aa (.string ByteArray.empty)
   |_=>ad
  |_=>ad
 |_,_=>ad
def sY(H:St)(Z:az->au)(o:Oper):Option au:=
 match mD P Z o with
 |some v=>aa v
 |none=>match o.op with
  | .convert s d x=>tB P H s d (Z x)
  |_=>ad
def lL(call:FuncId->Array au->St->Option (au×St))(base:Nat)(i:Nat)(o:Oper)(S:Slots)(H:St):Option (au×St):=
 match dG o with
 | .pure=>(sY P H (ev S) o).map λv=>(v,H)
 | .read=>(kS P H (ev S) o).map λv=>(v,H)
 | .alloc=>(iF P (ev S) o (base+i)).map λ(v,b)=>(v,H.put (base+i) b)
 | .eff=>Al P call H (ev S) o (base+i)
def fA(call:FuncId->Array au->St->Option (au×St))(ops:Array Oper)(base:Nat):List Oper->Nat->Slots->St->Option (Slots×St)
 |[],_,S,H=>aa (S,H)
 |o::rest,i,S,H=>
  bif wanted ops S o then
   match lL P call base i o S H with
   |some (v,H')=>fA call ops base rest (i+1) (S.store o.dst v) H'
   |none=>ad
  else fA call ops base rest (i+1) (S.store o.dst undef) H
def kP(o:Oper):Bool:=match dG o with| .eff=>ae|_=>ah
def sI(ms:List Nat)(o:Oper):Nat:=
 o.after.toList.foldl (λm e=>bif Region.binds .any e then(m|||(1<<<e.on))|||ms.getD e.on 0 else m) 0
def gG:List Oper->List Nat->List Nat
 |[],ms=>ms
 |o::os,ms=>gG os (ms++ [sI ms o])
def lI(m i:Nat):Bool:=am ((m>>>i)%2) 1
def aPy:List Oper->Nat->List Nat
 |[],_=>[]
 |o::os,i=>bif kP o then i::aPy os (i+1)else aPy os (i+1)
def aS8(ms:List Nat)(es:List Nat)(i:Nat):Nat:=(es.filter λe=>lI (ms.getD i 0) e).length
def IQ(ms:List Nat)(all es:List Nat)(quiet:List Nat):Nat->List Nat->List Nat
 |k,[]=>quiet.filter λi=>am (aS8 ms all i) k
 |k,e::rest=>(quiet.filter λi=>am (aS8 ms all i) k)++e::IQ ms all es quiet (k+1) rest
def a6U(ops:Array Oper)(ms:List Nat):List Nat:=
 let es:=aPy ops.toList 0
 IQ ms es es ((List.range ops.size).filter λi=> !(es.contains i)) 0 es
def aDZ(ops:Array Oper):Option (Nat×Nat):=match(aPy ops.toList 0).reverse with|y::x::_=>aa (x,y)|_=>ad
def aB9(ops:Array Oper):Option (az×az):=
 match aDZ ops with
 |none=>ad
 |some (i,j)=>match ops[i]?,ops[j]? with
  |some x,aa y=>match x.op,y.op,x.guard,y.guard,x.dst,y.dst with
   | .store _ a _,.store _ b _,ad,ad,ad,ad=>bif !Nat.blt i j||lI ((gG ops.toList []).getD j 0) i then ad else aa (a,b)
   |_,_,_,_,_,_=>ad
  |_,_=>ad
def bLh(ops:Array Oper)(c:List Nat):List Nat:=
 match aB9 ops,aDZ ops with
 |some _,aa (x,y)=>(c.filter λi=>d8 i x)++x::((c.filter λi=>d8 x i&& !Nat.beq i y)++ [y])
 |_,_=>c
def zI(ops:Array Oper)(ms:List Nat):List Nat:=bLh ops (a6U ops ms)
structure iV where
 i:Nat
 o:Oper
 S:Slots
 v:au
 ob:Option AObj
def uS(m n:uJ):Bool:=(m.wr==n.wr)&&(m.tip==n.tip)&&am m.z n.z&&(m.grp==n.grp)&&am m.lim n.lim
def AE:List (au×au)->List (au×au)->Bool
 |[],[]=>ae
 |x::xs,y::ys=>fM x.1 y.1&&fM x.2 y.2&&AE xs ys
 |_,_=>ah
def pR:AObj->AObj->Bool
 | .cells cs m,.cells ds n=>qX cs ds&&uS m n
 | .map es,.map fs=>AE es fs
 |_,_=>ah
def check(base:Nat)(H:St)(r:iV):Bool:=
 match r.ob with
 |none=>match kS P H (ev r.S) r.o with
  |some v=>fM v r.v
  |none=>ah
 |some ob=>match H.get (base+r.i)with
  |some ob'=>pR ob' ob
  |none=>ah
def gU(call:FuncId->Array au->St->Option (au×St))(ops:Array Oper)(ms:List Nat)(base:Nat):List Nat->List iV->Slots->St->Option (Slots×St)
 |[],pend,S,H=>bif pend.all (check P base H)then aa (S,H)else ad
 |i::rest,pend,S,H=>
  match ops[i]? with
  |none=>ad
  |some o=>
   bif wanted ops S o then
    match dG o with
    | .pure=>match mD P (ev S) o with
     |some v=>gU call ops ms base rest pend (S.store o.dst v) H
     |none=>ad
    | .read=>match kS P H (ev S) o with
     |some v=>gU call ops ms base rest (⟨i,o,S,v,ad⟩::pend) (S.store o.dst v) H
     |none=>ad
    | .alloc=>match iF P (ev S) o (base+i)with
     |some (v,ob)=>gU call ops ms base rest (⟨i,o,S,v,aa ob⟩::pend) (S.store o.dst v) (H.put (base+i) ob)
     |none=>ad
    | .eff=>bif pend.all (check P base H)then
            match Al P call H (ev S) o (base+i)with
            |some (v,H')=>gU call ops ms base rest (pend.filter λr=> !lI (ms.getD i 0) r.i) (S.store o.dst v) H'
            |none=>ad
     else ad
   else gU call ops ms base rest pend (S.store o.dst undef) H
inductive Fl where
 |normal
 |exit (n:Nat)
 |ret
def TN(body:Slots->St->Option (Fl×Slots×St)):Nat->Slots->St->Option (Fl×Slots×St)
 |0,_,_=>ad
 |n+1,S,H=>match body S H with
  |some (.normal,S',H')=>TN body n S' H'
  |r=>r
def aOB(ops:Array Oper)(S:Slots)(H:St):Bool:=
 match aB9 ops with
 |none=>ae
 |some (a,b)=>match ev S a,ev S b with
  | .pointer (aa ⟨i,_,ad⟩),.pointer (aa ⟨j,_,ad⟩)=> !Nat.beq i j&&(match H.get j with|some (.cells _ m)=>m.grp.isNone|_=>ah)
  |_,_=>ah
def aHE(ops:Array Oper):Option (Slots×St)->Option (Slots×St)
 |some r=>bif aOB ops r.1 r.2 then aa r else ad
 |none=>ad
def iN(call:FuncId->Array au->St->Option (au×St))(ops:Array Oper)(draw:Bool)(S:Slots)(H:St):Option (Slots×St):=
 bif draw then aHE ops (gU P call ops (gG ops.toList []) H.next (zI ops (gG ops.toList [])) [] S {H with next:=H.next+ops.size})
 else fA P call ops H.next ops.toList 0 S {H with next:=H.next+ops.size}
def cM(call:FuncId->Array au->St->Option (au×St))(L:Nat):Code->Slots->St->Option (Fl×Slots×St)
 | .skip,S,H=>aa (.normal,S,H)
 | .label _,S,H=>aa (.normal,S,H)
 | .region _ ops draw,S,H=>(iN P call ops draw S H).map λ(S',H')=>(.normal,S',H')
 | .seq a b,S,H=>match cM call L a S H with
  |some (.normal,S',H')=>cM call L b S' H'
  |r=>r
 | .cond c a b,S,H=>match ev S c with
  | .bool ae=>cM call L a S H
  | .bool ah=>cM call L b S H
  |_=>ad
 | .block id c,S,H=>match cM call L c S H with
  |some (.exit n,S',H')=>bif am n id then aa (.normal,S',H')else aa (.exit n,S',H')
  |r=>r
 | .loop c,S,H=>TN (λS H=>cM call L c S H) L S H
 | .exit id,S,H=>aa (.exit id,S,H)
 | .ret,S,H=>aa (.ret,S,H)
 | .scope c,S,H=>cM call L c S H
 |_,_,_=>ad
def BG(S:Slots)(H:St):ResultVar->Option au
 | .tmp t=>aa (S.at t)
 | .cell a t=>kT P H t (S.at a)
def gJ(S:Slots)(H:St):List ResultVar->Option (List au)
 |[]=>aa []
 |r::rs=>match BG P S H r,gJ S H rs with
  |some v,aa vs=>aa (v::vs)
  |_,_=>ad
def Cb:List au->au
 |[v]=>v
 |vs=> .tuple vs.toArray
def mC:List au->Nat->Slots->Slots
 |[],_,S=>S
 |v::vs,i,S=>mC vs (i+1) (Tr.set S i v)
def cG:az->Bool
 | .const v=>cN v
 | .global g=>d8 g P.globals.size
 |_=>ae
def sE(α:Nat)(o:Oper):Bool:=
 (match o.dst with|some d=>d8 d α|none=>ae)&&o.op.operands.all (cG P)
def aTs(ops:Array Oper)(e:Nat):Bool:=match ops[e]? with|some o=>kP o|none=>ah
def P6(ops:Array Oper)(ms:List Nat):List Nat->List Nat->Bool
 |[],done=>(List.range ops.size).all λi=>done.contains i
 |i::rest,done=>d8 i ops.size&& !done.contains i&&(List.range ops.size).all (λj=> !lI (ms.getD i 0) j||done.contains j)&&
      done.all (λe=> !aTs ops e||lI (ms.getD i 0) e)&&P6 ops ms rest (i::done)
def Lf(ops:Array Oper)(ms:List Nat)(x y:Oper×Nat):Bool:=
 am x.2 y.2||((match y.1.dst with
        |some d=>(lI (ms.getD x.2 0) y.2||lI (ms.getD y.2 0) x.2|| !(x.1.looksAt ops).contains d)
        |none=>ae)&&
       (match x.1.dst,y.1.dst with|some d,aa d'=> !Nat.beq d d'|_,_=>ae))
def Ew(ops:Array Oper):Bool:=
 P6 ops (gG ops.toList []) (zI ops (gG ops.toList [])) []&&
 ops.toList.zipIdx.all λx=>
  x.1.after.toList.all (λe=> !Region.binds .any e||d8 e.on x.2)&&
  (match x.1.guard with|some (j,_)=>lI ((gG ops.toList []).getD x.2 0) j&&d8 j ops.size|none=>ae)&&
  ops.toList.zipIdx.all λy=>Lf ops (gG ops.toList []) x y
def Dt(rk:Nat->Nat)(ops:Array Oper)(order:List Nat):Bool:=
 P6 ops (gG ops.toList []) order []&&
 ops.toList.zipIdx.all λx=>
  x.1.after.toList.all (λe=> !Region.binds .any e||(d8 (rk e.on) (rk x.2)&&d8 e.on ops.size))&&
  (match x.1.guard with|some (j,_)=>lI ((gG ops.toList []).getD x.2 0) j&&d8 j ops.size|none=>ae)&&
  ops.toList.zipIdx.all λy=>Lf ops (gG ops.toList []) x y
def Ds(ops:Array Oper):Bool:=match aB9 ops with|none=>Ew ops|some _=>ah
def fH(α:Nat):Code->Bool
 | .region _ ops draw=>ops.toList.all (sE P α)&&(!draw||Ds ops)
 | .seq a b=>fH α a&&fH α b
 | .cond c a b=>cG P c&&fH α a&&fH α b
 | .block _ c=>fH α c
 | .loop c=>fH α c
 | .scope c=>fH α c
 |_=>ae
def jW(fn:Func):Bool:=
 match fn.body with
 | some c => fH P fn.ntmps c && !(fn.name == "runtime.NumGoroutine")
 |none=>ae
end
end Go.AI
