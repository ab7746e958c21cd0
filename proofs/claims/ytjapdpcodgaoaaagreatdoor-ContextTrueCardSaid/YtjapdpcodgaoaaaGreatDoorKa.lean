import Derived.WalkKit
open Option renaming some->aa,none->ae
open Bool renaming true->ah,false->aj
open Decidable renaming decide->ak
open Nat renaming beq->ao,ble->aq,blt->d9
open Go renaming Value->av,TypeId->aw,Operand->a8,Oper->ic
set_option linter.all false
namespace Go
abbrev au.{u}(t:Type u):=List t
abbrev f9.{u}(t:Type u):=Option t
end Go
universe u v
namespace Go.AI
def aA{N:Type u}(a b:N):(aa a=aa b)=(a=b):=Option.some.injEq a b
def aB{N:Type u}{W:Type v}(a:N)(b:W)(c:N)(d:W):((a,b)=(c,d))=(a=c/\b=d):=Prod.mk.injEq a b c d
def aC(a b:Bool):((a&&b)=ah)=(a=ah/\b=ah):=Bool.and_eq_true a b
def aD{p:Prop}[Decidable p]:(decide p=ah)=p:=decide_eq_true_eq
def aE{n m:Nat}(h:ao n m=ah):n=m:=Nat.eq_of_beq_eq_true h
def aF{N:Type u}{W:Type v}{b:W}{f:N->W}{o:f9 N}:o.map f=aa b↔∃a,o=aa a/\f a=b:=Option.map_eq_some_iff
def aG{N:Type u}(y:N){a:N}{l:au N}(h:a∈l):a∈y::l:=List.mem_cons_of_mem y h
def aH{N:Type u}{a:N}{l:au N}:a∈a::l:=List.mem_cons_self
def aI{N:Sort u}(a b:N):(bif ah then a else b)=a:=rfl
def aJ{N:Sort u}(a b:N):(bif aj then a else b)=b:=rfl
def aK{N:Type u}{W:Type v}(a:N)(f:N->W):Option.map f (aa a)=aa (f a):=rfl
def aL{N:Type u}{W:Type v}(a:N)(f:N->f9 W):(aa a).bind f=f a:=rfl
def aM{N:Type u}{a:N}{l:au N}:(a::l).length=l.length+1:=rfl
def aN{N:Type u}{W:Type v}{x:N}{l:au N}{f:N->au W}:List.flatMap f (x::l)=f x++List.flatMap f l:=List.flatMap_cons
def aO{N:Type u}{W:Type v}{f:N->W}{a:N}{l:au N}:List.map f (a::l)=f a::List.map f l:=rfl
def aP{N:Type u}{a:N}{l:au N}{f:N->Bool}:(a::l).all f=(f a&&l.all f):=List.all_cons
def aQ{N:Type u}(a b c:au N):a++b++c=a++(b++c):=List.append_assoc a b c
def aR{N:Type u}{x:N}{l:au N}:[x]++l=x::l:=rfl
def aS(n:Nat):n<=n:=Nat.le_refl n
def aT{N:Type u}{a:N}{i:Nat}{l:au N}:(a::l)[i+1]?=l[i]?:=List.getElem?_cons_succ
def aU{N:Type u}{a:N}{l:au N}:(a::l)[0]?=aa a:=List.getElem?_cons_zero
def aV{N:Type u}{l:au N}{i:Nat}(h:i<l.length):l[i]?=aa l[i]:=List.getElem?_eq_getElem h
def aW{N:Type u}(l:au N):[]++l=l:=rfl
def aX{N:Type u}:([]:au N).length=0:=rfl
def aY{N:Type u}{a:N}{l m:au N}:a::l++m=a::(l++m):=rfl
def aZ{N:Type u}{l m:au N}:(l++m).length=l.length+m.length:=List.length_append
def bB{N:Type u}(l:au N):l++ []=l:=List.append_nil l
def bC{N:Type u}{W:Type v}{f:N->au W}:List.flatMap f []=[]:=rfl
def bD{p:Prop}{_:Decidable p}:decide p=aj↔¬p:=decide_eq_false_iff_not
def bE:(!true)=aj:=rfl
def bF(b:Bool):(b&&ah)=b:=Bool.and_true b
def bG{p:Prop}[Decidable p](h:p):decide p=ah:=decide_eq_true h
def bH{p:Prop}[Decidable p](h: ¬p):decide p=aj:=decide_eq_false h
def bI{c:Prop}{_:Decidable c}(h: ¬c){N:Sort u}{t e:N}:(if c then t else e)=e:=if_neg h
def bJ{c:Prop}{_:Decidable c}(h:c){N:Sort u}{t e:N}:(if c then t else e)=t:=if_pos h
def bK{N:Type u}{p:N->Bool}{l:au N}:l.all p=ah↔∀x,x∈l->p x=ah:=List.all_eq_true
def bL{p:Prop}[Decidable p](h:decide p=ah):p:=of_decide_eq_true h
def bM{p:Prop}[Decidable p](h:decide p=aj): ¬p:=of_decide_eq_false h
def bN:decide True=ah:=rfl
def bP{N:Sort u}{_:Decidable False}(t e:N):(if False then t else e)=e:=if_neg id
def bQ{N:Sort u}{_:Decidable True}(t e:N):(if True then t else e)=t:=if_pos trivial
def bR{n m:Nat}(h:aq n m=ah):n<=m:=Nat.le_of_ble_eq_true h
inductive Tr(N:Type) where
 |nil:Tr N
 |node:Option N->Tr N->Tr N->Tr N
def Tr.get{N:Type}:Tr N->Nat->f9 N
 | .nil,_=>ae
 | .node v l r,n=>bif ao n 0 then v else bif ao (n%2) 1 then l.get (n/2)else r.get (n/2-1)
def Tr.setF{N:Type}:Nat->Tr N->Nat->N->Tr N
 |0,t,_,_=>t
 |f+1,.nil,n,x=>
  bif ao n 0 then .node (aa x) .nil .nil
  else bif ao (n%2) 1 then .node ae (Tr.setF f .nil (n/2) x) .nil else .node ae .nil (Tr.setF f .nil (n/2-1) x)
 |f+1,.node v l r,n,x=>
  bif ao n 0 then .node (aa x) l r
  else bif ao (n%2) 1 then .node v (Tr.setF f l (n/2) x) r else .node v l (Tr.setF f r (n/2-1) x)
def Tr.set{N:Type}(t:Tr N)(n:Nat)(x:N):Tr N:=Tr.setF (n+1) t n x
def bZ:av->Bool
 | .bool _| .int _ _| .float _ _| .complex _ _ _| .string _=>ah
 | .pointer ae| .map ae| .chan ae| .nilFunc| .nilIface=>ah
 | .slice ae l c=>ao l 0&&ao c 0
 |_=>aj
def dP:av->Bool
 | .agg cs=>cs.toList.all bZ
 |v=>bZ v
def cU{N:Type}(p:Program):Sem N->f9 N
 | .pure a=>aa a
 | .program k=>cU p (k p)
 | .mark _ k=>cU p k
 |_=>ae
def dU(p:Program)(s:Sem av):f9 av:=
 match cU p s with
 |some v=>bif dP v then aa v else ae
 |none=>ae
def one:av->Bool
 | .agg _| .tuple _=>aj
 |_=>ah
mutual
def gC:av->av->Bool
 | .bool a,.bool b=>a==b
 | .int j a,.int k b=>(j==k)&&(a==b)
 | .float j a,.float k b=>(j==k)&&(a==b)
 | .complex j a c,.complex k b d=>(j==k)&&(a==b)&&(c==d)
 | .string a,.string b=>a.data.toList==b.data.toList
 | .pointer a,.pointer b=>a==b
 | .slice a l c,.slice b m d=>(a==b)&&(l==m)&&(c==d)
 | .map a,.map b=>a==b
 | .chan a,.chan b=>a==b
 | .func f ⟨xs⟩ ⟨ys⟩,.func g ⟨us⟩ ⟨vs⟩=>(f==g)&&sS xs us&&sS ys vs
 | .nilFunc,.nilFunc=>ah
 | .iface t v,.iface u w=>(t==u)&&gC v w
 | .nilIface,.nilIface=>ah
 | .agg ⟨xs⟩,.agg ⟨ys⟩=>sS xs ys
 | .tuple ⟨xs⟩,.tuple ⟨ys⟩=>sS xs ys
 |_,_=>aj
def sS:au av->au av->Bool
 |[],[]=>ah
 |x::xs,y::ys=>gC x y&&sS xs ys
 |_,_=>aj
end
structure wB where
 wr:Bool
 tip:Bool
 z:Nat
 grp:Option (Nat×Nat)
 lim:Nat:=0
inductive AObj where
 |cells (cs:List av) (m:wB)
 |map (es:List (av×av))
structure St where
 mem:Tr AObj
 vers:Tr Nat
 next:Nat
def St.get(H:St)(id:Nat):f9 AObj:=H.mem.get id
def St.put(H:St)(id:Nat)(o:AObj):St:={H with mem:=H.mem.set id o}
def St.ver(H:St)(g:Nat):Nat:=(H.vers.get g).getD 0
def St.bump(H:St)(g:Nat)(v:Nat):St:={H with vers:=H.vers.set g v}
def St.good(H:St)(m:wB):Bool:=
 match m.grp with
 |none=>ah
 |some (g,v)=>ao (H.ver g) v
def St.row(H:St)(id:Nat):f9 (au av×wB):=
 match H.get id with
 |some (.cells cs m)=>bif H.good m then aa (cs,m)else ae
 |_=>ae
def boxMeta:wB:={wr:=ah,tip:=aj,z:=0,grp:=ae}
def eY(z:Nat):wB:={wr:=ah,tip:=aj,z,grp:=ae}
def cut(cs:au av)(off n:Nat):f9 (au av):=
 let l:=(cs.drop off).take n
 bif ao l.length n then aa l else ae
def jJ:au av->Nat->au av->au av
 |cs,_,[]=>cs
 |cs,off,x::xs=>jJ (cs.set off x) (off+1) xs
section
variable(P:Program)
def iN(t:aw):f9 Nat:=(P.info? t).map (·.size)
def mB(t:aw):f9 Bool:=(P.underlying t).map fun| .struct _=>ah| .array _ _=>ah|_=>aj
def iM(H:St)(t:aw):av->f9 av
 | .pointer (aa ⟨id,off,ae⟩)=>
  match H.row id with
  |some (cs,_)=>
   match mB P t with
   |some ah=>match iN P t with
    |some n=>(cut cs off n).map λl=> .agg l.toArray
    |none=>ae
   |some aj=>cs[off]?
   |none=>ae
  |none=>ae
 |_=>ae
def dJ(i:Int)(n:Nat):Bool:=ak (0<=i)&&ak (i<(n:Int))
def gZ(s:aw)(v:av)(f:Nat):f9 av:=
 match P.underlying s with
 |some (.struct fs)=>match fs[f]? with
  |some fd=>match iN P fd.type with
   |some n=>match v with
    | .pointer (aa ⟨id,off,ae⟩)=>bif ao n 0 then ae else aa (.pointer (aa ⟨id,off+fd.offset,ae⟩))
    |_=>ae
   |none=>ae
  |none=>ae
 |_=>ae
def Ck(t:aw)(cs:Array av)(off:Nat):f9 av:=
 match mB P t with
 |some ah=>match iN P t with
  |some n=>aa (.agg (cs.extract off (off+n)))
  |none=>ae
 |some aj=>cs[off]?
 |none=>ae
def GJ(t:aw)(v:av)(f:Nat):f9 av:=
 match P.underlying t with
 |some (.struct fs)=>match fs[f]? with
  |some fd=>match v with
   | .agg cs=>Ck P fd.type cs fd.offset
   |_=>ae
  |none=>ae
 |_=>ae
def kH(t:aw)(v i:av):f9 av:=
 match i with
 | .int _ n=>
  match P.underlying t with
  |some (.slice e)=>match v with
   | .slice (aa ⟨id,off,ae⟩) len _=>match iN P e with
    |some z=>bif dJ n len then aa (.pointer (aa ⟨id,off+n.toNat*z,ae⟩))else ae
    |none=>ae
   |_=>ae
  |some (.array len e)=>match v with
   | .pointer (aa ⟨id,off,ae⟩)=>match iN P e with
    |some z=>bif dJ n len then aa (.pointer (aa ⟨id,off+n.toNat*z,ae⟩))else ae
    |none=>ae
   |_=>ae
  |_=>ae
 |_=>ae
def GI(t:aw)(v i:av):f9 av:=
 match P.underlying t with
 |some (.string)=>bif bZ v&&bZ i then dU P (Instr.index t v i)else ae
 |some (.array len e)=>match i,v with
  | .int _ n,.agg cs=>match iN P e with
   |some z=>bif dJ n len then Ck P e cs (n.toNat*z)else ae
   |none=>ae
  |_,_=>ae
 |_=>ae
def Be(t:aw)(parts:Array (Nat×av)):f9 av:=
 match cU P (zeroValue t)with
 |some z=>
  bif z.cells.toList.all bZ then
   match P.underlying t with
   |some (.struct fs)=>
    match cU P (fs.mapM λf=>do pure (f.offset,<-Go.sizeOf f.type))with
    |some places=>(Instr.fill (λi=>places[i]?) z.cells parts.toList).map .agg
    |none=>ae
   |some (.array _ e)=>
    match iN P e with
    |some s=>(Instr.fill (λi=>aa (i*s,s)) z.cells parts.toList).map .agg
    |none=>ae
   |_=>ae
  else ae
 |none=>ae
def pN:f9 av->f9 (f9 Int)
 |none=>aa ae
 |some (.int _ n)=>aa (aa n)
 |_=>ae
def rU(H:St)(id z:Nat):Bool:=
 match H.row id with
 |some (_,m)=>ao m.z z
 |none=>aj
def a4t:av:= .slice (aa ⟨0,0,aa 0⟩) 0 0
def a1G:f9 Addr->av
 |none=> .slice ae 0 0
 |some _=> .slice (aa ⟨0,0,aa 1⟩) 0 0
def CL:f9 Int->Bool
 |some n=>decide (n=0)
 |none=>aj
def yG(H:St)(t:aw)(v:av)(lo hi mx:f9 av):f9 av:=
 match P.underlying t with
 |some .string=>match v with
  | .string _=>bif mx.isNone&&bZ (lo.getD (.bool ah))&&bZ (hi.getD (.bool ah))then dU P (Instr.sliceAt t v lo hi mx)else ae
  |_=>ae
 |some (.slice e)=>match v with
  | .slice a len c=>match iN P e,pN lo,pN hi,pN mx with
   |some z,aa l,aa h,aa m=>
    let l:=l.getD 0
    let h':=h.getD (len:Int)
    bif ak (0<=l)&&ak (l<=h')&&ak (h'<=(len:Int))then
     bif ao len 0&&CL m&&h.isSome then aa (a1G a)else
     match a with
     |none=>bif mx.isNone then aa (.slice ae 0 0)else ae
     |some ⟨id,off,ae⟩=>
      bif rU H id z then
      match m with
      |none=>
       bif ao c len&&ao h'.toNat len then
        bif ao l.toNat len then aa (.slice (aa ⟨id,off,ae⟩) 0 0)
        else aa (.slice (aa ⟨id,off+l.toNat*z,ae⟩) (len-l.toNat) (len-l.toNat))
       else bif ao h'.toNat len&&ao l.toNat 0 then aa v
       else bif ak (l<(len:Int))then aa (.slice (aa ⟨id,off+l.toNat*z,ae⟩) (h'.toNat-l.toNat) (h'.toNat-l.toNat+1))
       else aa a4t
      |some m=>
       bif ak (h'=m)&&ak (l<m)&&h.isSome then aa (.slice (aa ⟨id,off+l.toNat*z,ae⟩) (h'.toNat-l.toNat) (h'.toNat-l.toNat))else ae
      else bif ao len 0&&mx.isNone then aa v else ae
     |some ⟨_,_,aa _⟩=>bif ao len 0&&mx.isNone then aa v else ae
    else ae
   |_,_,_,_=>ae
  |_=>ae
 |some (.array n e)=>match v,lo,hi,mx,iN P e with
  | .pointer (aa ⟨id,off,ae⟩),ae,ae,ae,aa _=>bif rU H id 0 then aa (.slice (aa ⟨id,off,ae⟩) n n)else ae
  |_,_,_,_,_=>ae
 |_=>ae
def aIY(op:BinOp)(x y:av):f9 av:=
 let r (b:Bool):f9 av:=match op with
  | .eql=>aa (.bool b)
  | .neq=>aa (.bool (!b))
  |_=>ae
 match x,y with
 | .slice (aa _) _ _,.slice ae _ _=>r aj
 | .slice ae _ _,.slice (aa _) _ _=>r aj
 |_,_=>ae
def VD(t:aw)(v:av):f9 av:=
 match P.underlying t with
 |some (.slice _)=>match v with
  | .slice _ n _=>aa (goInt n)
  |_=>ae
 |some .string=>match v with
  | .string s=>aa (goInt s.size)
  |_=>ae
 |some (.array n _)=>aa (goInt n)
 |_=>ae
def qA(Z:a8->av)(o:ic)(c:Call):f9 av:=
 match c.callee with
 | .builtin .len=>match c.argTypes[0]?,c.args[0]? with
  |some t,aa x=>VD P t (Z x)
  |_,_=>ae
 | .builtin .min=>bif (c.args.map Z).toList.all bZ then dU P (Builtin.min_ c.argTypes o.type (c.args.map Z))else ae
 | .builtin .max=>bif (c.args.map Z).toList.all bZ then dU P (Builtin.max_ c.argTypes o.type (c.args.map Z))else ae
 |_=>ae
def gN(Z:a8->av)(o:ic):f9 av:=
 match o.op with
 | .move x=>aa (Z x)
 | .assign x=>aa (Z x)
 | .pick c a b=>match Z c with
  | .bool ah=>aa (Z a)
  | .bool aj=>aa (Z b)
  |_=>ae
 | .build t parts=>Be P t (parts.map λ(i,x)=>(i,Z x))
 | .nilCheck x=>match Z x with
  | .pointer (aa a)=>aa (.pointer (aa a))
  |_=>ae
 | .binOp op t x y _=>
  bif dP (Z x)&&dP (Z y)then dU P (do eqGuard op t x y (Z x) (Z y);binOp op t (Z x) (Z y))
  else match P.underlying t with
   |some (.slice _)=>aIY op (Z x) (Z y)
   |_=>ae
 | .unOp op _ x=>bif bZ (Z x)then dU P (Op.unary op (Z x))else ae
 | .convert s d x=>bif bZ (Z x)then dU P (convert s d (Z x))else ae
 | .makeFunc fn first captured=>aa (.func fn (first.map Z) (captured.map Z))
 | .fieldAddr s x f=>gZ P s (Z x) f
 | .field t x f=>GJ P t (Z x) f
 | .indexAddr t x i=>kH P t (Z x) (Z i)
 | .index t x i=>GI P t (Z x) (Z i)
 | .extract t i=>match Z t with
  | .tuple vs=>vs[i]?
  |_=>ae
 | .call c=>qA P Z o c
 |_=>ae
def mA(H:St)(Z:a8->av)(o:ic):f9 av:=
 match o.op with
 | .load t a=>iM P H t (Z a)
 | .slice t x lo hi mx=>yG P H t (Z x) (lo.map Z) (hi.map Z) (mx.map Z)
 |_=>ae
def eU(z:au av):Nat->au av
 |0=>[]
 |n+1=>z++eU z n
def gK(Z:a8->av)(o:ic)(id:Nat):f9 (av×AObj):=
 match o.op with
 | .alloc t=>match cU P (zeroValue t)with
  |some z=>bif z.cells.toList.all bZ then aa (.pointer (aa ⟨id,0,ae⟩),.cells z.cells.toList boxMeta)else ae
  |none=>ae
 | .box _ x=>bif (Z x).cells.toList.all one then aa (.pointer (aa ⟨id,0,ae⟩),.cells (Z x).cells.toList boxMeta)else ae
 | .buildSlice t len parts=>
  match P.underlying t with
  |some (.slice e)=>match iN P e with
   |some s=>match cU P (zeroValue e)with
    |some z=>
     bif z.cells.toList.all bZ&&aq (len*s) 1000000&&ao z.cells.size s&&aq 1 s then
      (Instr.fill (λi=>aa (i*s,s)) (eU z.cells.toList len).toArray (parts.map λ(i,x)=>(i,Z x)).toList).map
       λcs=>(.slice (aa ⟨id,0,ae⟩) len len,.cells cs.toList (eY s))
     else ae
    |none=>ae
   |none=>ae
  |_=>ae
 | .makeSlice t l c=>
  match P.underlying t,Z l,Z c with
  |some (.slice e),.int .i64 n,.int .i64 k=>match P.info? e with
   |some info=>match info.zero with
    |some z=>
     bif ak (0<=n)&&ak (n<=k)&&ak (k*(info.bytes:Int)<=1073741824)&&ak (k<=1073741824)&&z.cells.toList.all bZ&&ao z.cells.size info.size&&aq 1 info.size then
      bif ak (n=k)then aa (.slice (aa ⟨id,0,ae⟩) n.toNat n.toNat,.cells (eU z.cells.toList n.toNat) (eY info.size))
      else aa (.slice (aa ⟨id,0,ae⟩) n.toNat (n.toNat+1),.cells (eU z.cells.toList n.toNat) {wr:=ah,tip:=ah,z:=info.size,grp:=aa (id,0)})
     else ae
    |none=>ae
   |none=>ae
  |_,_,_=>ae
 |_=>ae
def jU(H:St)(t:aw)(a x:av):f9 St:=
 match a with
 | .pointer (aa ⟨id,off,ae⟩)=>
  match H.row id,iN P t with
  |some (cs,m),aa n=>
   bif m.wr&&ao x.cells.size n&&aq (off+n) cs.length&&x.cells.toList.all one then
    match m.grp with
    |none=>aa (H.put id (.cells (jJ cs off x.cells.toList) m))
    |some (g,v)=>bif m.tip&&aq m.lim off then aa (H.put id (.cells (jJ cs off x.cells.toList) m))else aa ((H.put id (.cells (jJ cs off x.cells.toList) {m with grp:=aa (g,v+1)})).bump g (v+1))
   else ae
  |_,_=>ae
 |_=>ae
def vJ(H:St)(z:Nat):av->f9 (Nat×au av)
 | .slice ae _ _=>aa (0,[])
 | .slice (aa ⟨id,off,ae⟩) n _=>match H.row id with
  |some (cs,_)=>(cut cs off (n*z)).map λl=>(n,l)
  |none=>ae
 | .string s=>bif ao z 1 then aa (s.size,s.data.toList.map λb=> .int .u8 b.toNat)else ae
 | .slice (aa ⟨_,_,aa _⟩) 0 _=>aa (0,[])
 |_=>ae
def iF(z id:Nat):wB:={wr:=ah,tip:=ah,z,grp:=aa (id,0)}
def nN(H:St)(bn z bytes n:Nat)(xs:au av)(s:av):f9 (av×St):=
 match s with
 | .slice ae _ _=>
  bif aq (n*bytes) 1073741824 then aa (.slice (aa ⟨bn,0,ae⟩) n (n+1),H.put bn (.cells xs (iF z bn)))else ae
 | .slice (aa ⟨id,off,ae⟩) len k=>
  bif aq ((len+n)*bytes) 1073741824 then
   match H.row id with
   |some (cs,m)=>
    match cut cs off (len*z)with
    |some old=>
     bif ao k len then aa (.slice (aa ⟨bn,0,ae⟩) (len+n) (len+n+1),H.put bn (.cells (old++xs) (iF z bn)))
     else bif m.tip&&m.wr&&ao m.z z&&ao (off+len*z) cs.length&&m.grp.isSome then
      aa (.slice (aa ⟨bn,0,ae⟩) (len+n) (len+n+1),(H.put id (.cells cs {m with tip:=aj})).put bn (.cells (old++xs) {m with lim:=old.length}))
     else ae
    |none=>ae
   |none=>ae
  else ae
 | .slice (aa ⟨_,_,aa s⟩) _ _=>
  bif ao s 1&&aq (n*bytes) 1073741824 then aa (.slice (aa ⟨bn,0,ae⟩) n (n+1),H.put bn (.cells xs (iF z bn)))else ae
 |_=>ae
def iH:av->Bool
 | .slice .. =>ah
 |_=>aj
def IM(u:TypeDesc)(x:av):Bool:=
 match u with
 | .slice _=>iH x
 | .string=> !iH x
 |_=>aj
def oO(H:St)(bn:Nat)(c:Call)(s x:av):f9 (av×St):=
 match c.argTypes.toList with
 |[t,t1]=>
  match P.underlying t,P.underlying t1 with
  |some (.slice e),aa u=>
   bif IM u x then
    match P.info? e with
    |some info=>
     match vJ H info.size x,info.zero with
     |some (n,xs),aa z=>
      bif xs.all one&&aq 1 info.size&&aq 1 info.bytes&&ao z.cells.size info.size&&iH s then
       bif ao n 0 then aa (s,H)else nN H bn info.size info.bytes n xs s
      else ae
     |_,_=>ae
    |none=>ae
   else ae
  |_,_=>ae
 |_=>ae
inductive OK where
 |pure|read|alloc|eff
def cY(o:ic):OK:=
 match o.op with
 | .load .. | .lookup .. | .slice .. => .read
 | .alloc .. | .box .. | .buildSlice .. | .makeSlice .. | .makeMap .. => .alloc
 | .store .. | .mapUpdate .. | .insert .. => .eff
 | .call c=>match c.callee with
  | .builtin .len| .builtin .min| .builtin .max=> .pure
  |_=> .eff
 |_=> .pure
def Cm(Z:a8->av)(c:Call):f9 (FuncId×Array av):=
 match c.callee with
 | .value f=>match Z f with
  | .func (.func g) first captured=>aa (g,first++c.args.map Z++captured)
  |_=>ae
 |_=>ae
def yL(call:FuncId->Array av->St->f9 (av×St))(H:St)(Z:a8->av)(o:ic)(bn:Nat):f9 (av×St):=
 match o.op with
 | .store t a x=>(jU P H t (Z a) (Z x)).map λH'=>(undef,H')
 | .call c=>match c.callee with
  | .builtin .append=>match c.args.toList with
   |[s,x]=>oO P H bn c (Z s) (Z x)
   |_=>ae
  |_=>match Cm Z c with
   |some (g,args)=>call g args H
   |none=>ae
 |_=>ae
abbrev Slots:=Tr av
def Slots.at(S:Slots)(i:Nat):av:=(Tr.get S i).getD undef
def ev(S:Slots):a8->av
 | .tmp t=>S.at t
 | .const v=>v
 | .global g=> .pointer (aa ⟨g,0,ae⟩)
 | .func f=> .func (.func f) #[] #[]
def Slots.store(S:Slots)(d:f9 Tmp)(v:av):Slots:=
 match d with
 |some d=>Tr.set S d v
 |none=>S
def wanted(ops:Array ic)(S:Slots)(o:ic):Bool:=
 match o.guard with
 |none=>ah
 |some (j,want)=>
  match(ops[j]?.bind (·.dst)).map S.at with
  |some (.bool b)=>b==want
  |_=>aj
def bytesOf:au av->f9 (au Int)
 |[]=>aa []
 | .int .u8 n::r=>(bytesOf r).map (n:: ·)
 |_=>ae
def vI(H:St)(s d:aw)(v:av):f9 av:=
 match P.underlying s,P.underlying d with
 |some (.slice e),aa .string=>match P.underlying e with
  |some (.int .u8)=>match v with
   | .slice (aa ⟨id,off,ae⟩) n _=>match H.row id with
    |some (cs,_)=>match cut cs off n with
     |some l=>(bytesOf l).map λns=> .string (ns.foldl (λr n=>r.push (UInt8.ofNat n.toNat)) ByteArray.empty)
     |none=>ae
    |none=>ae
   | .slice (aa ⟨_,_,aa _⟩) 0 _=>aa (.string ByteArray.empty)
   |_=>ae
  |_=>ae
 |_,_=>ae
def oF(H:St)(Z:a8->av)(o:ic):f9 av:=
 match gN P Z o with
 |some v=>aa v
 |none=>match o.op with
  | .convert s d x=>vI P H s d (Z x)
  |_=>ae
def vZ(call:FuncId->Array av->St->f9 (av×St))(base:Nat)(i:Nat)(o:ic)(S:Slots)(H:St):f9 (av×St):=
 match cY o with
 | .pure=>(oF P H (ev S) o).map λv=>(v,H)
 | .read=>(mA P H (ev S) o).map λv=>(v,H)
 | .alloc=>(gK P (ev S) o (base+i)).map λ(v,b)=>(v,H.put (base+i) b)
 | .eff=>yL P call H (ev S) o (base+i)
def lF(call:FuncId->Array av->St->f9 (av×St))(ops:Array ic)(base:Nat):au ic->Nat->Slots->St->f9 (Slots×St)
 |[],_,S,H=>aa (S,H)
 |o::rest,i,S,H=>
  bif wanted ops S o then
   match vZ P call base i o S H with
   |some (v,H')=>lF call ops base rest (i+1) (S.store o.dst v) H'
   |none=>ae
  else lF call ops base rest (i+1) (S.store o.dst undef) H
def lW(o:ic):Bool:=match cY o with| .eff=>ah|_=>aj
def uU(ms:au Nat)(o:ic):Nat:=
 o.after.toList.foldl (λm e=>bif Region.binds .any e then(m|||(1<<<e.on))|||ms.getD e.on 0 else m) 0
def iE:au ic->au Nat->au Nat
 |[],ms=>ms
 |o::os,ms=>iE os (ms++ [uU ms o])
def mP(m i:Nat):Bool:=ao ((m>>>i)%2) 1
def aPK:au ic->Nat->au Nat
 |[],_=>[]
 |o::os,i=>bif lW o then i::aPK os (i+1)else aPK os (i+1)
def aTm(ms:au Nat)(es:au Nat)(i:Nat):Nat:=(es.filter λe=>mP (ms.getD i 0) e).length
def Kl(ms:au Nat)(all es:au Nat)(quiet:au Nat):Nat->au Nat->au Nat
 |k,[]=>quiet.filter λi=>ao (aTm ms all i) k
 |k,e::rest=>(quiet.filter λi=>ao (aTm ms all i) k)++e::Kl ms all es quiet (k+1) rest
def a4T(ops:Array ic)(ms:au Nat):au Nat:=
 let es:=aPK ops.toList 0
 Kl ms es es ((List.range ops.size).filter λi=> !(es.contains i)) 0 es
def aEB(ops:Array ic):f9 (Nat×Nat):=match(aPK ops.toList 0).reverse with|y::x::_=>aa (x,y)|_=>ae
def aCC(ops:Array ic):f9 (a8×a8):=
 match aEB ops with
 |none=>ae
 |some (i,j)=>match ops[i]?,ops[j]? with
  |some x,aa y=>match x.op,y.op,x.guard,y.guard,x.dst,y.dst with
   | .store _ a _,.store _ b _,ae,ae,ae,ae=>bif !Nat.blt i j||mP ((iE ops.toList []).getD j 0) i then ae else aa (a,b)
   |_,_,_,_,_,_=>ae
  |_,_=>ae
def bJY(ops:Array ic)(c:au Nat):au Nat:=
 match aCC ops,aEB ops with
 |some _,aa (x,y)=>(c.filter λi=>d9 i x)++x::((c.filter λi=>d9 x i&& !Nat.beq i y)++ [y])
 |_,_=>c
def AF(ops:Array ic)(ms:au Nat):au Nat:=bJY ops (a4T ops ms)
structure jV where
 i:Nat
 o:ic
 S:Slots
 v:av
 ob:Option AObj
def wP(m n:wB):Bool:=(m.wr==n.wr)&&(m.tip==n.tip)&&ao m.z n.z&&(m.grp==n.grp)&&ao m.lim n.lim
def Bw:au (av×av)->au (av×av)->Bool
 |[],[]=>ah
 |x::xs,y::ys=>gC x.1 y.1&&gC x.2 y.2&&Bw xs ys
 |_,_=>aj
def rB:AObj->AObj->Bool
 | .cells cs m,.cells ds n=>sS cs ds&&wP m n
 | .map es,.map fs=>Bw es fs
 |_,_=>aj
def check(base:Nat)(H:St)(r:jV):Bool:=
 match r.ob with
 |none=>match mA P H (ev r.S) r.o with
  |some v=>gC v r.v
  |none=>aj
 |some ob=>match H.get (base+r.i)with
  |some ob'=>rB ob' ob
  |none=>aj
def iQ(call:FuncId->Array av->St->f9 (av×St))(ops:Array ic)(ms:au Nat)(base:Nat):au Nat->au jV->Slots->St->f9 (Slots×St)
 |[],pend,S,H=>bif pend.all (check P base H)then aa (S,H)else ae
 |i::rest,pend,S,H=>
  match ops[i]? with
  |none=>ae
  |some o=>
   bif wanted ops S o then
    match cY o with
    | .pure=>match gN P (ev S) o with
     |some v=>iQ call ops ms base rest pend (S.store o.dst v) H
     |none=>ae
    | .read=>match mA P H (ev S) o with
     |some v=>iQ call ops ms base rest (⟨i,o,S,v,ae⟩::pend) (S.store o.dst v) H
     |none=>ae
    | .alloc=>match gK P (ev S) o (base+i)with
     |some (v,ob)=>iQ call ops ms base rest (⟨i,o,S,v,aa ob⟩::pend) (S.store o.dst v) (H.put (base+i) ob)
     |none=>ae
    | .eff=>bif pend.all (check P base H)then
            match yL P call H (ev S) o (base+i)with
            |some (v,H')=>iQ call ops ms base rest (pend.filter λr=> !mP (ms.getD i 0) r.i) (S.store o.dst v) H'
            |none=>ae
     else ae
   else iQ call ops ms base rest pend (S.store o.dst undef) H
inductive Fl where
 |normal
 |exit (n:Nat)
 |ret
def DS(body:Slots->St->f9 (Fl×Slots×St)):Nat->Slots->St->f9 (Fl×Slots×St)
 |0,_,_=>ae
 |n+1,S,H=>match body S H with
  |some (.normal,S',H')=>DS body n S' H'
  |r=>r
def aOE(ops:Array ic)(S:Slots)(H:St):Bool:=
 match aCC ops with
 |none=>ah
 |some (a,b)=>match ev S a,ev S b with
  | .pointer (aa ⟨i,_,ae⟩),.pointer (aa ⟨j,_,ae⟩)=> !Nat.beq i j&&(match H.get j with|some (.cells _ m)=>m.grp.isNone|_=>aj)
  |_,_=>aj
def aHW(ops:Array ic):f9 (Slots×St)->f9 (Slots×St)
 |some r=>bif aOE ops r.1 r.2 then aa r else ae
 |none=>ae
def sT(call:FuncId->Array av->St->f9 (av×St))(ops:Array ic)(draw:Bool)(S:Slots)(H:St):f9 (Slots×St):=
 bif draw then aHW ops (iQ P call ops (iE ops.toList []) H.next (AF ops (iE ops.toList [])) [] S {H with next:=H.next+ops.size})
 else lF P call ops H.next ops.toList 0 S {H with next:=H.next+ops.size}
def eJ(call:FuncId->Array av->St->f9 (av×St))(L:Nat):Code->Slots->St->f9 (Fl×Slots×St)
 | .skip,S,H=>aa (.normal,S,H)
 | .label _,S,H=>aa (.normal,S,H)
 | .region _ ops draw,S,H=>(sT P call ops draw S H).map λ(S',H')=>(.normal,S',H')
 | .seq a b,S,H=>match eJ call L a S H with
  |some (.normal,S',H')=>eJ call L b S' H'
  |r=>r
 | .cond c a b,S,H=>match ev S c with
  | .bool ah=>eJ call L a S H
  | .bool aj=>eJ call L b S H
  |_=>ae
 | .block id c,S,H=>match eJ call L c S H with
  |some (.exit n,S',H')=>bif ao n id then aa (.normal,S',H')else aa (.exit n,S',H')
  |r=>r
 | .loop c,S,H=>DS (λS H=>eJ call L c S H) L S H
 | .exit id,S,H=>aa (.exit id,S,H)
 | .ret,S,H=>aa (.ret,S,H)
 | .scope c,S,H=>eJ call L c S H
 |_,_,_=>ae
def uF(S:Slots)(H:St):ResultVar->f9 av
 | .tmp t=>aa (S.at t)
 | .cell a t=>iM P H t (S.at a)
def fP(S:Slots)(H:St):au ResultVar->f9 (au av)
 |[]=>aa []
 |r::rs=>match uF P S H r,fP S H rs with
  |some v,aa vs=>aa (v::vs)
  |_,_=>ae
def vH:au av->av
 |[v]=>v
 |vs=> .tuple vs.toArray
def qK:au av->Nat->Slots->Slots
 |[],_,S=>S
 |v::vs,i,S=>qK vs (i+1) (Tr.set S i v)
def cM:a8->Bool
 | .const v=>dP v
 | .global g=>d9 g P.globals.size
 |_=>ah
def uL(α:Nat)(o:ic):Bool:=
 (match o.dst with|some d=>d9 d α|none=>ah)&&o.op.operands.all (cM P)
def aTB(ops:Array ic)(e:Nat):Bool:=match ops[e]? with|some o=>lW o|none=>aj
def QC(ops:Array ic)(ms:au Nat):au Nat->au Nat->Bool
 |[],done=>(List.range ops.size).all λi=>done.contains i
 |i::rest,done=>d9 i ops.size&& !done.contains i&&(List.range ops.size).all (λj=> !mP (ms.getD i 0) j||done.contains j)&&
      done.all (λe=> !aTB ops e||mP (ms.getD i 0) e)&&QC ops ms rest (i::done)
def L9(ops:Array ic)(ms:au Nat)(x y:ic×Nat):Bool:=
 ao x.2 y.2||((match y.1.dst with
        |some d=>(mP (ms.getD x.2 0) y.2||mP (ms.getD y.2 0) x.2|| !(x.1.looksAt ops).contains d)
        |none=>ah)&&
       (match x.1.dst,y.1.dst with|some d,aa d'=> !Nat.beq d d'|_,_=>ah))
def Fw(ops:Array ic):Bool:=
 QC ops (iE ops.toList []) (AF ops (iE ops.toList [])) []&&
 ops.toList.zipIdx.all λx=>
  x.1.after.toList.all (λe=> !Region.binds .any e||d9 e.on x.2)&&
  (match x.1.guard with|some (j,_)=>mP ((iE ops.toList []).getD x.2 0) j&&d9 j ops.size|none=>ah)&&
  ops.toList.zipIdx.all λy=>L9 ops (iE ops.toList []) x y
def Ee(rk:Nat->Nat)(ops:Array ic)(order:au Nat):Bool:=
 QC ops (iE ops.toList []) order []&&
 ops.toList.zipIdx.all λx=>
  x.1.after.toList.all (λe=> !Region.binds .any e||(d9 (rk e.on) (rk x.2)&&d9 e.on ops.size))&&
  (match x.1.guard with|some (j,_)=>mP ((iE ops.toList []).getD x.2 0) j&&d9 j ops.size|none=>ah)&&
  ops.toList.zipIdx.all λy=>L9 ops (iE ops.toList []) x y
def Ed(ops:Array ic):Bool:=match aCC ops with|none=>Fw ops|some _=>aj
def fJ(α:Nat):Code->Bool
 | .region _ ops draw=>ops.toList.all (uL P α)&&(!draw||Ed ops)
 | .seq a b=>fJ α a&&fJ α b
 | .cond c a b=>cM P c&&fJ α a&&fJ α b
 | .block _ c=>fJ α c
 | .loop c=>fJ α c
 | .scope c=>fJ α c
 |_=>ah
def rX(fn:Func):Bool:=
 match fn.body with
 |some c=>fJ P fn.ntmps c&& !(fn.name== "runtime.NumGoroutine")
 |none=>ah
end
end Go.AI
