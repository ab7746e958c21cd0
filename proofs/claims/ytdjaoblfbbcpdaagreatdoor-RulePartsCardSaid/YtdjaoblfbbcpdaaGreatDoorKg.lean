import Derived.Test.YtdjaoblfbbcpdaaGreatDoorKf
set_option linter.unusedVariables false
set_option linter.unusedSimpArgs false
set_option linter.constructorNameAsVariable false
set_option linter.defProp false
namespace Go.TV
open Go.AI Go.PI
def gd:PV->Bool
 | .v _| .str _| .emp=>true
 | .sl _ (_::_)=>true
 |_=>false
def dD(U:hY):(t:Ty)->Den U.D t->PV
 | .int k,n=> .v (.int k n)
 | .bool,b=> .v (.bool b)
 | .str,s=> .str s
 | .sl t,l=>eB (dC U t) (List.map (dD U t) l)
 | .rc n,x=> .agg (U.en n x)
def en{U:hY}(v:V U):PV:=dD U v.t v.x
def NW(U:hY)(t:Ty):List PV:=(jI U t).flatMap aJu
def aOy(l:List PV)(i:Nat):Bool:=match l[i]? with|some .nil=>true|_=>false
def bEd:PV->Bool
 | .v _| .str _=>true
 |_=>false
structure iE(U:hY):Prop where
 eqc: ∀n f x,U.eq n=some f->(U.en n x).all bEd=true
 ty: ∀n x,(U.un n x).map (λv=>v.t)=U.fs n
 un_of: ∀n l x,U.of n l=some x->U.un n x=l
 en: ∀n x,U.en n x=(U.un n x).flatMap λv=>(dD U v.t v.x).cells
 len: ∀n x,(U.en n x).length=U.sz n
 sz: ∀n,U.sz n=eP U (U.fs n)
 gd: ∀n x,(U.en n x).all gd=true
 pos: ∀n,1<=U.sz n
 zero: ∀n,U.un n (U.zero n)=(U.fs n).map λt=>⟨t,pO U t⟩
 lt: ∀n,U.lt n=(U.fs n).flatMap (jI U)
 zc: ∀n,wks ((U.lt n).flatMap aJu)=U.en n (U.zero n)
 nz: ∀n,(AD U (.rc n)).all (λx=>aOy ((U.lt n).flatMap aJu) x.1)=true
 ltl: ∀n,(U.lt n).length=U.sz n
def aZJ{x:PV}(h:gd x=true):x.pur=true:=by cases x<;>first|rfl|simp[gd]at h
def aEN{x:PV}(h:gd x=true):wk x=x:=by
 cases x with
 |sl z es=>cases es with
  |nil=>simp[gd]at h
  |cons e es=>rfl
 |_=>first|rfl|simp[gd]at h
def oX{x:PV}(h:gd x=true):x.cells=[x]:=by cases x<;>first|rfl|simp[gd]at h
def BL{x:PV}(h:gd x=true):JU x=false:=by
 cases x with
 |sl z es=>cases es with
  |nil=>simp[gd]at h
  |cons e es=>rfl
 |_=>first|rfl|simp[gd]at h
def EH{x:PV}{n:Nat}(h:gd x=true):below n x=true:=by cases x<;>first|rfl|simp[gd]at h
def eR(z:Nat)(l:List PV):gd (eB z l)=true:=by cases l<;>rfl
def mJ(l:List PV):wks l=l.map wk:=by induction l with
 |nil=>rfl
 |cons x l ih=>simp only[wks,ih,aO]
def Kg{l:List PV}(h:l.all gd=true):wks l=l:=by
 rw[mJ];induction l with
 |nil=>rfl
 |cons x l ih=>
  simp only[aP,aC]at h;rw[aO,aEN h.1,ih h.2]
section
variable{U:hY}(hU:iE U)
include hU
def tR(t:Ty)(x:Den U.D t):(dD U t x).cells.all gd=true:=by
 cases t with
 |int k=>rfl
 |bool=>rfl
 |str=>rfl
 |sl t=>simp only[dD,oX (eR _ _),aP,eR,List.all_nil,Bool.and_self]
 |rc n=>exact hU.gd n x
def iU(t:Ty)(x:Den U.D t):(dD U t x).cells.length=dC U t:=by
 cases t with
 |int k=>rfl
 |bool=>rfl
 |str=>rfl
 |sl t=>simp only[dD,oX (eR _ _),dC,aM,aX]
 |rc n=>exact hU.len n x
def XI(t:Ty)(x:Den U.D t):wk (dD U t x)=dD U t x:=by
 cases t with
 |int k=>rfl
 |bool=>rfl
 |str=>rfl
 |sl t=>exact aEN (eR _ _)
 |rc n=>simp only[dD,wk,Kg (hU.gd n x)]
def pZ(t:Ty):1<=dC U t:=by
 cases t with
 |rc n=>exact hU.pos n
 |_=>exact aS _
def P9(n:Nat)(t:Ty)(x:Den U.D t):below n (dD U t x)=true:=by
 cases t with
 |int k=>rfl
 |bool=>rfl
 |str=>rfl
 |sl t=>exact EH (eR _ _)
 |rc m=>
  show jL n (U.en m x)=true;rw[fU];intro c hc;exact EH (bJ.1 (hU.gd m x) c hc)
end
section
variable{U:hY}{p:PV}
def Q4{x:Value}(h:wk p= .v x):p= .v x:=by
 cases p with
 |v y=>exact h
 |sl z es=>cases es<;>simp[wk]at h
 |_=>simp[wk]at h
def HI{x:List UInt8}(h:wk p= .str x):p= .str x:=by
 cases p with
 |str y=>exact h
 |sl z es=>cases es<;>simp[wk]at h
 |_=>simp[wk]at h
def Q6{x:List PV}(h:wk p= .agg x): ∃cs,p= .agg cs/\wks cs=x:=by
 cases p with
 |agg y=>simp only[wk,PV.agg.injEq]at h;exact⟨y,rfl,h⟩
 |sl z es=>cases es<;>simp[wk]at h
 |_=>simp[wk]at h
def aQB(h:wk p= .emp):p= .emp∨p= .nil∨∃z,p= .sl z []:=by
 cases p with
 |emp=>exact .inl rfl
 |nil=>exact .inr (.inl rfl)
 |sl z es=>cases es with
  |nil=>exact .inr (.inr ⟨z,rfl⟩)
  |cons e es=>simp[wk]at h
 |_=>simp[wk]at h
def aN6{z:Nat}{e:PV}{es:List PV}(h:wk p= .sl z (e::es)):p= .sl z (e::es):=by
 cases p with
 |sl z es=>cases es with
  |nil=>simp[wk]at h
  |cons e es=>exact h
 |_=>simp[wk]at h
def aBp{z:Nat}{es:List PV}(h:wk p=eB z es):(es=[]/\(p= .emp∨p= .nil∨∃z,p= .sl z []))∨(es≠ []/\p= .sl z es):=by
 cases es with
 |nil=>exact .inl ⟨rfl,aQB h⟩
 |cons e es=>exact .inr ⟨by simp,aN6 h⟩
def aE8{z:Nat}{es:List PV}(h:wk p=eB z es)(hz: ∀z',p= .sl z' []->z'=z):oY z p=some es:=by
 rcases aBp h with⟨rfl,rfl|rfl|⟨z',rfl⟩⟩|⟨_,rfl⟩
 .rfl
 .rfl
 .have:=hz z' rfl;subst this;simp[oY]
 .simp[oY]
end
section
variable(U:hY)
def NX(ts:List Ty)(cs:List PV):Prop:= ∀(j z:Nat),cs[j]?=some (.sl z [])->∃e,ts[j]?=some (.sl e)/\z=dC U e
structure VR(t:Ty)(x:Den U.D t)(p:PV):Prop where
 wk:PI.wk p=dD U t x
 z:NX U (jI U t) p.cells
structure Ce where
 id:Option Nat
 n:Nat
 z:Nat
abbrev Cx:=Nat->Option Ce
def yH(c:Cx):List Nat->List PV->Prop
 |[],[]=>True
 |k::ks,p::ps=>(∃e id,c k=some e/\e.id=some id/\p= .ptr id 0)/\yH c ks ps
 |_,_=>False
def uC(c:Cx):SV U.D->PV->Prop
 | .val v,p=>VR U v.t v.x p
 | .tup l,p=> ∃ps,p= .tup ps/\ps=l.map λv=>dD U v.t v.x
 | .nl,p=>p= .nil
 | .lc k off _,p=> ∃e id,c k=some e/\e.id=some id/\p= .ptr id off
 | .ep v,p=> ∃es i off e,p= .pin es i off/\es[i]?=some e/\(e.cells.drop off).take (dC U v.t)=(dD U v.t v.x).cells
 | .rw k,p=> ∃e,c k=some e/\((e.id=none/\e.n=0/\(p= .sl e.z []∨p= .emp))∨∃id,e.id=some id/\1<=e.n/\p= .rs id 0 e.n)
 | .rp k i off _,p=> ∃e id,c k=some e/\e.id=some id/\0<=i/\i<(e.n:Int)/\p= .ptr id (i.toNat*e.z+off)
 | .cl f caps,p=> ∃ps,p= .fn f [] ps/\yH c caps ps
 | .nf,p=>p= .v .nilFunc
 | .zr l,p=>p= .agg l
 | .no,_=>True
def isAgg:PV->Bool
 | .agg _=>true
 |_=>false
def aBf(rs:jD)(p:PV)(ow:Bool):Prop:=
 ∀o s,(o,s)∈rs->(isAgg p=true/\p.cells[o]?=some .nil)∨(o=0/\isAgg p=false/\(ow||kM p)=true/\(s=true->JU p=false))
def qB(c:Cx)(x:X U)(y:PV×Bool):Prop:=uC U c x.1 y.1/\aBf x.2 y.1 y.2
def lW(c:Cx)(S:TS U.D)(S':PS):Prop:= ∀t,qB U c (lV S t) (S'.at t)
def zX(c:Cx):SV U.D->List (PV×Bool)->Prop
 | .val v,cs=>wks (cs.map (·.1))=(dD U v.t v.x).cells/\NX U (jI U v.t) (cs.map (·.1))/\∀x∈cs,x.1≠ .nil
 | .cl f caps,cs=> ∃p b,cs=[(p,b)]/\uC U c (.cl f caps) p
 | .nf,cs=> ∃b,cs=[(.v .nilFunc,b)]
 |_,_=>False
def bA3(rs:jD)(cs:List (PV×Bool)):Prop:= ∀o s,(o,s)∈rs->∃x,cs[o]?=some (x,true)/\(s=true->JU x=false)
def CY(c:Cx)(p:PSt)(e:Ce):BC U.D->Prop
 | .bx s r=> ∃id cs,e.id=some id/\p.get id=some (.box cs)/\zX U c s cs/\bA3 r cs
 | .row t l=>e.n=l.length/\e.z=dC U t/\((e.id=none/\l=[])∨∃id,e.id=some id/\p.get id=some (.row e.z (lU t) ((l.map (dD U t)).flatMap PV.cells)))
 | .gone=>True
structure MR(q:PSt)(c0 c:Cx)(M:TM U.D)(p:PSt):Prop where
 dom: ∀k,dG M.bx k=none->c k=none
 bx: ∀k b,dG M.bx k=some b->∃e,c k=some e/\CY U c p e b
 lt: ∀k e id,c k=some e->e.id=some id->id<p.next
 inj: ∀k k' e e' id,c k=some e->c k'=some e'->e.id=some id->e'.id=some id->k=k'
 next:q.next<=p.next
 bor: ∀k e,c k=some e->k<100->c0 k=some e
 loc: ∀k e id,c k=some e->100<=k->e.id=some id->q.next<=id
 old: ∀id,id<q.next->id∉p.dirty->p.get id=q.get id
 dirty: ∀id,id∈p.dirty->id<q.next->∃k e,c0 k=some e/\e.id=some id
 wr: ∀id,id∈p.wr->id<p.next/\(id<q.next->∃k e,c0 k=some e/\e.id=some id)
def WR(c:Cx)(M:TM U.D)(p:PSt):Prop:= ∀id,id∈p.wr->∀k e,c k=some e->e.id=some id->dY k M.wr=true
def leC(c c':Cx):Prop:= ∀k e,c k=some e->c' k=some e
end
end Go.TV
namespace Go.TV
open Go.AI Go.PI
def bBO(P:Program)(U:hY)(T:TP U.D)(id:TypeId):Ty->Prop
 | .int k=>P.underlying id=some (.int k)
 | .bool=>P.underlying id=some .bool
 | .str=>P.underlying id=some .string
 | .sl t=> ∃e,P.underlying id=some (.slice e)/\T.T.ty e=some t/\T.el id=some e
 | .rc n=>T.T.arr id=false->∃fs,P.underlying id=some (.struct fs)/\fs.size=(U.fs n).length/\∀i f,fs[i]?=some f->T.T.ty f.type=(U.fs n)[i]?/\f.offset=kF U n i
def aAf(U:hY):List Ty->Nat->List (Nat×Nat)
 |[],_=>[]
 |t::ts,o=>(o,dC U t)::aAf U ts (o+dC U t)
structure rT(P:Program)(U:hY)(T:TP U.D):Prop where
 ag: ∀id t,T.T.ty id=some t->jS P id=some (lU t)
 sz: ∀id t,T.T.ty id=some t->gU P id=some (dC U t)
 un: ∀id t,T.T.ty id=some t->bBO P U T id t
 zc: ∀id t,T.T.ty id=some t->zeroCells P id=some (NW U t)
 fn: ∀id,T.T.fn id=true->jS P id=some false/\gU P id=some 1/\zeroCells P id=some [.v .nilFunc]
 inf: ∀id t,T.T.ty id=some t->∃info z,P.info? id=some info/\info.size=dC U t/\info.bytes=T.T.by' id/\1<=info.bytes/\info.zero=some z/\z.cells.size=info.size/\ofVs z.cells.toList=NW U t/\z.cells.toList.all bN=true
 bd: ∀id n,T.T.ty id=some (.rc n)->T.T.arr id=false->∃fs pl,P.underlying id=some (.struct fs)/\cI P (fs.mapM λf=>do pure (f.offset,<-Go.sizeOf f.type))=some pl/\pl.toList=aAf U (U.fs n) 0
 arr: ∀id n,T.T.ty id=some (.rc n)->T.T.arr id=true->∃len e te,P.underlying id=some (.array len e)/\gU P e=some (dC U te)/\U.fs n=List.replicate len te
 eq: ∀id n f,T.T.ty id=some (.rc n)->U.eq n=some f->∀(x y:U.D n) (a b:Operand),
  lA P .eql id a b (.agg (U.en n x)) (.agg (U.en n y))=some (.v (.bool (f x y)))/\lA P .neq id a b (.agg (U.en n x)) (.agg (U.en n y))=some (.v (.bool (!f x y)))
section
variable{U:hY}{c c':Cx}{S:TS U.D}{S':PS}
def ZK{T:TP U.D}{id:TypeId}{t:Ty}(h:OE T.T id=some t):T.T.ty id=some t/\T.T.arr id=false:=by
 unfold OE at h;cases ha:T.T.arr id with
 |true=>rw[ha]at h;cases h
 |false=>rw[ha]at h;exact⟨h,rfl⟩
def LH(h:leC c c'): ∀{ks:List Nat} {ps:List PV},yH c ks ps->yH c' ks ps
 |[],[],_=>trivial
 |k::ks,p::ps,⟨⟨e,id,h1,h2,h3⟩,h4⟩=>⟨⟨e,id,h k e h1,h2,h3⟩,LH h h4⟩
 |[],_::_,hh=>hh.elim
 |_::_,[],hh=>hh.elim
def aBP(h:leC c c'){x:SV U.D}{p:PV}(r:uC U c x p):uC U c' x p:=by
 cases x with
 |val v=>exact r
 |tup l=>exact r
 |nl=>exact r
 |lc k off q=>obtain⟨e,id,h1,h2,h3⟩:=r;exact⟨e,id,h k e h1,h2,h3⟩
 |ep v=>exact r
 |rw k=>obtain⟨e,h1,h2⟩:=r;exact⟨e,h k e h1,h2⟩
 |rp k i off q=>obtain⟨e,id,h1,h2,h3⟩:=r;exact⟨e,id,h k e h1,h2,h3⟩
 |cl f caps=>obtain⟨ps,h1,h2⟩:=r;exact⟨ps,h1,LH h h2⟩
 |nf=>exact r
 |zr l=>exact r
 |no=>trivial
def aSc(h:leC c c'){x:X U}{p:PV×Bool}(r:qB U c x p):qB U c' x p:=⟨aBP h r.1,r.2⟩
def Sf(h:leC c c')(F:lW U c S S'):lW U c' S S':=λt=>aSc h (F t)
def leC.refl(c:Cx):leC c c:=λ_ _ h=>h
def leC.trans{c'':Cx}(h:leC c c')(h':leC c' c''):leC c c'':=λk e hh=>h' k e (h k e hh)
def bV(p:PV)(ow:Bool):aBf [] p ow:=λo s h=>by cases h
def aKl{rs:jD}{p:PV}{ow ow':Bool}(h:aBf rs p ow)(ha:isAgg p=true):aBf rs p ow':=λo s hm=>by
 rcases h o s hm with h1|⟨_,h2,_⟩
 .exact .inl h1
 .rw[ha]at h2;cases h2
def aCi{rs:jD}{p:PV}{ow ow':Bool}(h:aBf rs p ow)(ho:ow=true->(ow'||kM p)=true):aBf rs p ow':=λo s hm=>by
 rcases h o s hm with h1|⟨h1,h2,h3,h4⟩
 .exact .inl h1
 .refine .inr ⟨h1,h2,?_,h4⟩;cases ow with
  |true=>exact ho rfl
  |false=>simp only[Bool.false_or]at h3;rw[h3,Bool.or_true]
def aJS{v:V U}{p:PV}(h:VR U v.t v.x p)(hr:lU v.t=true):isAgg p=true:=by
 obtain⟨t,x⟩:=v;cases t with
 |rc n=>obtain⟨cs,rfl,_⟩:=Q6 h.wk;rfl
 |_=>cases hr
def oO{v:V U}{p:PV}(h:VR U v.t v.x p)(hr:lU v.t=false):isAgg p=false:=by
 obtain⟨t,x⟩:=v;cases t with
 |rc n=>cases hr
 |int k=>rw[Q4 h.wk];rfl
 |bool=>rw[Q4 h.wk];rfl
 |str=>rw[HI h.wk];rfl
 |sl t=>rcases aBp h.wk with⟨_,h1|h1|⟨z,h1⟩⟩|⟨_,h1⟩<;>rw[h1]<;>rfl
def vA{x:X U}{p:PV}{ow:Bool}(h:qB U c x (p,ow)):qB U c (tH U x) (p,false):=by
 obtain⟨sv,rs⟩:=x;obtain⟨h1,h2⟩:=h;cases sv with
 |val v=>
  cases hr:lU v.t with
  |true=>simp only[tH,hr,aI];exact⟨h1,aKl h2 (aJS h1 hr)⟩
  |false=>simp only[tH,hr,aJ];exact⟨h1,bV _ _⟩
 |nl=>
  refine⟨h1,λo s hm=>?_⟩
  simp only[tH,List.mem_singleton,aB]at hm;have h3:p= .nil:=h1;exact .inr ⟨hm.1,by rw[h3];rfl,by rw[h3];rfl,λ_=>by rw[h3];rfl⟩
 |_=>exact⟨h1,bV _ _⟩
def qJ(S':PS)(t k:Nat)(x:PV×Bool):(S'.set t x).at k=if k=t then x else S'.at k:=by
 unfold PS.set PS.at;simp only;by_cases h:k=t
 .subst h;simp
 .have:Nat.beq k t=false:=by rw[<-Bool.not_eq_true];intro hh;exact h (aE hh)
  rw[this,bH h];rfl
def wM(S:TS U.D)(t k:Nat)(x:X U):lV ((t,x)::S) k=if k=t then x else lV S k:=by
 show(bif Nat.beq t k then x else lV S k)=_;by_cases h:k=t
 .subst h;simp
 .have:Nat.beq t k=false:=by rw[<-Bool.not_eq_true];intro hh;exact h (aE hh).symm
  rw[this,bH h];rfl
def sS(F:lW U c S S'){t:Nat}{x:X U}{y:PV×Bool}(h:qB U c x y):lW U c ((t,x)::S) (S'.set t y):=λk=>by
 rw[wM,qJ];by_cases e:k=t
 .rw[bI e,bI e];exact h
 .rw[bH e,bH e];exact F k
def AQ(F:lW U c S S'){d:Option Tmp}{x:X U}{v:PV}{own:Bool}(h:qB U c x (v,own)):lW U c (ZY U S d x) (S'.put d v own):=by
 cases d with
 |none=>exact F
 |some d=>exact sS F h
def rN(F:lW U c S S')(x:Operand):lW U c (uY U S x) (mX S' x):=by
 cases x with
 |tmp t=>exact sS F (vA (ow:=(S'.at t).2) (F t))
 |_=>exact F
def PX(F:lW U c S S'){t:Nat}{x:X U}(h:qB U c x (S'.at t)):lW U c ((t,x)::S) S':=λk=>by
 rw[wM];by_cases e:k=t
 .rw[bI e,e];exact h
 .rw[bH e];exact F k
def dB(F:lW U c S S')(x:Operand):qB U c (jJ U S x) (cP S' x,iG S' x):=by
 cases x with
 |tmp t=>
  refine⟨(F t).1,aCi (F t).2 λh=>?_⟩
  simp only[iG,h,Bool.true_or]
 |const v=>
  have hv: ∀y,VR U y.t y.x (Bo v)->qB U c (.val y,[]) (Bo v,iG S' (.const v)):=λy h=>⟨h,bV _ _⟩
  have h0: ∀(w:Value) (t:Ty) (h:Bo v= .v w),NX U (jI U t) (Bo v).cells:=λw t h j z hz=>by
   rw[h]at hz;cases j<;>simp[PV.cells]at hz
  cases v with
  |bool b=>exact hv ⟨.bool,b⟩ ⟨rfl,h0 _ _ rfl⟩
  |int k n=>exact hv ⟨.int k,n⟩ ⟨rfl,h0 _ _ rfl⟩
  |string s=>exact hv ⟨.str,s.data.toList⟩ ⟨rfl,λj z hz=>by cases j<;>simp[Bo,PV.cells]at hz⟩
  |slice b l k=>
   cases b with
   |some b=>exact⟨trivial,bV _ _⟩
   |none=>
    refine⟨rfl,λo s hm=>?_⟩
    simp only[jJ,bI7,List.mem_singleton,aB]at hm;exact .inr ⟨hm.1,rfl,rfl,λ_=>rfl⟩
  |nilFunc=>exact⟨rfl,bV _ _⟩
  |agg cs=>cases cs;exact⟨rfl,bV _ _⟩
  |_=>exact⟨trivial,bV _ _⟩
 |func f=>exact⟨⟨[],rfl,trivial⟩,bV _ _⟩
 |global g=>exact⟨trivial,bV _ _⟩
def Ks: ∀{l r:List PV},aBg l r=true->l=r:=by
 intro l;induction l with
 |nil=>intro r h;cases r with|nil=>rfl|cons x r=>cases h
 |cons x l ih=>
  intro r h;cases r with
  |nil=>cases x<;>first|cases h|(rename_i v;cases v<;>cases h)
  |cons y r=>
   unfold aBg at h;split at h
   .rename_i heq;cases heq
   .rename_i e1 e2;cases e1;cases e2;simp only[aC,aD]at h;rw[h.1.1,h.1.2,ih h.2]
   .rename_i e1 e2;cases e1;cases e2;simp only[aC,aD]at h;rw[h.1,ih h.2]
   .rename_i e1 e2;cases e1;cases e2;rw[ih h]
   .rename_i e1 e2;cases e1;cases e2;simp only[aC,List.isEmpty_iff]at h;rw[h.1.1,h.1.2,ih h.2]
   .rename_i e1 e2;cases e1;cases e2;rw[ih h]
   .cases h
def lK(hU:iE U){t:Ty}{s:SV U.D}{v:V U}{p:PV}(h:G6 U t s=some v)(r:uC U c s p):v.t=t/\VR U v.t v.x p:=by
 cases s with
 |val w=>
  simp only[G6]at h;cases hb:w.t.beq t with
  |false=>rw[hb]at h;cases h
  |true=>rw[hb]at h;cases h;exact⟨Ty.beq_eq hb,r⟩
 |nl=>
  simp only[G6]at h;split at h
  .cases h;have hp:p= .nil:=r;subst hp;exact⟨rfl,rfl,λj z hz=>by cases j<;>simp[PV.cells]at hz⟩
  .cases h
 |zr l=>
  simp only[G6]at h;split at h
  .rename_i n;cases hb:aBg l ((U.lt n).flatMap aJu)with
   |false=>rw[hb]at h;cases h
   |true=>
    rw[hb]at h;cases h;have hp:p= .agg l:=r;subst hp;rw[Ks hb];refine⟨rfl,?_,λj z hz=>?_⟩
    .show PV.agg (wks _)= .agg _;rw[hU.zc n]
    .have hm:(PV.sl z [])∈(U.lt n).flatMap aJu:=List.mem_of_getElem? hz;rw[List.mem_flatMap]at hm;obtain⟨t,_,h1⟩:=hm;cases t<;>simp[aJu]at h1
  .cases h
 |_=>cases h
def aBh(hU:iE U){t:Option Ty}{s:SV U.D}{p:PV}(r:uC U c s p):uC U c (bAU U t s) p:=by
 unfold bAU;split
 .split
  .split
   .rename_i v hv;exact(lK hU hv r).2
   .trivial
  .trivial
 .exact r
def oZ{D:Nat->Type}{t u:Ty}{x:Den D t}{y:Den D u}(h:SG t u x=some y):(⟨t,x⟩:TV D)=⟨u,y⟩:=by
 unfold SG at h;split at h
 .rename_i e _;subst e;cases h;rfl
 .cases h
end
end Go.TV
namespace Go.TV
open Go.AI Go.PI
section
variable{P:Program}{U:hY}{T:TP U.D}
def kB(l:List PV):(wks l).length=l.length:=by rw[mJ,List.length_map]
def rW(l r:List PV):wks (l++r)=wks l++wks r:=by simp only[mJ,List.map_append]
def Dm(l:List PV)(n:Nat):wks (l.drop n)=(wks l).drop n:=by simp only[mJ,List.map_drop]
def Dl(l:List PV)(n:Nat):wks (l.take n)=(wks l).take n:=by simp only[mJ,List.map_take]
def sR{c:PV}(h:gd (wk c)=true): ∀cs,c≠ .agg cs:=λcs e=>by subst e;simp[wk,gd]at h
def pB{c:PV}(h: ∀cs,c≠ .agg cs):c.cells=[c]:=by
 cases c with
 |agg cs=>exact(h cs rfl).elim
 |_=>rfl
def aQA{c:PV}(h:gd (wk c)=true):c.one=true:=by
 cases c with
 |agg cs=>simp[wk,gd]at h
 |tup cs=>simp[wk,gd]at h
 |und=>simp[wk,gd]at h
 |_=>rfl
def aM0{l:List PV}(h:(wks l).all gd=true):l.all PV.one=true:=by
 rw[mJ,List.all_map,bJ]at h;rw[bJ];exact λx hx=>aQA (h x hx)
def Q3{ts us:List Ty}{cs ds:List PV}(hl:ts.length=cs.length)(h:NX U ts cs)(h':NX U us ds):NX U (ts++us) (cs++ds):=λj z hj=>by
 by_cases bi:j<cs.length
 .rw[List.getElem?_append_left bi]at hj;obtain⟨e,h1,h2⟩:=h j z hj;exact⟨e,by rw[List.getElem?_append_left (by omega)];exact h1,h2⟩
 .rw[List.getElem?_append_right (by omega)]at hj
  obtain⟨e,h1,h2⟩:=h' _ z hj;exact⟨e,by rw[List.getElem?_append_right (by omega),hl];exact h1,h2⟩
def aBj{ts:List Ty}{cs:List PV}(h:NX U ts cs)(o n:Nat):NX U ((ts.drop o).take n) ((cs.drop o).take n):=λj z hj=>by
 rw[List.getElem?_take]at hj⊢;split at hj
 .rename_i hjn;rw[List.getElem?_drop]at hj⊢;rw[bI hjn];exact h _ z hj
 .cases hj
def Di{ts:List Ty}{cs:List PV}(h:cs.all gd=true):NX U ts cs:=λj z hj=>by
 have:=bJ.1 h _ (List.mem_of_getElem? hj);simp[gd]at this
def aJI(ts:List Ty):NX U ts []:=λj z hj=>by simp at hj
variable(hU:iE U)
include hU
def zQ(t:Ty):(jI U t).length=dC U t:=by
 cases t with
 |rc n=>exact hU.ltl n
 |_=>rfl
omit hU in
def HR(ts us:List Ty):eP U (ts++us)=eP U ts+eP U us:=by
 induction ts with
 |nil=>simp[eP]
 |cons t ts ih=>simp only[aY,eP,ih,Nat.add_assoc]
def vI(l:List (V U)):List PV:=l.flatMap λv=>(dD U v.t v.x).cells
omit hU in
def jK(v:V U)(l:List (V U)):vI (v::l)=(dD U v.t v.x).cells++vI l:=rfl
def Qi{l:List (V U)}{i:Nat}{v:V U}(h:l[i]?=some v):
    ((vI l).drop (eP U ((l.map λv=>v.t).take i))).take (dC U v.t)=(dD U v.t v.x).cells:=by
 induction l generalizing i with
 |nil=>simp at h
 |cons w l ih=>
  cases i with
  |zero=>
   simp only[aU,aA]at h;subst h;rw[jK,List.take_zero,eP,List.drop_zero];exact List.take_left' (iU hU _ _)
  |succ i=>
   rw[aT]at h;rw[jK,aO,List.take_succ_cons,eP];rw[<-ih h];congr 1;rw[<-List.drop_drop];congr 1;exact List.drop_left' (iU hU _ _)
def JP{ts:List Ty}{i:Nat}{t:Ty}(h:ts[i]?=some t):((ts.flatMap (jI U)).drop (eP U (ts.take i))).take (dC U t)=jI U t:=by
 induction ts generalizing i with
 |nil=>simp at h
 |cons w l ih=>
  cases i with
  |zero=>
   simp only[aU,aA]at h;subst h;rw[aN,List.take_zero,eP,List.drop_zero];exact List.take_left' (zQ hU _)
  |succ i=>
   rw[aT]at h;rw[aN,List.take_succ_cons,eP];rw[<-ih h];congr 1;rw[<-List.drop_drop];congr 1;exact List.drop_left' (zQ hU _)
def BO{n i:Nat}{x:U.D n}{v:V U}(h:(U.un n x)[i]?=some v):((U.en n x).drop (kF U n i)).take (dC U v.t)=(dD U v.t v.x).cells:=by
 rw[hU.en n x,kF,<-hU.ty n x];exact Qi hU h
def EK{n i:Nat}{x:U.D n}{v:V U}(h:(U.un n x)[i]?=some v):(U.fs n)[i]?=some v.t:=by
 rw[<-hU.ty n x,List.getElem?_map,h];rfl
def EL{n i:Nat}{t:Ty}(h:(U.fs n)[i]?=some t):((U.lt n).drop (kF U n i)).take (dC U t)=jI U t:=by
 rw[hU.lt n];exact JP hU h
structure SR(t:Ty)(x:Den U.D t)(cs:List PV):Prop where
 wk:wks cs=(dD U t x).cells
 z:NX U (jI U t) cs
def SR.len{t:Ty}{x:Den U.D t}{cs:List PV}(h:SR t x cs):cs.length=dC U t:=by
 rw[<-kB,h.wk,iU hU]
def SR.gd{t:Ty}{x:Den U.D t}{cs:List PV}(h:SR t x cs){c:PV}(hc:c∈cs):gd (PI.wk c)=true:=by
 have h1:=tR hU t x;rw[<-h.wk,mJ,List.all_map,bJ]at h1;exact h1 c hc
def SR.one{t:Ty}{x:Den U.D t}{cs:List PV}(h:SR t x cs):cs.all PV.one=true:=aM0 (by rw[h.wk];exact tR hU t x)
def SR.fld{n i:Nat}{x:U.D n}{cs:List PV}(h:SR (U:=U) (.rc n) x cs){v:V U}(hv:(U.un n x)[i]?=some v):SR v.t v.x ((cs.drop (kF U n i)).take (dC U v.t)):=by
 refine⟨?_,?_⟩
 .rw[Dl,Dm,h.wk];exact BO hU hv
 .have:=aBj h.z (kF U n i) (dC U v.t);rw[show jI U (.rc n)=U.lt n from rfl,EL hU (EK hU hv)]at this
  exact this
omit hU in
def VR.sr{t:Ty}{x:Den U.D t}{p:PV}(h:VR U t x p):SR t x p.cells:=by
 refine⟨?_,h.z⟩;have h1:=h.wk;cases t with
 |rc n=>obtain⟨cs,rfl,h2⟩:=Q6 h1;exact h2
 |int k=>rw[Q4 h1];rfl
 |bool=>rw[Q4 h1];rfl
 |str=>rw[HI h1];rfl
 |sl t=>
  have hg:gd (PI.wk p)=true:=by rw[h1];exact eR _ _
  rw[pB (sR hg),dD,oX (eR _ _),wks,wks,h1,dD]
def Ay(hT:rT P U T){id:TypeId}{t:Ty}(ht:T.T.ty id=some t){x:Den U.D t}{cs:List PV}{off:Nat}(h:SR t x ((cs.drop off).take (dC U t))):
    ∃p,qZ P id cs off=some p/\VR U t x p/\p.cells=(cs.drop off).take (dC U t)/\isAgg p=lU t:=by
 have hl:=h.len hU;unfold qZ;rw[hT.ag id t ht];cases hr:lU t with
 |true=>
  simp only[hT.sz id t ht,hl,Nat.beq_refl,aI];refine⟨_,rfl,⟨?_,h.z⟩,rfl,rfl⟩;cases t with
  |rc n=>simp only[PI.wk,h.wk];rfl
  |_=>cases hr
 |false=>
  simp only;have hs:dC U t=1:=by cases t<;>first|rfl|cases hr
  rw[hs]at h hl⊢;have bi:off<cs.length:=by
   rw[List.length_take,List.length_drop]at hl;omega
  have wu:(cs.drop off).take 1=[cs[off]]:=by
   rw[List.drop_eq_getElem_cons bi];rfl
  rw[wu]at h⊢;refine⟨cs[off],by rw[aV bi],?_,?_,?_⟩
  .have hg:=h.gd hU (List.mem_singleton.2 rfl);refine⟨?_,?_⟩
   .have h1:=h.wk;rw[wks,wks]at h1;cases t with
    |rc n=>cases hr
    |int k=>exact List.head_eq_of_cons_eq h1
    |bool=>exact List.head_eq_of_cons_eq h1
    |str=>exact List.head_eq_of_cons_eq h1
    |sl t=>rw[dD,oX (eR _ _)]at h1;exact List.head_eq_of_cons_eq h1
   .rw[pB (sR hg)];exact h.z
  .exact pB (sR (h.gd hU (List.mem_singleton.2 rfl)))
  .have:=sR (h.gd hU (List.mem_singleton.2 rfl));cases hc:cs[off]<;>first|rfl|exact(this _ hc).elim
def wN{p:List Nat}: ∀{v w:V U} {o:Nat} {cs:List PV},AP U p v=some (w,o)->SR v.t v.x cs->SR w.t w.x ((cs.drop o).take (dC U w.t))/\o+dC U w.t<=dC U v.t:=by
 induction p with
 |nil=>
  intro v w o cs h r;simp only[AP,aA,aB]at h;obtain⟨rfl,rfl⟩:=h;refine⟨?_,by omega⟩
  rw[List.drop_zero,List.take_of_length_le (by rw[r.len hU];exact aS _)]
  exact r
 |cons i p ih=>
  intro v w o cs h r;unfold AP at h;split at h
  .rename_i y hy;split at h
   .rename_i z hz;simp only[aA,aB]at h;obtain⟨h1,h2⟩:=h;obtain⟨t,x⟩:=v;unfold Ki at hy;split at hy
    .rename_i n x' heq;cases heq;have kg:AP U p y=some (w,z.2):=by rw[hz,<-h1]
     obtain⟨g1,g2⟩:=ih kg (r.fld hU hy);have ci:kF U n i+dC U y.t<=U.sz n:=by
      have hr:cs.length=U.sz n:=r.len hU;have:=(r.fld hU hy).len hU;rw[List.length_take,List.length_drop,hr]at this;have hp:=pZ hU y.t;omega
     have ho:o=kF U n i+z.2:=by rw[<-h2];rfl
     subst ho;refine⟨?_,?_⟩
     .rw[List.drop_take,List.drop_drop,List.take_take,Nat.min_eq_left (by omega)]at g1
      exact g1
     .show _<=U.sz n;omega
    .cases hy
   .cases h
  .cases h
end
end Go.TV
namespace Go.TV
open Go.AI Go.PI
section
variable{P:Program}{U:hY}{T:TP U.D}{c:Cx}{W:Type}{r:W}
def oL{N:Type}{a:Option N}{K:N->Option W}(h:ob a K=some r): ∃x,a=some x/\K x=some r:=by
 cases a with
 |none=>cases h
 |some x=>exact⟨x,rfl,h⟩
def fM{b:Bool}{K:Option W}(h:kV b K=some r):b=true/\K=some r:=by
 cases b with
 |false=>cases h
 |true=>exact⟨rfl,h⟩
def E1{b:Bool}{A B:Option W}(h:bS b A B=some r):(b=true/\A=some r)∨(b=false/\B=some r):=by
 cases b with
 |false=>exact .inr ⟨rfl,h⟩
 |true=>exact .inl ⟨rfl,h⟩
def aN4(ts:List Ty)(x:Value):NX U ts (PV.v x).cells:=λj z hz=>by
 cases j<;>simp[PV.cells]at hz
def hJ(k:IntKind)(n:Int):VR U (.int k) n (.v (.int k n)):=⟨rfl,aN4 _ _⟩
def fI(b:Bool):VR U .bool b (.v (.bool b)):=⟨rfl,aN4 _ _⟩
def Fk(s:List UInt8):VR U .str s (.str s):=⟨rfl,λj z hz=>by cases j<;>simp[PV.cells]at hz⟩
def iQ{k:IntKind}{n:Int}{p:PV}(h:VR U (.int k) n p):p= .v (.int k n):=Q4 h.wk
def of_bool{b:Bool}{p:PV}(h:VR U .bool b p):p= .v (.bool b):=Q4 h.wk
def zN{s:List UInt8}{p:PV}(h:VR U .str s p):p= .str s:=HI h.wk
def Py{n:Nat}{x:U.D n}{p:PV}(h:VR U (.rc n) x p): ∃cs,p= .agg cs/\wks cs=U.en n x:=Q6 h.wk
def tF{t:Ty}{l:List (Den U.D t)}{p:PV}(h:VR U (.sl t) l p):oY (dC U t) p=some (l.map (dD U t))/\((l=[]/\(p= .emp∨p= .nil∨p= .sl (dC U t) []))∨(l≠ []/\p= .sl (dC U t) (l.map (dD U t)))):=by
 have hz: ∀z',p= .sl z' []->z'=dC U t:=λz' e=>by
  obtain⟨e',h1,h2⟩:=h.z 0 z' (by rw[e];rfl)
  simp only[jI,aU,aA,Ty.sl.injEq]at h1;rw[h2,<-h1]
 have hw:PI.wk p=eB (dC U t) (l.map (dD U t)):=h.wk;refine⟨aE8 hw hz,?_⟩;rcases aBp hw with⟨h1,h2⟩|⟨h1,h2⟩
 .refine .inl ⟨by simpa using h1,?_⟩
  rcases h2 with h2|h2|⟨z,h2⟩
  .exact .inl h2
  .exact .inr (.inl h2)
  .exact .inr (.inr (by rw[h2,hz z h2]))
 .exact .inr ⟨by simpa using h1,h2⟩
def yY(t:Ty)(l:List (Den U.D t)){z:Nat}{es:List PV}(hz:z=dC U t)(he:es=l.map (dD U t)):VR U (.sl t) l (eB z es):=by
 subst hz he;refine⟨aEN (eR _ _),λj z hj=>?_⟩
 rw[oX (eR _ _)]at hj;have:=eR (dC U t) (l.map (dD U t));cases j with
 |zero=>
  simp only[aU,aA]at hj;rw[hj]at this;simp[gd]at this
 |succ j=>simp at hj
def JC{op:BinOp}{t:TypeId}{x y:Operand}{u w:Value}(hu:bN u=true)(hw:bN w=true):lA P op t x y (.v u) (.v w)=(gV P op t x y u w).map Bo:=by
 have h1:=D4 hu;have h2:=D4 hw;simp only[lA,aBc,pY,hu,hw,aI,gV,h1,h2,Bool.and_self]
def eG(s:List UInt8):Value:= .string ⟨s.toArray⟩
def aDs{op:BinOp}{t:TypeId}{x y:Operand}{s u:List UInt8}:lA P op t x y (.str s) (.str u)=(gV P op t x y (eG s) (eG u)).map Bo:=by
 simp only[lA,aBc,pY,gV,eG,cK,bN,Bool.and_self,aI]
def bq(s u:List UInt8):(s==u)=decide (s=u):=by by_cases h:s=u<;>simp[h]
def aLm{op:BinOp}{t:TypeId}{x y:Operand}{k:IntKind}{a b:Int}{K:V U->Option W}(h:aEg U op k a b K=some r):
    ∃v w,K v=some r/\lA P op t x y (.v (.int k a)) (.v (.int k b))=some w/\VR U v.t v.x w:=by
 have go: ∀(v:V U) (w:Value),K v=some r->gV P op t x y (.int k a) (.int k b)=some w->VR U v.t v.x (Bo w)->∃v w,K v=some r/\lA P op t x y (.v (.int k a)) (.v (.int k b))=some w/\VR U v.t v.x w:=
  λv w hk ha hv=>⟨v,Bo w,hk,by rw[JC rfl rfl,ha];rfl,hv⟩
 cases op with
 |eql=>exact go _ _ h a6D (by rw[show(a==b)=decide (a=b) from rfl];exact fI _)
 |neq=>exact go _ _ h a6w (fI _)
 |lss=>exact go _ _ h a6z (fI _)
 |leq=>exact go _ _ h a6A (fI _)
 |gtr=>exact go _ _ h a6B (fI _)
 |geq=>exact go _ _ h a6C (fI _)
 |add=>exact go _ _ h a6G (hJ _ _)
 |sub=>exact go _ _ h a6r (hJ _ _)
 |mul=>exact go _ _ h a6y (hJ _ _)
 |quo=>
  obtain⟨hb,hk⟩:=fM h;exact go _ _ hk (a6v (by simpa using hb)) (hJ _ _)
 |rem=>
  obtain⟨hb,hk⟩:=fM h;exact go _ _ hk (a6u (by simpa using hb)) (hJ _ _)
 |and=>exact go _ _ h a6F (hJ _ _)
 |or=>exact go _ _ h bDG (hJ _ _)
 |xor=>exact go _ _ h a6q (hJ _ _)
 |andNot=>exact go _ _ h aDU (hJ _ _)
 |_=>cases h
def aSf{op:BinOp}{t:TypeId}{x y:Operand}{k j:IntKind}{a b:Int}{K:V U->Option W}(h:a4s U op k a b K=some r):
    ∃v w,K v=some r/\lA P op t x y (.v (.int k a)) (.v (.int j b))=some w/\VR U v.t v.x w:=by
 have go: ∀(v:V U) (w:Value),K v=some r->gV P op t x y (.int k a) (.int j b)=some w->VR U v.t v.x (Bo w)->∃v w,K v=some r/\lA P op t x y (.v (.int k a)) (.v (.int j b))=some w/\VR U v.t v.x w:=
  λv w hk ha hv=>⟨v,Bo w,hk,by rw[JC rfl rfl,ha];rfl,hv⟩
 cases op with
 |shl=>
  obtain⟨hb,hk⟩:=fM h;exact go _ _ hk (a6t (by simpa using hb)) (hJ _ _)
 |shr=>
  obtain⟨hb,hk⟩:=fM h;exact go _ _ hk (a6s (by simpa using hb)) (hJ _ _)
 |_=>cases h
def pG{op:BinOp}{t:TypeId}{x y:Operand}{s u:List UInt8}{v:Value}(h:cI P (Op.stringOp op ⟨s.toArray⟩ ⟨u.toArray⟩)=some v)(hv:cK v=true)(mz:op= .eql∨op= .neq∨op= .lss∨op= .leq∨op= .gtr∨op= .geq∨op= .add):
    gV P op t x y (eG s) (eG u)=some v:=by
 have e:cI P (do eqGuard op t x y (eG s) (eG u);binOp op t (eG s) (eG u))=some v:=by
  rcases mz with rfl|rfl|rfl|rfl|rfl|rfl|rfl<;>
   simp only[eG,bL,eqGuard,bD,Bool.not_false,Bool.false_eq_true,if_false,if_true,bQ,aL,binOp,h]
 unfold gV cQ;rw[show(cK (eG s)&&cK (eG u))=true from rfl,aI,e]
 simp only[hv,aI]
def aJ2{op:BinOp}{t:TypeId}{x y:Operand}{a b:List UInt8}{K:V U->Option W}(h:aBR U op a b K=some r):
    ∃v w,K v=some r/\lA P op t x y (.str a) (.str b)=some w/\VR U v.t v.x w:=by
 have go: ∀(v:V U) (w:Value),K v=some r->gV P op t x y (eG a) (eG b)=some w->VR U v.t v.x (Bo w)->∃v w,K v=some r/\lA P op t x y (.str a) (.str b)=some w/\VR U v.t v.x w:=
  λv w hk ha hv=>⟨v,Bo w,hk,by rw[aDs,ha];rfl,hv⟩
 have hl: ∀s:List UInt8,(⟨s.toArray⟩:ByteArray).toList=s:=λs=>by rw[ByteArray.toList_mk]
 cases op with
 |eql=>exact go _ _ h (pG (v:= .bool (decide (a=b))) (by simp only[Op.stringOp,hl,bq];rfl) rfl (by simp)) (fI _)
 |neq=>exact go _ _ h (pG (v:= .bool (!decide (a=b))) (by simp only[Op.stringOp,hl,bq];rfl) rfl (by simp)) (fI _)
 |lss=>exact go _ _ h (pG (v:= .bool (Op.bytesLess a b)) (by simp only[Op.stringOp,hl,bq];rfl) rfl (by simp)) (fI _)
 |leq=>exact go _ _ h (pG (v:= .bool (Op.bytesLess a b||decide (a=b))) (by simp only[Op.stringOp,hl,bq];rfl) rfl (by simp)) (fI _)
 |gtr=>exact go _ _ h (pG (v:= .bool (!(Op.bytesLess a b||decide (a=b)))) (by simp only[Op.stringOp,hl,bq];rfl) rfl (by simp)) (fI _)
 |geq=>exact go _ _ h (pG (v:= .bool (!Op.bytesLess a b)) (by simp only[Op.stringOp,hl,bq];rfl) rfl (by simp)) (fI _)
 |add=>
  obtain⟨hb,hk⟩:=fM h;rw[Nat.ble_eq]at hb;refine go _ _ hk (pG (v:= .string (⟨a.toArray⟩++⟨b.toArray⟩)) ?_ rfl (by simp)) ?_
  .simp only[Op.stringOp];rw[bH]
   .rfl
   .show¬((((⟨a.toArray⟩:ByteArray).data.size+(⟨b.toArray⟩:ByteArray).data.size:Nat):Int)>9223372036854775807);simp only[List.size_toArray];omega
  .show VR U .str _ (.str (((⟨a.toArray⟩:ByteArray)++⟨b.toArray⟩).data.toList));rw[ByteArray.data_append];simp only[Array.toList_append];exact Fk _
 |_=>cases h
def aMO(hU:iE U)(hT:rT P U T){op:BinOp}{t:TypeId}{x y:Operand}{a b:SV U.D}{p p':PV}{K:V U->Option W}(h:aAQ U op (T.T.ty t) a b K=some r)(ra:uC U c a p)(rb:uC U c b p'):
    ∃v w,K v=some r/\lA P op t x y p p'=some w/\VR U v.t v.x w:=by
 unfold aAQ at h;split at h
 .rename_i k n j m;rw[iQ ra,iQ rb];cases hs:Xr op with
  |true=>rw[hs]at h;exact aSf h
  |false=>
   rw[hs]at h;simp only[aJ]at h;cases hj:decide (k=j)with
   |false=>rw[hj]at h;cases h
   |true=>
    rw[hj]at h;have:=of_decide_eq_true hj;subst this;exact aLm h
 .rename_i n m;rw[of_bool ra,of_bool rb];split at h
  .rename_i _ ht;have hu:P.underlying t=some .bool:=hT.un t .bool ht;exact⟨_,_,h,by rw[JC rfl rfl,a6E hu];rfl,fI _⟩
  .rename_i _ ht;have hu:P.underlying t=some .bool:=hT.un t .bool ht;exact⟨_,_,h,by rw[JC rfl rfl,a6x hu];rfl,fI _⟩
  .cases h
 .rw[zN ra,zN rb];exact aJ2 h
 .rename_i n x1 m y1;split at h
  .rename_i i ht;split at h
   .rename_i f x2 y2 hf h1 h2;have e1:=oZ h1;have e2:=oZ h2;have ra':VR U (.rc i) x2 p:=by have:=ra;unfold uC at this;rw[e1]at this;exact this
    have rb':VR U (.rc i) y2 p':=by have:=rb;unfold uC at this;rw[e2]at this;exact this
    obtain⟨cs,rfl,hc⟩:=Py ra';obtain⟨ds,rfl,hd⟩:=Py rb';have ki: ∀{cs:List PV} {x:U.D i},wks cs=U.en i x->cs=U.en i x:=by
     intro cs x hx;have h3:=hU.eqc i f x hf;rw[<-hx]at h3;rw[<-hx];clear hx;induction cs with
     |nil=>rfl
     |cons c cs ih=>
      simp only[wks,aP,aC]at h3;rw[wks,<-ih h3.2];congr 1;have h4:=h3.1;cases hc:wk c<;>rw[hc]at h4<;>first|exact Q4 hc|exact HI hc|cases h4
    have he:=hT.eq t i f ht hf x2 y2 x y;rw[<-ki hc,<-ki hd]at he;split at h
    .exact⟨_,_,h,he.1,fI _⟩
    .exact⟨_,_,h,he.2,fI _⟩
    .cases h
   .cases h
  .cases h
 .rename_i e l;have hp:p'= .nil:=rb;subst hp;obtain⟨_,hl⟩:=tF ra;have key: ∀(op:BinOp),l.isEmpty=false->(∃e',T.T.ty t=some (.sl e'))->lA P op t x y p .nil=aWP op p:=by
   intro op bm ⟨e',ht⟩;obtain⟨fm,hu,_⟩:=hT.un t _ ht;rcases hl with⟨rfl,_⟩|⟨_,rfl⟩
   .cases bm
   .simp only[lA,aBc,pY,hu]
  have cy:l.isEmpty=false->∃z es,p= .sl z es:=λbm=>by
   rcases hl with⟨rfl,_⟩|⟨_,h1⟩
   .cases bm
   .exact⟨_,_,h1⟩
  split at h
  .rename_i ht;obtain⟨bm,hk⟩:=fM h;simp only[Bool.not_eq_true']at bm;obtain⟨z,es,rfl⟩:=cy bm;exact⟨_,_,hk,by rw[key _ bm ⟨_,ht⟩];rfl,fI _⟩
  .rename_i ht;obtain⟨bm,hk⟩:=fM h;simp only[Bool.not_eq_true']at bm;obtain⟨z,es,rfl⟩:=cy bm;exact⟨_,_,hk,by rw[key _ bm ⟨_,ht⟩];rfl,fI _⟩
  .cases h
 .cases h
end
end Go.TV
namespace Go.TV
open Go.AI Go.PI
section
variable{P:Program}{U:hY}{T:TP U.D}{c:Cx}{W:Type}{r:W}
def aRl{op:UnOp}{a:SV U.D}{p:PV}{K:V U->Option W}(h:a2U U op a K=some r)(ra:uC U c a p): ∃v w,K v=some r/\a5O P op p=some w/\VR U v.t v.x w:=by
 unfold a2U at h;split at h
 .rw[of_bool ra];exact⟨_,_,h,rfl,fI _⟩
 .rename_i k n;rw[iQ ra];refine⟨_,.v (.int k (k.wrap (0-n))),h,?_,hJ _ _⟩;cases k<;>rfl
 .cases h
def G4: ∀{l:List Int} {s:List UInt8},qI l=some s->jX (l.map λn=>PV.v (.int .u8 n))=some s
 |[],s,h=>by simp only[qI,aA]at h;subst h;rfl
 |n::l,s,h=>by
  unfold qI at h;split at h
  .rename_i s' hs;cases h;simp only[aO,jX,G4 hs,aK]
  .cases h
def aFs(hT:rT P U T){sq:Bool}{s d:TypeId}{a:SV U.D}{p:PV}{K:V U->Option W}(h:GW U sq (T.T.ty s) (T.T.ty d) a K=some r)(ra:uC U c a p):
    ∃v w,K v=some r/\VR U v.t v.x w/\(yM P s d p=some w∨(sq=true/\yM P s d p=none/\BB P s d p=some w)):=by
 unfold GW at h;split at h
 .rename_i k1 j k n hs hd;rw[iQ ra];have h1:P.underlying s=some (.int k1):=hT.un s _ hs;have h2:P.underlying d=some (.int j):=hT.un d _ hd;refine⟨_,.v (.int j (j.wrap n)),h,hJ _ _,.inl ?_⟩;have:=aXn (k:=k) (a:=n) h1 h2;simp only[aFU,bN,aI]at this;simp only[yM,pY,bN,aI,this];rfl
 .rename_i x hs hd;rw[zN ra];have h1:P.underlying s=some .string:=hT.un s _ hs;have h2:P.underlying d=some .string:=hT.un d _ hd;refine⟨_,.str x,h,Fk _,.inl ?_⟩;simp only[yM,pY,cQ,convert,bL,bT,h1,h2,aL,bQ,cK,aI];rfl
 .rename_i l hs hd;cases sq with
  |false=>cases h
  |true=>
   obtain⟨x,hx,hk⟩:=oL h;obtain⟨e,h1,he,_⟩:=hT.un s _ hs;have h2:P.underlying d=some .string:=hT.un d _ hd;have h3:P.underlying e=some (.int .u8):=hT.un e _ he;obtain⟨xk,hl⟩:=tF ra;refine⟨_,.str x,hk,Fk _,.inr ⟨rfl,?_,?_⟩⟩
   .have:pY p=none:=by
     rcases hl with⟨_,rfl|rfl|rfl⟩|⟨_,rfl⟩<;>rfl
    simp only[yM,this]
   .have gp:oY 1 p=some (l.map λn=>PV.v (.int .u8 n)):=xk
    simp only[BB,h1,h2,h3,gp,G4 hx,aK]
 .cases h
def aDp{w:Bool}{a b:X U}{p q:PV}{o1 o2:Bool}{K:X U->Option W}(h:Gz U w a b K=some r)(ra:qB U c a (p,o1))(rb:qB U c b (q,o2)):
    ∃x,K x=some r/\qB U c x (bif w then p else q,false):=by
 unfold Gz at h;split at h
 .rename_i t x u y ea eb;split at h
  .rename_i y' hy;have e:=oZ hy;have h1:=ra.1;have h2:=rb.1;rw[ea]at h1;rw[eb,e]at h2;refine⟨_,h,?_,bV _ _⟩;cases w with
   |true=>exact h1
   |false=>exact h2
  .cases h
 .rcases E1 h with⟨rfl,hk⟩|⟨rfl,hk⟩
  .exact⟨_,hk,vA ra⟩
  .exact⟨_,hk,vA rb⟩
def aLb(hT:rT P U T){t:TypeId}{x:SV U.D}{p:PV}{K:X U->Option W}(h:aAr U (T.T.ty t) x K=some r)(ra:uC U c x p):
    ∃y w,K y=some r/\CP P t p=some w/\qB U c y (w,false):=by
 unfold aAr at h;split at h
 .rename_i e e' l ht;cases he:e.beq e' with
  |false=>rw[he]at h;cases h
  |true=>
   rw[he]at h;obtain⟨fm,hu,_⟩:=hT.un t _ ht;obtain⟨_,hl⟩:=tF ra;refine⟨_,i64 (l.length:Int),h,?_,hJ _ _,bV _ _⟩;simp only[CP,hu];rcases hl with⟨rfl,rfl|rfl|rfl⟩|⟨_,rfl⟩<;>simp
 .rename_i l ht;have hu:P.underlying t=some .string:=hT.un t _ ht;rw[zN ra];refine⟨_,i64 (l.length:Int),h,?_,hJ _ _,bV _ _⟩;simp only[CP,hu]
 .rename_i e ht;have hp:p= .nil:=ra;subst hp;obtain⟨fm,hu,_⟩:=hT.un t _ ht;exact⟨_,i64 0,h,by simp only[CP,hu],hJ _ _,bV _ _⟩
 .cases h
def aDX{mx:Bool}{ts:Array TypeId}{ty:TypeId}{a b:SV U.D}{p q:PV}{K:X U->Option W}(h:aXs U mx a b K=some r)(ra:uC U c a p)(rb:uC U c b q):
    ∃y w,K y=some r/\oJ P mx ts ty [p,q]=some w/\qB U c y (w,false):=by
 unfold aXs at h;split at h
 .rename_i x y;rw[iQ ra,iQ rb];refine⟨_,_,h,?_,hJ _ _,bV _ _⟩;cases mx with
  |true=>
   simp only[oJ,Rd,pY,bN,aI,cQ,Builtin.max_,List.foldlM_cons,List.foldlM_nil,Builtin.max2,bL,bQ,aL,cK];by_cases me:x<y
   .simp[me];rfl
   .simp[me];rfl
  |false=>
   simp only[oJ,Rd,pY,bN,aI,aJ,cQ,Builtin.min_,List.foldlM_cons,List.foldlM_nil,Builtin.min2,bL,bQ,aL,cK];by_cases me:y<x
   .simp[me];rfl
   .simp[me];rfl
 .cases h
def oK{x:Option (SV U.D)}{y:Option PV}{i:Option Int}(h:aDx U x=some i)(hr: ∀a,x=some a->∃b,y=some b/\uC U c a b)(hn:x=none->y=none):
    (i=none/\y=none)∨∃n k,i=some n/\y=some (.v (.int k n)):=by
 unfold aDx at h;split at h
 .cases h;exact .inl ⟨rfl,hn rfl⟩
 .rename_i k n;cases h;obtain⟨b,h1,h2⟩:=hr _ rfl;exact .inr ⟨n,k,rfl,by rw[h1,iQ h2]⟩
 .cases h
def iP{S:TS U.D}{S':PS}(F:lW U c S S')(x:Option Operand):(∀a,(x.map λx=>(jJ U S x).1)=some a->∃b,x.map (cP S')=some b/\uC U c a b)/\((x.map λx=>(jJ U S x).1)=none->x.map (cP S')=none):=by
 cases x with
 |none=>exact⟨λa h=>(by cases h),λ_=>rfl⟩
 |some x=>exact⟨λa h=>by cases h;exact⟨_,rfl,(dB F x).1⟩,λh=>by cases h⟩
def DD{N:Type}{l s:List N}{lo hi:Int}(h:slc l lo hi=some s):0<=lo/\lo<=hi/\hi<=(l.length:Int)/\s=(l.take hi.toNat).drop lo.toNat:=by
 unfold slc at h;cases hb:decide (0<=lo)&&decide (lo<=hi)&&decide (hi<=(l.length:Int))with
 |false=>rw[hb]at h;cases h
 |true=>
  rw[hb]at h;simp only[aI,aA]at h;simp only[aC,aD]at hb;exact⟨hb.1.1,hb.1.2,hb.2,h.symm⟩
def P6(s:List UInt8)(l h:Nat):((⟨s.toArray⟩:ByteArray).extract l h).data.toList=(s.take h).drop l:=by
 rw[ByteArray.data_extract];simp only[Array.toList_extract,List.extract_eq_take_drop];rw[List.drop_take]
def aSa(hT:rT P U T){S:TS U.D}{S':PS}(F:lW U c S S'){p:PSt}{t:TypeId}{x:SV U.D}{a:PV}{lo hi mx:Option Operand}{K:X U->Option W}(h:a2Y U S (T.T.ty t) x lo hi mx K=some r)(ra:uC U c x a):
    ∃y w own,K y=some r/\kZ P p t a (lo.map (cP S')) (hi.map (cP S')) (mx.map (cP S'))=some (w,own)/\qB U c y (w,own):=by
 unfold a2Y at h;split at h
 .rename_i s l hh ht hl kr hm;have h1:=oK hl (iP F lo).1 (iP F lo).2;have h2:=oK kr (iP F hi).1 (iP F hi).2;have h3:=oK hm (iP F mx).1 (iP F mx).2;obtain⟨q,hq,hk⟩:=oL h;obtain⟨b1,b2,b3,rfl⟩:=DD hq;have hu:P.underlying t=some .string:=hT.un t _ ht;rw[zN ra];rcases h3 with⟨_,h3⟩|⟨_,_,h3,_⟩
  .refine⟨_,.str ((s.take (hh.getD (s.length:Int)).toNat).drop (l.getD 0).toNat),false,hk,?_,Fk _,bV _ _⟩;have key: ∀(lv hv:Option Value),(lv=none/\l=none∨∃n k,l=some n/\lv=some (.int k n))->(hv=none/\hh=none∨∃n k,hh=some n/\hv=some (.int k n))->
          cQ P (Instr.sliceAt t (.string ⟨s.toArray⟩) lv hv none)=some (.string ((⟨s.toArray⟩:ByteArray).extract (l.getD 0).toNat (hh.getD (s.length:Int)).toNat)):=by
    intro lv hv hlv hhv;have ci:(⟨s.toArray⟩:ByteArray).size=s.length:=by show s.toArray.size=_;simp
    have e:cI P (Instr.sliceBounds false s.length s.length lv hv none)=some ((l.getD 0).toNat,(hh.getD (s.length:Int)).toNat,s.length):=by
     rcases hlv with⟨rfl,rfl⟩|⟨n,k,rfl,rfl⟩<;>rcases hhv with⟨rfl,rfl⟩|⟨m,j,rfl,rfl⟩
     .simp[Instr.sliceBounds,bL,bQ]
     .simp only[Option.getD_none,Option.getD_some]at b1 b2 b3;simp[Instr.sliceBounds,Instr.sliceBound,asIntOf,bL,bQ,b2,b3]
     .simp only[Option.getD_none,Option.getD_some]at b1 b2 b3;simp[Instr.sliceBounds,Instr.sliceBound,asIntOf,bL,bQ,b1,b2]
     .simp only[Option.getD_some]at b1 b2 b3;have b0:0<=m:=by omega
      have b4:(m.toNat:Int)=m:=by omega
      simp[Instr.sliceBounds,Instr.sliceBound,asIntOf,bL,bQ,b0,b1,b2,b3,b4]
    simp only[cQ,Instr.sliceAt,Instr.slice,bL,bT,hu,aL,Option.isSome_none,Bool.false_eq_true,if_false,bQ,ci,e,cK,bN,aI]
   have hv1: ∃lv,RR (lo.map (cP S'))=some lv/\(lv=none/\l=none∨∃n k,l=some n/\lv=some (.int k n)):=by
    rcases h1 with⟨rfl,e⟩|⟨n,k,rfl,e⟩
    .exact⟨none,by rw[e];rfl,.inl ⟨rfl,rfl⟩⟩
    .exact⟨some (.int k n),by rw[e];rfl,.inr ⟨n,k,rfl,rfl⟩⟩
   have hv2: ∃hv,RR (hi.map (cP S'))=some hv/\(hv=none/\hh=none∨∃n k,hh=some n/\hv=some (.int k n)):=by
    rcases h2 with⟨rfl,e⟩|⟨n,k,rfl,e⟩
    .exact⟨none,by rw[e];rfl,.inl ⟨rfl,rfl⟩⟩
    .exact⟨some (.int k n),by rw[e];rfl,.inr ⟨n,k,rfl,rfl⟩⟩
   obtain⟨lv,e1,g1⟩:=hv1;obtain⟨hv,e2,g2⟩:=hv2;simp only[kZ,hu,e1,e2,h3,key lv hv g1 g2,aK,Bo,P6]
  .cases h3
 .rename_i e e' s l hh ht hl kr hm;have h1:=oK hl (iP F lo).1 (iP F lo).2;have h2:=oK kr (iP F hi).1 (iP F hi).2;have h3:=oK hm (iP F mx).1 (iP F mx).2;cases he:e.beq e' with
  |false=>rw[he]at h;cases h
  |true=>
   rw[he]at h;have:=Ty.beq_eq he;subst this;obtain⟨q,hq,hk⟩:=oL h;obtain⟨b1,b2,b3,rfl⟩:=DD hq;obtain⟨fm,hu,gz,_⟩:=hT.un t _ ht;have ci:=hT.sz fm e gz;have i1:nU (lo.map (cP S'))=some l:=by rcases h1 with⟨rfl,e⟩|⟨n,k,rfl,e⟩<;>rw[e]<;>rfl
   have i2:nU (hi.map (cP S'))=some hh:=by rcases h2 with⟨rfl,e⟩|⟨n,k,rfl,e⟩<;>rw[e]<;>rfl
   have i3:nU (mx.map (cP S'))=some none:=by rcases h3 with⟨_,e⟩|⟨n,k,e,_⟩;rw[e];rfl;cases e
   obtain⟨_,vw⟩:=tF ra;refine⟨_,eB (dC U e) (((s.map (dD U e)).take (hh.getD (s.length:Int)).toNat).drop (l.getD 0).toNat),false,hk,?_,yY _ _ rfl (by rw[List.map_drop,List.map_take]),bV _ _⟩
   rcases vw with⟨rfl,h4⟩|⟨_,rfl⟩
   .have b2:l.getD 0<=hh.getD 0:=b2;have b3:hh.getD 0<=0:=b3;have c1:(decide (0<=l.getD 0)&&decide (l.getD 0<=hh.getD 0)&&decide (hh.getD 0<=0))=true:=by
     simp only[aC,aD];exact⟨⟨b1,b2⟩,b3⟩
    rcases h4 with rfl|rfl|rfl
    .simp only[kZ,hu,ci,i1,i2,i3,c1,aI];simp[eB]
    .simp only[kZ,hu,ci,i1,i2,i3,c1,aI];simp[eB]
    .simp only[kZ,hu,ci,i1,i2,i3,Nat.beq_refl,Bool.true_and];rw[show(decide (0<=l.getD 0)&&decide (l.getD 0<=hh.getD ((([]:List PV).length:Nat):Int))&&decide (hh.getD ((([]:List PV).length:Nat):Int)<=((([]:List PV).length:Nat):Int)))=true from c1];simp[eB]
   .have c1:(Nat.beq (dC U e) (dC U e)&&decide (0<=l.getD 0)&&decide (l.getD 0<=hh.getD (s.length:Int))&&decide (hh.getD (s.length:Int)<=(s.length:Int)))=true:=by
     simp only[Nat.beq_refl,Bool.true_and,aC,aD];exact⟨⟨b1,b2⟩,b3⟩
    simp only[kZ,hu,ci,i1,i2,i3,List.length_map];rw[c1];rfl
 .rename_i e e' s l hh m ht hl kr hm;have h1:=oK hl (iP F lo).1 (iP F lo).2;have h2:=oK kr (iP F hi).1 (iP F hi).2;have h3:=oK hm (iP F mx).1 (iP F mx).2;cases he:e.beq e' with
  |false=>rw[he]at h;cases h
  |true=>
   rw[he]at h;have:=Ty.beq_eq he;subst this;rw[aI]at h;obtain⟨fm,hu,gz,_⟩:=hT.un t _ ht;have ci:=hT.sz fm e gz;have i1:nU (lo.map (cP S'))=some l:=by rcases h1 with⟨rfl,e⟩|⟨n,k,rfl,e⟩<;>rw[e]<;>rfl
   have i2:nU (hi.map (cP S'))=some (some hh):=by rcases h2 with⟨e,_⟩|⟨n,k,e0,e⟩;cases e;rw[e];cases e0;rfl
   have i3:nU (mx.map (cP S'))=some (some m):=by rcases h3 with⟨e,_⟩|⟨n,k,e0,e⟩;cases e;rw[e];cases e0;rfl
   obtain⟨_,vw⟩:=tF ra;cases hk0:a7o mx with
   |true=>
    rw[hk0,aI]at h;have hc:=(fM h).1
    replace h:=(fM h).2
    simp only[aC,aD,List.isEmpty_iff]at hc;obtain⟨⟨⟨rfl,hl0⟩,rfl⟩,rfl⟩:=hc;refine⟨_,.emp,true,h,?_,yY (U:=U) e [] (es:=[]) rfl rfl,?_⟩
    .rcases vw with⟨_,h4⟩|⟨h4,_⟩
     .rcases h4 with rfl|rfl|rfl
      all_goals simp[kZ,hu,ci,i1,i2,i3,hl0]
     .exact absurd rfl h4
    .intro o s' vu;simp only[List.mem_singleton,aB]at vu;exact .inr ⟨vu.1,rfl,rfl,λ_=>rfl⟩
   |false=>
   rw[hk0,aJ]at h;obtain⟨hc,h⟩:=fM h;simp only[aC,aD]at hc;obtain⟨q,hq,hk⟩:=oL h;obtain⟨b1,b2,b3,rfl⟩:=DD hq;rcases vw with⟨rfl,_⟩|⟨_,rfl⟩
   .simp only[aX]at b3;omega
   .refine⟨_,eB (dC U e) (((s.map (dD U e)).take hh.toNat).drop (l.getD 0).toNat),true,hk,?_,yY _ _ rfl (by rw[List.map_drop,List.map_take]),?_⟩
    .have c1:(Nat.beq (dC U e) (dC U e)&&decide (0<=l.getD 0)&&decide (l.getD 0<(some hh).getD (s.length:Int))&&decide ((some hh).getD (s.length:Int)<=(s.length:Int))&&(some hh).isSome&&decide ((some hh).getD (s.length:Int)=m))=true:=by
      simp only[Nat.beq_refl,Bool.true_and,aC,aD,Option.getD_some,Option.isSome_some,and_true];exact⟨⟨⟨b1,hc.2⟩,b3⟩,hc.1⟩
     simp only[kZ,hu,ci,i1,i2,i3,List.length_map];rw[c1];rfl
    .intro o s' vu;simp only[List.mem_singleton,aB]at vu;refine .inr ⟨vu.1,?_,rfl,λ_=>?_⟩
     .have:=eR (dC U e) (((s.map (dD U e)).take hh.toNat).drop (l.getD 0).toNat);cases hc:eB (dC U e) (((s.map (dD U e)).take hh.toNat).drop (l.getD 0).toNat)<;>first|rfl|(rw[hc]at this;cases this)
     .exact BL (eR _ _)
 .cases h
end
end Go.TV
namespace Go.TV
open Go.AI Go.PI
section
variable{P:Program}{U:hY}{T:TP U.D}{c:Cx}{W:Type}{r:W}(hU:iE U)(hT:rT P U T)
def JN{o n:Nat}: ∀{rs:jD} {x:Nat×Bool},x∈Qb o n rs->(x.1+o,x.2)∈rs/\x.1<n
 |[],x,h=>by cases h
 |y::rs,x,h=>by
  unfold Qb at h;cases hb:Nat.ble o y.1&&Nat.blt y.1 (o+n)with
  |false=>
   rw[hb]at h;obtain⟨h1,h2⟩:=JN h;exact⟨aG _ h1,h2⟩
  |true=>
   rw[hb]at h;simp only[aC,Nat.ble_eq,gW,aD]at hb;rcases List.mem_cons.1 h with rfl|h
   .refine⟨?_,by simp only;omega⟩
    have:y.1-o+o=y.1:=by omega
    simp only[this];exact aH ..
   .obtain⟨h1,h2⟩:=JN h;exact⟨aG _ h1,h2⟩
def DA{id:TypeId}{n f:Nat}{w:Ty}(hT:rT P U T)(ht:OE T.T id=some (.rc n))(hw:(U.fs n)[f]?=some w):
    ∃fs fd,P.underlying id=some (.struct fs)/\fs[f]?=some fd/\T.T.ty fd.type=some w/\fd.offset=kF U n f:=by
 obtain⟨ht,ha⟩:=ZK ht;obtain⟨fs,hu,ci,hf⟩:=hT.un id _ ht ha;have bi:f<(U.fs n).length:=by
  rcases Nat.lt_or_ge f (U.fs n).length with h|h
  .exact h
  .rw[List.getElem?_eq_none h]at hw;cases hw
 have gn:f<fs.size:=by rw[ci];exact bi
 have xi:fs[f]?=some fs[f]:=Array.getElem?_eq_getElem gn;obtain⟨h1,h2⟩:=hf f _ xi;exact⟨fs,fs[f],hu,xi,by rw[h1,hw],h2⟩
def aCh{rs:jD}{cs:List PV}{o n:Nat}{ow:Bool}{q:PV}(h:aBf rs (.agg cs) ow)(hq:q.cells=(cs.drop o).take n):aBf (Qb o n rs) q false:=λi s hi=>by
 obtain⟨h1,h2⟩:=JN hi;rcases h _ _ h1 with⟨_,h3⟩|⟨_,h3,_⟩
 .have h4:q.cells[i]?=some .nil:=by
   rw[hq,List.getElem?_take,bI h2,List.getElem?_drop,Nat.add_comm];exact h3
  cases jj:isAgg q with
  |true=>exact .inl ⟨rfl,h4⟩
  |false=>
   have:q.cells=[q]:=pB λds e=>by rw[e]at jj;cases jj
   rw[this]at h4;cases i with
   |zero=>
    simp only[aU,aA]at h4;subst h4;exact .inr ⟨rfl,rfl,rfl,λ_=>rfl⟩
   |succ i=>simp at h4
 .cases h3
include hU hT
def aEZ{t:TypeId}{n f:Nat}{v w:V U}{rs:jD}{p:PV}{ow:Bool}(ht:OE T.T t=some (.rc n))(hv:v.t.beq (.rc n)=true)(hw:Ki U v f=some w)(ra:qB U c (.val v,rs) (p,ow)):
    ∃q,D6 P t p f=some q/\qB U c (.val w,Qb (kF U n f) (dC U w.t) rs) (q,false):=by
 obtain⟨t',x⟩:=v;have:=Ty.beq_eq hv;subst this;obtain⟨cs,rfl,hcs⟩:=Py ra.1;have hsr:SR (U:=U) (.rc n) x cs:=(VR.sr ra.1);have vh:(U.un n x)[f]?=some w:=hw;obtain⟨fs,fd,hu,xi,fu,jz⟩:=DA hT ht (EK hU vh);obtain⟨q,h1,h2,h3,h4⟩:=Ay hU hT fu (hsr.fld hU vh);refine⟨q,?_,h2,aCh ra.2 h3⟩;simp only[D6,hu,xi,jz];exact h1
def qH{t:TypeId}{n f:Nat}(ht:OE T.T t=some (.rc n))(hf:f<(U.fs n).length):
    (∀id off,iF P t (.ptr id off) f=some (.ptr id (off+kF U n f)))/\(∀es i off,iF P t (.pin es i off) f=some (.pin es i (off+kF U n f))):=by
 obtain⟨w,hw⟩: ∃w,(U.fs n)[f]?=some w:=⟨_,aV hf⟩;obtain⟨fs,fd,hu,xi,fu,jz⟩:=DA hT ht hw;have hz:Nat.beq (dC U w) 0=false:=by
  rw[cR,bC];have:=pZ hU w;omega
 constructor
 .intro id off;simp only[iF,hu,xi,hT.sz _ _ fu,hz,aJ,jz]
 .intro es i off;simp only[iF,hu,xi,hT.sz _ _ fu,hz,aJ,jz]
def Km{t:TypeId}{n f:Nat}{v w:V U}{p:PV}(ht:OE T.T t=some (.rc n))(hv:v.t.beq (.rc n)=true)(hw:Ki U v f=some w)(ra:uC U c (.ep v) p):
    ∃q,iF P t p f=some q/\uC U c (.ep w) q:=by
 obtain⟨es,i,off,e,rfl,he,hcs⟩:=ra;obtain⟨t',x⟩:=v;have:=Ty.beq_eq hv;subst this;have vh:(U.un n x)[f]?=some w:=hw;have bi:f<(U.fs n).length:=by
  have:=EK hU vh;rcases Nat.lt_or_ge f (U.fs n).length with h|h
  .exact h
  .rw[List.getElem?_eq_none h]at this;cases this
 refine⟨_,(qH hU hT ht bi).2 _ _ _,_,_,_,_,rfl,he,?_⟩;have hfc:=BO hU vh;have xn:(e.cells.drop off).take (U.sz n)=U.en n x:=hcs;rw[<-hfc,<-xn];have hle:kF U n f+dC U w.t<=U.sz n:=by
  have h1:((U.en n x).drop (kF U n f)).take (dC U w.t)=(dD U w.t w.x).cells:=hfc;have h2:=congrArg List.length h1;rw[List.length_take,List.length_drop,hU.len,iU hU]at h2;have:=pZ hU w.t;omega
 rw[List.drop_take,List.drop_drop,List.take_take,Nat.min_eq_left (by omega)]
omit hU hT in
def zE(te:Ty): ∀j:Nat,eP U (List.replicate j te)=j*dC U te
 |0=>by simp[eP]
 |j+1=>by
  rw[List.replicate_succ,Nat.succ_mul];simp only[eP];rw[zE te j];omega
def JX{t:TypeId}{n j:Nat}{v w:V U}{p:PV}{k:IntKind}(ht:T.T.ty t=some (.rc n))(ha:T.T.arr t=true)(hv:v.t.beq (.rc n)=true)(hw:Ki U v j=some w)(ra:uC U c (.ep v) p):
    ∃q,gD P t p (.v (.int k (j:Int)))=some q/\uC U c (.ep w) q:=by
 obtain⟨es,i,off,e,rfl,he,hcs⟩:=ra;obtain⟨t',x⟩:=v;have:=Ty.beq_eq hv;subst this;have vh:(U.un n x)[j]?=some w:=hw;have bi:j<(U.fs n).length:=by
  have:=EK hU vh;rcases Nat.lt_or_ge j (U.fs n).length with h|h
  .exact h
  .rw[List.getElem?_eq_none h]at this;cases this
 obtain⟨len,el,te,hu,hz,hf⟩:=hT.arr t n ht ha;have hj:j<len:=by rw[hf,List.length_replicate]at bi;exact bi
 have hin:cV (j:Int) len=true:=by simp only[cV,aC,aD];omega
 have ho:kF U n j=j*dC U te:=by rw[kF,hf,List.take_replicate,Nat.min_eq_left (by omega)];exact zE _ _
 refine⟨.pin es i (off+Int.toNat (j:Int)*dC U te),by simp only[gD,hu,hz,hin,aI],_,_,_,_,rfl,he,?_⟩
 have hfc:=BO hU vh;have xn:(e.cells.drop off).take (U.sz n)=U.en n x:=hcs;rw[<-hfc,<-xn];have hle:kF U n j+dC U w.t<=U.sz n:=by
  have h1:((U.en n x).drop (kF U n j)).take (dC U w.t)=(dD U w.t w.x).cells:=hfc;have h2:=congrArg List.length h1;rw[List.length_take,List.length_drop,hU.len,iU hU]at h2;have:=pZ hU w.t;omega
 rw[List.drop_take,List.drop_drop,List.take_take,Nat.min_eq_left (by omega),Int.toNat_natCast,ho]
omit hU hT in
def AO{N:Type}{l:List N}{n:Int}{y:N}(h:dE l n=some y):0<=n/\l[n.toNat]?=some y/\n.toNat<l.length:=by
 unfold dE at h;cases hb:decide (0<=n)with
 |false=>rw[hb]at h;cases h
 |true=>
  rw[hb]at h;refine⟨of_decide_eq_true hb,h,?_⟩;rcases Nat.lt_or_ge n.toNat l.length with h1|h1
  .exact h1
  .rw[aI,List.getElem?_eq_none h1]at h;cases h
def JW{t:TypeId}{e e':Ty}{l:List (Den U.D e')}{y:Den U.D e'}{k:IntKind}{n:Int}{p:PV}(ht:T.T.ty t=some (.sl e))(he:e.beq e'=true)(hy:dE l n=some y)(ra:uC U c (.val ⟨.sl e',l⟩) p):
    ∃q,gD P t p (.v (.int k n))=some q/\uC U c (.ep ⟨e',y⟩) q:=by
 have:=Ty.beq_eq he;subst this;obtain⟨h0,h1,h2⟩:=AO hy;obtain⟨fm,hu,gz,_⟩:=hT.un t _ ht;obtain⟨_,hl⟩:=tF ra;rcases hl with⟨hl,_⟩|⟨_,rfl⟩
 .have hl:l=[]:=hl;subst hl;simp at h2
 .refine⟨.pin (l.map (dD U e)) n.toNat 0,?_,_,_,_,_,rfl,by rw[List.getElem?_map,h1];rfl,?_⟩
  .have c1:(Nat.beq (dC U e) (dC U e)&&cV n (l.map (dD U e)).length)=true:=by
    simp only[Nat.beq_refl,Bool.true_and,cV,List.length_map,aC,aD];exact⟨h0,by omega⟩
   simp only[gD,hu,hT.sz _ _ gz,c1,aI]
  .rw[List.drop_zero,List.take_of_length_le (by rw[iU hU];exact aS _)]
omit hU in
def aEh{t:TypeId}{s:List UInt8}{b:UInt8}{k:IntKind}{n:Int}{p:PV}(ht:T.T.ty t=some .str)(hy:dE s n=some b)(ra:uC U c (.val ⟨.str,s⟩) p):
    BA P t p (.v (.int k n))=some (.v (.int .u8 (b.toNat:Int))):=by
 obtain⟨h0,h1,h2⟩:=AO hy;have hu:P.underlying t=some .string:=hT.un t _ ht;rw[zN ra];have ci:(⟨s.toArray⟩:ByteArray)[n.toNat]?=some b:=by
  have h3:s[n.toNat]'h2=b:=by rw[aV h2]at h1;exact Option.some.inj h1
  show(if h:n.toNat<(⟨s.toArray⟩:ByteArray).size then some _ else none)=_
  rw[dif_pos (show n.toNat<(⟨s.toArray⟩:ByteArray).size by show n.toNat<s.toArray.size;simpa using h2)]
  congr 1
 simp only[BA,hu,pY,bN,aI,cQ,Instr.index,asIntOf,bL,bQ,aL,bT,h0,if_true,ci,cK];rfl
end
end Go.TV
namespace Go.TV
open Go.AI Go.PI
section
variable{P:Program}{U:hY}{T:TP U.D}{c:Cx}{W:Type}{r:W}
def OY: ∀(x a b e:List PV),b.length=x.length->Bx (a++b++e) a.length x=a++x++e
 |[],a,b,e,h=>by
  have:b=[]:=List.length_eq_zero_iff.1 h;subst this;simp[Bx]
 |y::x,a,b,e,h=>by
  cases b with
  |nil=>simp at h
  |cons z b=>
   have h1:(a++(z::b)++e).set a.length y=(a++ [y])++b++e:=by
    rw[aQ,List.set_append_right _ _ (aS _)];simp
   have h2:=OY x (a++ [y]) b e (by simpa using h)
   rw[Bx,h1];simp only[aZ,aM,aX]at h2;rw[h2];simp
def ZZ: ∀(ss:List (List PV)) (i:Nat) (s x:List PV),ss[i]?=some s->s.length=x.length->Bx ss.flatten (ss.take i).flatten.length x=(ss.set i x).flatten:=by
 intro ss i s x h hl;have h1:i<ss.length:=by
  rcases Nat.lt_or_ge i ss.length with h1|h1
  .exact h1
  .rw[List.getElem?_eq_none h1]at h;cases h
 have hs:ss[i]=s:=by rw[aV h1]at h;exact Option.some.inj h
 have e1:ss.flatten=(ss.take i).flatten++s++(ss.drop (i+1)).flatten:=by
  have h3:ss=ss.take i++(ss[i]::ss.drop (i+1)):=by rw[<-List.drop_eq_getElem_cons h1,List.take_append_drop]
  conv=>lhs;rw[h3]
  rw[List.flatten_append,List.flatten_cons,hs,aQ]
 have e2:(ss.set i x).flatten=(ss.take i).flatten++x++(ss.drop (i+1)).flatten:=by
  rw[List.set_eq_take_append_cons_drop,bI h1,List.flatten_append,List.flatten_cons,aQ]
 rw[e1,e2];exact OY x _ s _ hl
def CN(U:hY):List (V U×Bool)->List (List PV)->Prop
 |[],[]=>True
 |y::l,s::ss=>(SR y.1.t y.1.x s/\(y.2=true->∀o b,(o,b)∈AD U y.1.t->s[o]?=some .nil))/\CN U l ss
 |_,_=>False
def OJ: ∀{l:List (V U×Bool)} {ss:List (List PV)} {i:Nat} {y:V U×Bool},CN U l ss->l[i]?=some y->∃s,ss[i]?=some s/\SR y.1.t y.1.x s
 |[],[],i,y,_,h=>by simp at h
 |z::l,s::ss,0,y,h,e=>by simp only[aU,aA]at e;subst e;exact⟨s,rfl,h.1.1⟩
 |z::l,s::ss,i+1,y,h,e=>by rw[aT]at e;obtain⟨s',h1,h2⟩:=OJ h.2 e;exact⟨s',by rw[aT];exact h1,h2⟩
 |[],_::_,_,_,h,_=>h.elim
 |_::_,[],_,_,h,_=>h.elim
def OI: ∀{l:List (V U×Bool)} {ss:List (List PV)} {i:Nat} {y:V U×Bool} {s:List PV},CN U l ss->(SR y.1.t y.1.x s/\(y.2=true->∀o b,(o,b)∈AD U y.1.t->s[o]?=some .nil))->CN U (setF U l i y) (ss.set i s)
 |[],[],i,y,s,h,_=>by simp[setF,CN]
 |z::l,s'::ss,0,y,s,h,e=>⟨e,h.2⟩
 |z::l,s'::ss,i+1,y,s,h,e=>⟨h.1,OI h.2 e⟩
 |[],_::_,_,_,_,h,_=>h.elim
 |_::_,[],_,_,_,h,_=>h.elim
def DF: ∀{l:List (V U×Bool)} {i:Nat} {y z:V U×Bool},l[i]?=some z->y.1.t=z.1.t->(setF U l i y).map (λx=>x.1.t)=l.map λx=>x.1.t
 |[],i,y,z,h,_=>by simp at h
 |w::l,0,y,z,h,e=>by simp only[aU,aA]at h;subst h;simp[setF,e]
 |w::l,i+1,y,z,h,e=>by rw[aT]at h;simp only[setF,aO,DF h e]
def WQ: ∀(ts:List Ty) (i o:Nat) (t:Ty),ts[i]?=some t->(aAf U ts o)[i]?=some (o+eP U (ts.take i),dC U t)
 |[],i,o,t,h=>by simp at h
 |u::ts,0,o,t,h=>by simp only[aU,aA]at h;subst h;simp[aAf,eP]
 |u::ts,i+1,o,t,h=>by
  rw[aT]at h;rw[aAf,aT,WQ ts i _ t h,List.take_succ_cons,eP,Nat.add_assoc]
variable(hU:iE U)(hT:rT P U T)
include hU
def Q0(t:Ty):wks (NW U t)=(dD U t (pO U t)).cells:=by
 cases t with
 |rc n=>exact hU.zc n
 |int k=>rfl
 |bool=>rfl
 |str=>rfl
 |sl t=>rfl
omit hU in
def aJH(ts:List Ty): ∀c∈ts.flatMap aJu,∀z es,c≠ .sl z es:=by
 intro c hc z es e;rw[List.mem_flatMap]at hc;obtain⟨t,_,h⟩:=hc;cases t<;>simp[aJu,e]at h
def Q1(t:Ty):SR t (pO U t) (NW U t):=⟨Q0 hU t,λj z hj=>(aJH _ _ (List.mem_of_getElem? hj) z [] rfl).elim⟩
def NV(t:Ty): ∀o b,(o,b)∈AD U t->(NW U t)[o]?=some .nil:=by
 intro o b h;cases t with
 |rc n=>
  have h1:=bJ.1 (hU.nz n) _ h;unfold aOy at h1;split at h1
  .rename_i e;exact e
  .cases h1
 |sl t=>
  simp only[AD,List.mem_singleton,aB]at h;rw[h.1];rfl
 |_=>cases h
def NU: ∀(ts:List Ty),CN U (Bp U ts) (ts.map (NW U))
 |[]=>trivial
 |t::ts=>⟨⟨Q1 hU t,λ_=>NV hU t⟩,NU ts⟩
omit hU in
def NS: ∀(ts:List Ty),(Bp U ts).map (λx=>x.1.t)=ts
 |[]=>rfl
 |t::ts=>by rw[Bp,aO,NS ts]
def YX(n:Nat):((U.fs n).map (NW U)).flatten=NW U (.rc n):=by
 show _=(U.lt n).flatMap aJu;rw[hU.lt n];induction U.fs n with
 |nil=>rfl
 |cons t ts ih=>rw[aO,List.flatten_cons,ih,aN,List.flatMap_append];rfl
def zG: ∀{l:List (V U×Bool)} {ss:List (List PV)},CN U l ss->∀i,((ss.take i).flatten).length=eP U ((l.map λx=>x.1.t).take i)
 |[],[],_,i=>by simp[eP]
 |y::l,s::ss,h,0=>by simp[eP]
 |y::l,s::ss,h,i+1=>by
  rw[List.take_succ_cons,List.flatten_cons,aZ,zG h.2 i,h.1.1.len hU,aO,List.take_succ_cons];rfl
 |[],_::_,h,_=>h.elim
 |_::_,[],h,_=>h.elim
def Qs{S:TS U.D}{S':PS}(F:lW U c S S'){ts:List Ty}{place:Nat->Option (Nat×Nat)}(hp: ∀i t,ts[i]?=some t->place i=some (eP U (ts.take i),dC U t)):
    ∀(parts:List (Nat×Operand)) (l l':List (V U×Bool)) (ss:List (List PV)),CN U l ss->l.map (λx=>x.1.t)=ts->aAO U S l parts=some l'->
      ∃ss',Aw place ss.flatten (parts.map λ(i,x)=>(i,cP S' x))=some ss'.flatten/\CN U l' ss'/\l'.map (λx=>x.1.t)=ts
 |[],l,l',ss,hs,ht,h=>by
  simp only[aAO,aA]at h;subst h;exact⟨ss,rfl,hs,ht⟩
 |(i,x)::rest,l,l',ss,hs,ht,h=>by
  unfold aAO at h;split at h
  .rename_i y hy;split at h
   .rename_i v hv;obtain⟨gw,lk⟩:=lK hU hv (dB F x).1;obtain⟨s,hsi,hsr⟩:=OJ hs hy;have hsr':=VR.sr lk;have hlen:s.length=(cP S' x).cells.length:=by rw[hsr.len hU,hsr'.len hU,gw]
    have hti:ts[i]?=some y.1.t:=by rw[<-ht,List.getElem?_map,hy];rfl
    have jz:(ss.take i).flatten.length=eP U (ts.take i):=by rw[zG hU hs,ht]
    have js:CN U (setF U l i (v,match(jJ U S x).1 with| .nl=>true|_=>false)) (ss.set i (cP S' x).cells):=by
     refine OI hs ⟨hsr',λhn o b ho=>?_⟩
     split at hn
     .rename_i e;have h1:=(dB F x).1;rw[e]at h1 hv;have hp:cP S' x= .nil:=h1;simp only[G6]at hv;split at hv
      .cases hv;simp only[AD,List.mem_singleton,aB]at ho;rw[hp,ho.1];rfl
      .cases hv
     .cases hn
    obtain⟨ss',g1,g2,g3⟩:=Qs F hp rest _ l' _ js (by rw[DF hy gw];exact ht) h
    refine⟨ss',?_,g2,g3⟩;rw[aO];simp only[Aw,hp i _ hti];have hle:eP U (ts.take i)+dC U y.1.t<=ss.flatten.length:=by
     have h1:=zG hU hs (i+1);have h2:(ss.take (i+1)).flatten.length<=ss.flatten.length:=by
      conv=>rhs;rw[<-List.take_append_drop (i+1) ss]
      rw[List.flatten_append,aZ];omega
     have h3:eP U (ts.take (i+1))=eP U (ts.take i)+dC U y.1.t:=by
      have bi:i<ts.length:=by
       rcases Nat.lt_or_ge i ts.length with h|h
       .exact h
       .rw[List.getElem?_eq_none h]at hti;cases hti
      rw[List.take_succ_eq_append_getElem bi,HR];have:ts[i]=y.1.t:=by rw[aV bi]at hti;exact Option.some.inj hti
      rw[this];simp[eP]
     rw[ht]at h1;omega
    have c1:(Nat.beq (cP S' x).cells.length (dC U y.1.t)&&Nat.ble (eP U (ts.take i)+dC U y.1.t) ss.flatten.length&&(cP S' x).cells.all PV.one)=true:=by
     rw[hsr'.one hU,<-hlen,hsr.len hU,Nat.beq_refl,Bool.true_and,bE,Nat.ble_eq];exact hle
    rw[c1,aI,<-jz,ZZ ss i s _ hsi hlen];exact g1
   .cases h
  .cases h
def aB0: ∀{l:List (V U×Bool)} {ss:List (List PV)},CN U l ss->wks ss.flatten=vI (aEP l)/\NX U ((l.map λx=>x.1.t).flatMap (jI U)) ss.flatten
 |[],[],_=>⟨rfl,aJI _⟩
 |y::l,s::ss,h=>by
  obtain⟨h1,h2⟩:=aB0 h.2;refine⟨?_,?_⟩
  .rw[List.flatten_cons,rW,h1,h.1.1.wk,aEP,jK]
  .rw[List.flatten_cons,aO,aN];exact Q3 (by rw[zQ hU,h.1.1.len hU]) h.1.1.z h2
 |[],_::_,h=>h.elim
 |_::_,[],h=>h.elim
omit hU in
def aDY{o:Nat}: ∀{rs:jD} {x:Nat×Bool},x∈a4t o rs->∃j,x.1=j+o/\(j,x.2)∈rs
 |[],x,h=>by cases h
 |y::rs,x,h=>by
  unfold a4t at h;rcases List.mem_cons.1 h with rfl|h
  .exact⟨y.1,rfl,aH ..⟩
  .obtain⟨j,h1,h2⟩:=aDY h;exact⟨j,h1,aG _ h2⟩
def V9: ∀{l:List (V U×Bool)} {ss:List (List PV)} {o:Nat},CN U l ss->∀i b,(i,b)∈aDR U l o->∃j,i=j+o/\ss.flatten[j]?=some .nil
 |[],[],o,_,i,b,h=>by cases h
 |y::l,s::ss,o,hs,i,b,h=>by
  unfold aDR at h;rcases List.mem_append.1 h with h1|h1
  .split at h1
   .rename_i hy;obtain⟨j,e1,e2⟩:=aDY h1;have:=hs.1.2 hy j b e2;have bi:j<s.length:=by
     rcases Nat.lt_or_ge j s.length with h2|h2
     .exact h2
     .rw[List.getElem?_eq_none h2]at this;cases this
    exact⟨j,e1,by rw[List.flatten_cons,List.getElem?_append_left bi];exact this⟩
   .cases h1
  .obtain⟨j,e1,e2⟩:=V9 hs.2 i b h1;refine⟨s.length+j,by rw[hs.1.1.len hU];omega,?_⟩
   rw[List.flatten_cons,List.getElem?_append_right (by omega),Nat.add_sub_cancel_left];exact e2
 |[],_::_,_,h,_,_,_=>h.elim
 |_::_,[],_,h,_,_,_=>h.elim
include hT
def aFE{S:TS U.D}{S':PS}(F:lW U c S S'){t:TypeId}{n:Nat}{parts:List (Nat×Operand)}{l:List (V U×Bool)}{x:U.D n}(ht:T.T.ty t=some (.rc n))(hl:aAO U S (Bp U (U.fs n)) parts=some l)(hx:U.of n (aEP l)=some x):
    ∃w,zL P t (parts.map λ(i,x)=>(i,cP S' x))=some w/\qB U c (.val ⟨.rc n,x⟩,aDR U l 0) (w,false):=by
 obtain⟨place,ww,hpb⟩: ∃place:Nat->Option (Nat×Nat),(∀i t',(U.fs n)[i]?=some t'->place i=some (eP U ((U.fs n).take i),dC U t'))/\∀ps,zL P t ps=(Aw place (NW U (.rc n)) ps).map .agg:=by
  cases xt:T.T.arr t with
  |false=>
   obtain⟨fs,pl,hu,dm,hpp⟩:=hT.bd t n ht xt;refine⟨λi=>pl[i]?,λi t' hi=>?_,λps=>by simp only[zL,hT.zc t _ ht,hu,dm]⟩
   have:=WQ (U:=U) (U.fs n) i 0 t' hi;rw[<-hpp,Array.getElem?_toList,Nat.zero_add]at this;exact this
  |true=>
   obtain⟨len,e,te,hu,hz,hf⟩:=hT.arr t n ht xt;refine⟨λi=>some (i*dC U te,dC U te),λi t' hi=>?_,λps=>by simp only[zL,hT.zc t _ ht,hu,hz]⟩
   rw[hf,List.getElem?_replicate]at hi;split at hi
   .rename_i hi2;obtain rfl:=Option.some.inj hi;rw[hf,List.take_replicate,Nat.min_eq_left (by omega),zE]
   .cases hi
 obtain⟨ss',g1,g2,g3⟩:=Qs hU F ww parts _ _ _ (NU hU (U.fs n)) (NS _) hl;rw[YX hU n]at g1;obtain⟨g4,g5⟩:=aB0 hU g2;have vj:=hU.un_of n _ x hx;refine⟨.agg ss'.flatten,?_,⟨?_,?_⟩,?_⟩
 .rw[hpb,g1,aK]
 .show PV.agg (wks ss'.flatten)= .agg (U.en n x);rw[g4,hU.en n x,vj];rfl
 .show NX U (U.lt n) ss'.flatten;rw[hU.lt n,<-g3];exact g5
 .intro i b hi;obtain⟨j,e1,e2⟩:=V9 hU g2 i b hi;exact .inl ⟨rfl,by rw[e1];exact e2⟩
omit hT hU in
def Q5{c:PV}(h:gd (wk c)=true):c.pur=true:=by
 cases c with
 |agg cs=>simp[wk,gd]at h
 |tup cs=>simp[wk,gd]at h
 |und=>simp[wk,gd]at h
 |_=>first|rfl|simp[wk,gd]at h
omit hT in
def uE{t:Ty}{x:Den U.D t}{p:PV}(h:VR U t x p):PI.shape (lU t) (dC U t) p=true:=by
 have hs:=VR.sr h;have hp: ∀c∈p.cells,c.pur=true:=λc hc=>Q5 (hs.gd hU hc)
 cases hr:lU t with
 |true=>
  cases t with
  |rc n=>
   obtain⟨cs,rfl,_⟩:=Py h;simp only[PI.shape,Bool.true_and,aC,cR,aD,bJ];exact⟨hs.len hU,hp⟩
  |_=>cases hr
 |false=>
  have ha:isAgg p=false:=oO (v:=⟨t,x⟩) h hr;have hc:p.cells=[p]:=pB λds e=>by rw[e]at ha;cases ha
  have hz:dC U t=1:=by cases t<;>first|rfl|cases hr
  have:=hp p (by rw[hc];exact List.mem_singleton.2 rfl)
  rw[hz];cases p<;>first|(cases ha;done)|simpa [PI.shape]using this
omit hU hT in
def OH{N:Type}: ∀(l:List N) (i:Nat) (x:N),aJ9 l i x=l.set i x
 |[],_,_=>by cases ‹Nat› <;>rfl
 |y::l,0,x=>rfl
 |y::l,i+1,x=>by rw[aJ9,OH l i x];rfl
omit hT in
def aFF{S:TS U.D}{S':PS}(F:lW U c S S'){e:Ty}: ∀(parts:List (Nat×Operand)) (l l':List (Den U.D e)),aAN U S e l parts=some l'->
    oP (lU e) (dC U e) (l.map (dD U e)) (parts.map λ(i,x)=>(i,cP S' x))=some (l'.map (dD U e))
 |[],l,l',h=>by simp only[aAN,aA]at h;subst h;rfl
 |(i,x)::rest,l,l',h=>by
  unfold aAN at h;split at h
  .rename_i v hv;split at h
   .rename_i w hw;cases hb:Nat.blt i l.length with
    |false=>rw[hb]at h;cases h
    |true=>
     rw[hb]at h;obtain⟨gw,lk⟩:=lK hU hv (dB F x).1;have e1:=oZ hw;have hvr':VR U e w (cP S' x):=by
      have:VR U (⟨v.t,v.x⟩:TV U.D).t (⟨v.t,v.x⟩:TV U.D).x (cP S' x):=lk;rw[e1]at this;exact this
     have g:=aFF F rest _ _ h;rw[aO];simp only[oP,List.length_map,hb,uE hU hvr',Bool.and_self,aI];rw[hvr'.wk,<-List.map_set,<-OH];exact g
   .cases h
  .cases h
omit hU hT in
def OU{N:Type}(f:N->PV)(x:N)(y:PV)(h:y=f x): ∀n,nO y n=(xY x n).map f
 |0=>rfl
 |n+1=>by rw[nO,xY,aO,OU f x y h n,h]
def Gi{S:TS U.D}{S':PS}(F:lW U c S S'){p:PSt}{o:Oper}{t:TypeId}{e:Ty}{len:Nat}{parts:Array (Nat×Operand)}{l:List (Den U.D e)}(ho:o.op= .buildSlice t len parts)(ht:T.T.ty t=some (.sl e))(hb:Nat.ble (len*dC U e) 1000000=true)(hl:aAN U S e (xY (pO U e) len) parts.toList=some l):
    ∃w,fB P p S' o=some (w,true,p)/\qB U c (.val ⟨.sl e,l⟩,[(0,true)]) (w,true):=by
 obtain⟨fm,hu,gz,_⟩:=hT.un t _ ht;refine⟨eB (dC U e) (l.map (dD U e)),?_,yY _ _ rfl rfl,?_⟩
 .have qp:(NW U e).length=dC U e:=(Q1 hU e).len hU;have c1:(Nat.ble (len*dC U e) 1000000&&Nat.beq (NW U e).length (dC U e)&&Nat.ble 1 (dC U e)&&(lU e||Nat.beq (dC U e) 1))=true:=by
   rw[hb,qp,Nat.beq_refl];have h1:Nat.ble 1 (dC U e)=true:=by rw[Nat.ble_eq];exact pZ hU e
   rw[h1];cases e<;>rfl
  have hz:wk (bif lU e then .agg (NW U e)else(NW U e).headD .und)=dD U e (pO U e):=by
   have:=Q0 hU e;cases e with
   |rc n=>simp only[lU,aI,wk,this];rfl
   |_=>rfl
  have hg:=aFF hU F parts.toList _ _ hl;rw[<-OU (dD U e) (pO U e) _ hz]at hg;simp only[fB,ho,hu,hT.sz _ _ gz,hT.ag _ _ gz,hT.zc _ _ gz,c1,aI,hg]
 .intro i s hi;simp only[List.mem_singleton,aB]at hi;refine .inr ⟨hi.1,?_,rfl,λ_=>BL (eR _ _)⟩
  have:=eR (dC U e) (l.map (dD U e));cases hc:eB (dC U e) (l.map (dD U e))<;>first|rfl|(rw[hc]at this;cases this)
end
end Go.TV
namespace Go.TV
open Go.AI Go.PI
section
variable{P:Program}{U:hY}{T:TP U.D}{c c0:Cx}{W:Type}{r:W}{q p:PSt}{M:TM U.D}
def aAR{k t:Nat}(h:k≠t):Nat.beq k t=false:=by rw[cR];exact bG h
def kH(m:List (Nat×BC U.D))(k j:Nat)(y:BC U.D):dG (qT m k y) j=if j=k then(dG m k).map λ_=>y else dG m j:=by
 induction m with
 |nil=>simp[dG,qT]
 |cons x m ih=>
  obtain⟨a,b⟩:=x;unfold qT;by_cases h:a=k
  .subst h;simp only[Nat.beq_refl,aI];by_cases hj:j=a
   .subst hj;simp[dG]
   .have hja:Nat.beq a j=false:=aAR λe=>hj e.symm
    simp only[dG,hja,aJ,bH hj]
  .simp only[aAR h,aJ];by_cases hj:j=k
   .subst hj;have:=ih;rw[bI rfl]at this;simp only[dG,aAR h,aJ,if_true];exact this
   .rw[bH hj]at ih⊢;simp only[dG];cases Nat.beq a j with
    |true=>rfl
    |false=>exact ih
def gP(m:List (Nat×BC U.D))(k j:Nat)(y:BC U.D):dG ((k,y)::m) j=if j=k then some y else dG m j:=by
 by_cases h:j=k
 .subst h;simp[dG]
 .have:Nat.beq k j=false:=aAR λe=>h e.symm
  simp only[dG,this,aJ,bH h]
def xS{p p':PSt}{e:Ce}{b:BC U.D}(h:CY U c p e b)(hg: ∀id,e.id=some id->p'.get id=p.get id):CY U c p' e b:=by
 cases b with
 |bx s r=>obtain⟨id,cs,h1,h2,h3⟩:=h;exact⟨id,cs,h1,by rw[hg id h1];exact h2,h3⟩
 |row t l=>
  obtain⟨h1,h2,h3⟩:=h;refine⟨h1,h2,?_⟩;rcases h3 with h3|⟨id,h3,h4⟩
  .exact .inl h3
  .exact .inr ⟨id,h3,by rw[hg id h3];exact h4⟩
 |gone=>trivial
def aAJ{c c':Cx}(h:leC c c'){s:SV U.D}{cs:List (PV×Bool)}(r:zX U c s cs):zX U c' s cs:=by
 cases s with
 |cl f caps=>obtain⟨p,b,h1,h2⟩:=r;exact⟨p,b,h1,aBP h h2⟩
 |_=>exact r
def aFK{c c':Cx}(h:leC c c'){p:PSt}{e:Ce}{b:BC U.D}(r:CY U c p e b):CY U c' p e b:=by
 cases b with
 |bx s rs=>obtain⟨id,cs,h1,h2,h3,h4⟩:=r;exact⟨id,cs,h1,h2,aAJ h h3,h4⟩
 |row t l=>exact r
 |gone=>trivial
def MR.write(Mm:MR U q c0 c M p){k:Nat}{b b':BC U.D}{e:Ce}{id:Nat}{p':PSt}{w:List Nat}(hb:dG M.bx k=some b)(he:c k=some e)(hid:e.id=some id)
    (hn:p'.next=p.next) (hg: ∀j,j≠id->p'.get j=p.get j) (hd: ∀j,j∈p'.dirty↔j=id∨j∈p.dirty) (hw: ∀j,j∈p'.wr->j=id∨j∈p.wr) (hr:CY U c p' e b'):
    MR U q c0 c ⟨qT M.bx k b',w⟩ p' where
 dom j h:=by
  simp only[kH]at h;by_cases hj:j=k
  .rw[bI hj,hb]at h;cases h
  .rw[bH hj]at h;exact Mm.dom j h
 bx j y h:=by
  simp only[kH]at h;by_cases hj:j=k
  .subst hj;rw[bI rfl,hb]at h;simp only[aK,aA]at h;subst h;exact⟨e,he,hr⟩
  .rw[bH hj]at h;obtain⟨e',h1,h2⟩:=Mm.bx j y h;exact⟨e',h1,xS h2 λi hi=>hg i λei=>hj (Mm.inj j k e' e id h1 he (by rw[<-ei];exact hi) hid)⟩
 lt j e' i h1 h2:=by rw[hn];exact Mm.lt j e' i h1 h2
 inj:=Mm.inj
 next:=by rw[hn];exact Mm.next
 bor:=Mm.bor
 loc:=Mm.loc
 old i hi ho:=by
  rw[hg i λe1=>ho ((hd i).2 (.inl e1))]
  exact Mm.old i hi λh=>ho ((hd i).2 (.inr h))
 dirty i hi bi:=by
  rcases(hd i).1 hi with rfl|h
  .have hk:k<100:=by
    rcases Nat.lt_or_ge k 100 with h|h
    .exact h
    .have:=Mm.loc k e i he h hid;omega
   exact⟨k,e,Mm.bor k e he hk,hid⟩
  .exact Mm.dirty i h bi
 wr i hi:=by
  rcases hw i hi with rfl|h
  .refine⟨by rw[hn];exact Mm.lt k e i he hid,λbi=>?_⟩
   have hk:k<100:=by
    rcases Nat.lt_or_ge k 100 with h|h
    .exact h
    .have:=Mm.loc k e i he h hid;omega
   exact⟨k,e,Mm.bor k e he hk,hid⟩
  .rw[hn];exact Mm.wr i h
def MR.upd(Mm:MR U q c0 c M p){k:Nat}{b b':BC U.D}{e:Ce}{id:Nat}{o:kK}(hb:dG M.bx k=some b)(he:c k=some e)(hid:e.id=some id)(hr:CY U c (p.upd id o) e b'):
    MR U q c0 c ⟨qT M.bx k b',k::M.wr⟩ (p.upd id o)/\(WR U c M p->WR U c ⟨qT M.bx k b',k::M.wr⟩ (p.upd id o)):=by
 have bi:=Mm.lt k e id he hid;refine⟨Mm.write hb he hid rfl (λj hj=>by rw[lF bi,bH hj]) (λj=>mO) (λj hj=>mO.1 hj) hr,λhw i hi k' e' h1 h2=>?_⟩
 show(Nat.beq k k'||dY k' M.wr)=true;rcases mO.1 hi with rfl|h
 .rw[Mm.inj k k' e e' i he h1 hid h2,Nat.beq_refl,Bool.true_or]
 .rw[hw i h k' e' h1 h2,Bool.or_true]
def Gt: ∀{m:List (Nat×BC U.D)} {k:Nat} {b:BC U.D},dG m k=some b->qT m k b=m
 |[],k,b,h=>rfl
 |(a,x)::m,k,b,h=>by
  simp only[dG]at h;unfold qT;cases hb:Nat.beq a k with
  |true=>
   rw[hb]at h;simp only[aI,aA]at h;subst h;rw[<-aE hb];rfl
  |false=>rw[hb]at h;simp only[aJ]at h⊢;rw[Gt h]
def PU{p:PSt}{id:Nat}{o:kK}(h:id<p.next)(k:Nat):(p.mark id o).get k=if k=id then some o else p.get k:=by
 have:=lF (o:=o) h k;simp only[PSt.get,PSt.upd,PSt.mark]at this⊢;exact this
def MR.mark(Mm:MR U q c0 c M p){k:Nat}{b b':BC U.D}{e:Ce}{id:Nat}{o:kK}(hb:dG M.bx k=some b)(he:c k=some e)(hid:e.id=some id)(hr:CY U c (p.mark id o) e b'):
    MR U q c0 c ⟨qT M.bx k b',M.wr⟩ (p.mark id o)/\(WR U c M p->WR U c ⟨qT M.bx k b',M.wr⟩ (p.mark id o)):=by
 have bi:=Mm.lt k e id he hid;exact⟨Mm.write hb he hid rfl (λj hj=>by rw[PU bi,bH hj]) (λj=>mO) (λj hj=> .inr hj) hr,λhw=>hw⟩
def uX{o:Nat}: ∀{rs:jD},Ej o rs=true↔∃s,(o,s)∈rs
 |[]=>by simp[Ej]
 |x::rs=>by
  obtain⟨a,b⟩:=x;simp only[Ej,Bool.or_eq_true,cR,aD,uX (rs:=rs),List.mem_cons,aB];constructor
  .rintro(rfl|⟨s,h⟩)
   .exact⟨b,.inl ⟨rfl,rfl⟩⟩
   .exact⟨s,.inr h⟩
  .rintro⟨s,⟨rfl,_⟩|h⟩
   .exact .inl rfl
   .exact .inr ⟨s,h⟩
def Xn{o n:Nat}: ∀{rs:jD} {x:Nat×Bool},x∈aZU o n rs->x∈rs/\¬(o<=x.1/\x.1<o+n)
 |[],x,h=>by cases h
 |y::rs,x,h=>by
  unfold aZU at h;cases hb:Nat.ble o y.1&&Nat.blt y.1 (o+n)with
  |true=>
   rw[hb]at h;obtain⟨h1,h2⟩:=Xn h;exact⟨aG _ h1,h2⟩
  |false=>
   rw[hb]at h;rcases List.mem_cons.1 h with rfl|h
   .refine⟨aH ..,λ⟨h1,h2⟩=>?_⟩
    have:(Nat.ble o x.1&&Nat.blt x.1 (o+n))=true:=by
     simp only[aC,Nat.ble_eq,gW,aD];exact⟨h1,h2⟩
    rw[this]at hb;cases hb
   .obtain⟨h1,h2⟩:=Xn h;exact⟨aG _ h1,h2⟩
def uI(P:Program)(take:Bool)(p:PSt)(t:TypeId)(a:PV):Option (PV×Bool×PSt):=
 match jW P p t a with
 |some v=>bif take&&CS v then some (v,(fX p a).2,(fX p a).1)else some (v,false,p)
 |none=>none
variable(hU:iE U)(hT:rT P U T)
include hU
def SR.self(t:Ty)(x:Den U.D t):SR t x (dD U t x).cells:=⟨Kg (tR hU t x),Di (tR hU t x)⟩
def OT{t:Ty}{l:List (Den U.D t)}{i:Nat}{y:Den U.D t}(h:l[i]?=some y):(((l.map (dD U t)).flatMap PV.cells).drop (i*dC U t)).take (dC U t)=(dD U t y).cells:=by
 induction l generalizing i with
 |nil=>simp at h
 |cons x l ih=>
  cases i with
  |zero=>
   simp only[aU,aA]at h;subst h;rw[Nat.zero_mul,List.drop_zero,aO,aN];exact List.take_left' (iU hU _ _)
  |succ i=>
   rw[aT]at h;rw[aO,aN,<-ih h,Nat.succ_mul,Nat.add_comm];congr 1;rw[<-List.drop_drop];congr 1;exact List.drop_left' (iU hU _ _)
include hT
def aXS{take:Bool}{t:TypeId}{a:SV U.D}{p0:PV}{K:X U->TM U.D->Option W}(h:a27 U T.T take M t a K=some r)(ra:uC U c a p0)(Mm:MR U q c0 c M p):
    ∃x M' v own p',K x M'=some r/\uI P take p t p0=some (v,own,p')/\qB U c x (v,own)/\MR U q c0 c M' p'/\(WR U c M p->WR U c M' p'):=by
 unfold a27 at h;split at h
 ·
  rename_i v;obtain⟨es,i,off,e,rfl,he,hcs⟩:=ra;split at h
  .rename_i ty fu;cases hb:v.t.beq ty with
   |false=>rw[hb]at h;cases h
   |true=>
    rw[hb]at h;obtain⟨vt,vx⟩:=v;have:=Ty.beq_eq hb;subst this;obtain⟨w,h1,h2,_⟩:=Ay hU hT fu (cs:=e.cells) (off:=off) (x:=vx) (by rw[hcs];exact SR.self hU _ _)
    have hl:jW P p t (.pin es i off)=some w:=by simp only[jW,he];exact h1
    refine⟨_,_,w,false,p,h,?_,⟨h2,bV _ _⟩,Mm,λhw=>hw⟩
    simp only[uI,hl,fX];cases take&&CS w<;>rfl
  .cases h
 ·
  rename_i k off path;obtain⟨e,id,he,hid,rfl⟩:=ra;split at h
  .rename_i SH rs hf;obtain⟨e',gf,bv,cs,fb,bc,hcs,ll⟩:=Mm.bx k _ hf;rw[he]at gf;cases gf;rw[hid]at fb;cases fb;split at h
   ·
    rename_i cv;split at h
    .rename_i ty w o fu hp;cases hb:w.t.beq ty&&Nat.beq o off with
     |false=>rw[hb]at h;cases h
     |true=>
      rw[hb]at h;simp only[aI]at h;simp only[aC,cR,aD]at hb;obtain⟨mf,rfl⟩:=hb;obtain⟨wt,wx⟩:=w;have:=Ty.beq_eq mf;subst this;obtain⟨h1,h2,h3⟩:=hcs;have hsr:SR cv.t cv.x (cs.map (·.1)):=⟨h1,h2⟩;obtain⟨g1,g2⟩:=wN hU hp hsr;obtain⟨v,k1,k2,k3,k4⟩:=Ay hU hT fu g1;have hl:jW P p t (.ptr id o)=some v:=by simp only[jW,bc];exact k1
      have bi:=Mm.lt k e id he hid;have vp: ∀gj,(∀i s,(i,s)∈gj->(i,s)∈rs/\i≠o)->∀x b,cs[o]?=some (x,b)->CY U c (p.mark id (.box (cs.set o (x,false)))) e (.bx (.val cv) gj):=by
       intro gj dh x b hx;have vm:o<cs.length:=by
        rcases Nat.lt_or_ge o cs.length with h|h
        .exact h
        .rw[List.getElem?_eq_none h]at hx;cases hx
       have mo:(cs.set o (x,false)).map (·.1)=cs.map (·.1):=by
        rw[List.map_set];apply List.ext_getElem?;intro j;rw[List.getElem?_set];by_cases hj:o=j
        .subst hj;rw[List.length_map,bI rfl,bI vm,List.getElem?_map,hx];rfl
        .rw[bH hj]
       refine⟨id,_,hid,by rw[PU bi,bI rfl],⟨by rw[mo];exact h1,by rw[mo];exact h2,λy hy=>?_⟩,λi s hi=>?_⟩
       .rcases List.mem_or_eq_of_mem_set hy with hy|rfl
        .exact h3 y hy
        .exact h3 (x,b) (List.mem_of_getElem? hx)
       .obtain⟨m1,m2⟩:=dh i s hi;obtain⟨x',lj,ja⟩:=ll i s m1;exact⟨x',by rw[List.getElem?_set,bH (λe=>m2 e.symm)];exact lj,ja⟩
      have hisSl:Ct wt=true->CS v=true:=by
       intro hs;cases wt with
       |sl et=>
        have hv:v≠ .nil:=by
         intro hv;have hc:v.cells=[v]:=by rw[hv];rfl
         rw[k3]at hc;have hm:v∈cs.map (·.1):=List.mem_of_mem_drop (List.mem_of_mem_take (by rw[hc];exact List.mem_singleton.2 rfl))
         obtain⟨y,hy,e1⟩:=List.mem_map.1 hm;exact h3 y hy (by rw[e1];exact hv)
        obtain⟨_,cy⟩:=tF k2;rcases cy with⟨_,h4|h4|h4⟩|⟨_,h4⟩
        .rw[h4];rfl
        .exact(hv h4).elim
        .rw[h4];rfl
        .rw[h4];rfl
       |_=>cases hs
      have hslNo:Ct wt=false->CS v=false:=by
       intro hs;cases wt with
       |sl et=>cases hs
       |int k=>rw[iQ k2];rfl
       |bool=>rw[of_bool k2];rfl
       |str=>rw[zN k2];rfl
       |rc n=>obtain⟨de,hc,_⟩:=Py k2;rw[hc];rfl
      cases hc:take&&Ct wt&&Ej o rs with
      |true=>
       rw[hc]at h;simp only[aC]at hc;obtain⟨⟨rfl,cy⟩,hmr⟩:=hc;obtain⟨s,hs⟩:=uX.1 hmr;obtain⟨x,hx,_⟩:=ll o s hs;have hvx:v=x:=by
        have hwt1:lU wt=false:=by cases wt<;>first|rfl|cases cy
        have hc1:v.cells=[v]:=pB λds e=>by rw[e,hwt1]at k4;cases k4
        have hc2:(cs.map (·.1))[o]?=some x:=by rw[List.getElem?_map,hx];rfl
        have hc3:((cs.map (·.1)).drop o).take 1=[v]:=by
         have:dC U wt=1:=by cases wt<;>first|rfl|cases hwt1
         rw[this]at k3;rw[<-k3,hc1]
        have hc4:=congrArg (·[0]?) hc3;simp only[List.getElem?_take,List.getElem?_drop,aU]at hc4;rw[bI (by omega),Nat.add_zero,hc2]at hc4
        exact(Option.some.inj hc4).symm
       have rg:fX p (.ptr id o)=(p.mark id (.box (cs.set o (x,false))),true):=by simp only[fX,bc,hx]
       obtain⟨m1,m2⟩:=Mm.mark hf he hid (vp (aZU o 1 rs) (λi s hi=>by
        obtain⟨y1,y2⟩:=Xn hi;exact⟨y1,λe=>y2 ⟨by simp only;omega,by simp only;omega⟩⟩) x true hx)
       refine⟨_,_,v,true,_,h,?_,⟨k2,?_⟩,m1,m2⟩
       .simp only[uI,hl,hisSl cy,Bool.and_self,aI,rg]
       .intro i s' hi;obtain⟨y1,y2⟩:=JN hi;obtain⟨x',lj,ja⟩:=ll _ _ y1;have hi0:i=0:=by simp only at y2;omega
        subst hi0;simp only[Nat.zero_add]at lj;rw[hx]at lj;cases lj;refine .inr ⟨rfl,?_,rfl,λe1=>by rw[hvx];exact ja e1⟩
        rw[k4];cases wt<;>first|rfl|cases cy
      |false=>
       rw[hc]at h;simp only[aJ]at h;cases kj:take&&CS v with
       |false=>
        exact⟨_,_,v,false,p,h,by simp only[uI,hl,kj,aJ],⟨k2,bV _ _⟩,Mm,λhw=>hw⟩
       |true=>
        have hred:uI P take p t (.ptr id o)=some (v,(fX p (.ptr id o)).2,(fX p (.ptr id o)).1):=by simp only[uI,hl,kj,aI]
        simp only[aC]at kj;have cy:Ct wt=true:=by
         cases hh:Ct wt with
         |true=>rfl
         |false=>rw[hslNo hh]at kj;cases kj.2
        have hnm:Ej o rs=false:=by rw[kj.1,cy]at hc;simpa using hc
        refine⟨_,M,v,(fX p (.ptr id o)).2,(fX p (.ptr id o)).1,h,hred,⟨k2,bV _ _⟩,?_⟩;cases hx:cs[o]? with
        |none=>rw[show fX p (.ptr id o)=(p,false) by simp only[fX,bc,hx]];exact⟨Mm,λhw=>hw⟩
        |some y=>
         obtain⟨x,b⟩:=y;cases b with
         |false=>rw[show fX p (.ptr id o)=(p,false) by simp only[fX,bc,hx]];exact⟨Mm,λhw=>hw⟩
         |true=>
          rw[show fX p (.ptr id o)=(p.mark id (.box (cs.set o (x,false))),true) by simp only[fX,bc,hx]]
          have:=Mm.mark hf he hid (vp rs (λi s hi=>⟨hi,λe=>by
           rw[e]at hi;rw[uX.2 ⟨s,hi⟩]at hnm;cases hnm⟩) x true hx)
          rwa [Gt hf]at this
    .cases h
   ·
    rename_i f caps;obtain⟨pv,b,rfl,hpv⟩:=hcs;split at h
    .cases hb:T.T.fn t&&Nat.beq off 0 with
     |false=>rw[hb]at h;cases h
     |true=>
      rw[hb]at h;simp only[aC,cR,aD]at hb;obtain⟨fx,rfl⟩:=hb;obtain⟨ha,_,_⟩:=hT.fn t fx;have hl:jW P p t (.ptr id 0)=some pv:=by simp only[jW,bc,qZ,ha];rfl
      have hpv2:=hpv;obtain⟨ps,e1,_⟩:=hpv2;refine⟨_,_,pv,false,p,h,?_,⟨hpv,bV _ _⟩,Mm,λhw=>hw⟩
      have:CS pv=false:=by rw[e1];rfl
      simp only[uI,hl,this,Bool.and_false,aJ]
    .cases h
   .cases h
  .cases h
 ·
  rename_i k i off path;obtain⟨e,id,he,hid,hi0,hi1,rfl⟩:=ra;split at h
  .rename_i et l hf;obtain⟨e',gf,hn,hz,bh⟩:=Mm.bx k _ hf;rw[he]at gf;cases gf;rcases bh with⟨dn,_⟩|⟨bv,fb,bc⟩
   .rw[hid]at dn;cases dn
   .rw[hid]at fb;cases fb;obtain⟨y,hy,h⟩:=oL h;obtain⟨_,hy1,_⟩:=AO hy;split at h
    .rename_i ty w o fu hp;cases hb:w.t.beq ty&&Nat.beq o off with
     |false=>rw[hb]at h;cases h
     |true=>
      rw[hb]at h;simp only[aI]at h;simp only[aC,cR,aD]at hb;obtain⟨mf,rfl⟩:=hb;obtain⟨wt,wx⟩:=w;have:=Ty.beq_eq mf;subst this;obtain⟨g1,g2⟩:=wN hU hp (SR.self hU et y);have wu:=OT hU hy1;rw[<-wu,List.drop_take,List.drop_drop,List.take_take,Nat.min_eq_left (by simp only at g2⊢;omega)]at g1
      obtain⟨v,k1,k2,k3,k4⟩:=Ay hU hT fu g1;have hl:jW P p t (.ptr id (i.toNat*e.z+o))=some v:=by simp only[jW,bc,hz];exact k1
      refine⟨_,_,v,false,p,h,?_,⟨k2,bV _ _⟩,Mm,λhw=>hw⟩
      have rg:fX p (.ptr id (i.toNat*e.z+o))=(p,false):=by simp only[fX,bc]
      simp only[uI,hl,rg];cases take&&CS v<;>rfl
    .cases h
  .cases h
 .cases h
end
end Go.TV
namespace Go.TV
open Go.AI Go.PI
section
variable{P:Program}{U:hY}{T:TP U.D}{c c0:Cx}{W:Type}{r:W}{q p:PSt}{M:TM U.D}
def aBS{N:Type}(l s:List N)(o o' n m:Nat)(h1:o'+m<=n)(h2:o+n<=l.length):
    l.take (o+o')++s++l.drop (o+o'+m)=l.take o++(((l.drop o).take n).take o'++s++((l.drop o).take n).drop (o'+m))++l.drop (o+n):=by
 have e1:l.take (o+o')=l.take o++((l.drop o).take n).take o':=by
  rw[List.take_add,List.take_take,Nat.min_eq_left (by omega)]
 have e2:l.drop (o+o'+m)=((l.drop o).take n).drop (o'+m)++l.drop (o+n):=by
  rw[List.drop_take,List.drop_drop];have:l.drop (o+n)=(l.drop (o+(o'+m))).drop (n-(o'+m)):=by rw[List.drop_drop];congr 1;omega
  rw[this,List.take_append_drop,Nat.add_assoc]
 rw[e1,e2];simp only[aQ]
def Q2{ts:List Ty}{cs s:List PV}{o n:Nat}(h:NX U ts cs)(hs:NX U ((ts.drop o).take n) s)(hl:s.length=n)(hle:o+n<=cs.length):NX U ts (cs.take o++s++cs.drop (o+n)):=λj z hj=>by
 have bi:(cs.take o).length=o:=by rw[List.length_take];omega
 rw[aQ]at hj;by_cases h1:j<o
 .rw[List.getElem?_append_left (by omega),List.getElem?_take,bI h1]at hj
  exact h j z hj
 .rw[List.getElem?_append_right (by omega),bi]at hj
  by_cases h2:j-o<n
  .rw[List.getElem?_append_left (by omega)]at hj
   obtain⟨e,g1,g2⟩:=hs _ z hj;rw[List.getElem?_take,bI h2,List.getElem?_drop]at g1;exact⟨e,by rw[<-g1];congr 1;omega,g2⟩
  .rw[List.getElem?_append_right (by omega),List.getElem?_drop]at hj
   have:o+n+(j-o-s.length)=j:=by omega
   rw[this]at hj;exact h j z hj
variable(hU:iE U)(hT:rT P U T)
include hU
def SN{l:List (V U)}{i:Nat}{v w:V U}(h:l[i]?=some v)(ht:w.t=v.t):
    vI (l.set i w)=(vI l).take (eP U ((l.map λv=>v.t).take i))++(dD U w.t w.x).cells++(vI l).drop (eP U ((l.map λv=>v.t).take i)+dC U v.t):=by
 induction l generalizing i with
 |nil=>simp at h
 |cons x l ih=>
  cases i with
  |zero=>
   simp only[aU,aA]at h;subst h;rw[List.set_cons_zero,jK,jK,List.take_zero,eP,List.take_zero,aW,Nat.zero_add,List.drop_left' (iU hU _ _)]
  |succ i=>
   rw[aT]at h;rw[List.set_cons_succ,jK,jK,ih h,aO,List.take_succ_cons,eP,Nat.add_assoc];have hl:=iU hU x.t x.x;rw[<-hl,List.take_length_add_append,List.drop_length_add_append];simp only[aQ]
def V8{path:List Nat}: ∀{v w c' old:V U} {o:Nat} {cs s:List PV},ZO U path v w=some c'->AP U path v=some (old,o)->SR v.t v.x cs->SR w.t w.x s->
    c'.t=v.t/\w.t=old.t/\SR c'.t c'.x (cs.take o++s++cs.drop (o+dC U w.t)):=by
 induction path with
 |nil=>
  intro v w c' old o cs s h hp r rs;simp only[AP,aA,aB]at hp;obtain⟨rfl,rfl⟩:=hp;unfold ZO at h;cases hb:v.t.beq w.t with
  |false=>rw[hb]at h;cases h
  |true=>
   rw[hb]at h;simp only[aI,aA]at h;subst h;have:=Ty.beq_eq hb;refine⟨this.symm,this.symm,?_⟩;rw[List.take_zero,aW,Nat.zero_add,List.drop_eq_nil_of_le (by rw[r.len hU,this];exact aS _),bA]
   exact rs
 |cons i path ih=>
  intro v w c' old o cs s h hp r rs;obtain⟨vt,vx⟩:=v;unfold ZO at h;split at h
  .rename_i n x heq;cases heq;split at h
   .rename_i y hy;split at h
    .rename_i y' nt;split at h
     .rename_i z hz;cases h;unfold AP at hp;rw[show Ki U ⟨.rc n,x⟩ i=some y from hy]at hp
      simp only at hp;split at hp
      .rename_i r' ca;simp only[aA,aB]at hp;obtain⟨rfl,rfl⟩:=hp;have di:AP U path y=some (r'.1,r'.2):=by rw[ca]
       have hpart:=r.fld hU hy;obtain⟨g1,g2,g3⟩:=ih nt di hpart rs;obtain⟨g4,g5⟩:=wN hU di hpart;have vj:=hU.un_of n _ z hz;have fe:cs.length=U.sz n:=r.len hU;have dm:=hpart.len hU;rw[List.length_take,List.length_drop,fe]at dm;have hsp:=pZ hU y.t;have hle:kF U n i+dC U y.t<=cs.length:=by omega
       refine⟨rfl,g2,?_⟩;show SR (.rc n) z (cs.take (kF U n i+r'.2)++s++cs.drop (kF U n i+r'.2+dC U w.t));rw[aBS cs s (kF U n i) r'.2 (dC U y.t) (dC U w.t) (by rw[g2];exact g5) hle]
       refine⟨?_,?_⟩
       .rw[rW,rW,Dl,Dm,r.wk,g3.wk];show _=U.en n z;rw[hU.en n z,vj];have:=SN hU hy g1;rw[hU.ty n x]at this;show _=vI _;rw[this];show(U.en n x).take _++_++(U.en n x).drop _=_;rw[hU.en n x];rfl
       .refine Q2 r.z ?_ (by rw[g3.len hU,g1]) hle
        have h5:(((jI U (.rc n)).drop (kF U n i)).take (dC U y.t))=jI U y.t:=EL hU (EK hU hy);have h6:jI U y'.t=jI U y.t:=by rw[g1]
        rw[h5,<-h6];exact g3.z
      .cases hp
     .cases h
    .cases h
   .cases h
  .cases h
omit hU in
def aZR(x:PV)(b:Bool):(fl x b).1=match x with| .nil=> .emp|x=>x:=by cases x<;>rfl
omit hU in
def a8J(x:PV)(b:Bool):wk (fl x b).1=wk x:=by cases x<;>rfl
omit hU in
def zV(x:PV)(b:Bool):(fl x b).1≠ .nil:=by cases x<;>simp[fl]
omit hU in
def SR.fl{t:Ty}{x:Den U.D t}{cs:List PV}(h:SR t x cs)(b:Bool):SR t x ((cs.map λc=>fl c b).map (·.1)):=by
 refine⟨?_,λj z hj=>?_⟩
 .rw[<-h.wk,mJ,mJ,List.map_map,List.map_map];exact List.map_congr_left λc _=>a8J c b
 .rw[List.map_map,List.getElem?_map,aF]at hj;obtain⟨y,hy,e⟩:=hj;have nt:y= .sl z []:=by
   have e:(PI.fl y b).1= .sl z []:=e;rw[aZR]at e;split at e
   .cases e
   .exact e
  exact h.z j z (by rw[hy,nt])
omit hU in
def aCg{rs:jD}{t:Ty}{x:Den U.D t}{pv:PV}{ow:Bool}(h:aBf rs pv ow)(hv:VR U t x pv):bA3 rs (pv.cells.map λc=>fl c ow):=λo s hi=>by
 rcases h o s hi with⟨h1,h2⟩|⟨rfl,h1,h2,h3⟩
 .exact⟨.emp,by rw[List.getElem?_map,h2];rfl,λ_=>rfl⟩
 .have hc:pv.cells=[pv]:=pB λds e=>by rw[e]at h1;cases h1
  rw[hc];cases hn:kM pv with
  |true=>
   have:pv= .nil:=by cases pv<;>first|rfl|cases hn
   subst this;exact⟨.emp,rfl,λ_=>rfl⟩
  |false=>
   rw[hn,Bool.or_false]at h2;subst h2;refine⟨pv,?_,h3⟩;have:fl pv true=(pv,true):=by cases pv<;>first|rfl|cases hn
   simp[this]
def aR5(hT:rT P U T){t:TypeId}{a:SV U.D}{x:X U}{p0 p1:PV}{ow:Bool}{K:TM U.D->Option W}(h:stT U T.T M t a x K=some r)(ra:uC U c a p0)(rx:qB U c x (p1,ow))(Mm:MR U q c0 c M p):
    ∃M' p',K M'=some r/\oR P p t p0 p1 ow=some p'/\MR U q c0 c M' p'/\(WR U c M p->WR U c M' p'):=by
 unfold stT at h;split at h
 ·
  rename_i k off path;obtain⟨e,id,he,hid,rfl⟩:=ra;have bi:=Mm.lt k e id he hid;split at h
  .rename_i SH rs hf;obtain⟨e',gf,bv,cs,fb,bc,hcs,ll⟩:=Mm.bx k _ hf;rw[he]at gf;cases gf;rw[hid]at fb;cases fb;split at h
   .rename_i cv;split at h
    .rename_i ty w o fu hp;cases hb:w.t.beq ty&&Nat.beq o off with
     |false=>rw[hb]at h;cases h
     |true=>
      rw[hb]at h;simp only[aI]at h;simp only[aC,cR,aD]at hb;obtain⟨mf,rfl⟩:=hb;have:=Ty.beq_eq mf;split at h
      .rename_i v hv;split at h
       .rename_i c' mc;obtain⟨gw,lk⟩:=lK hU hv rx.1;obtain⟨h1,h2,h3⟩:=hcs;have hsr:SR cv.t cv.x (cs.map (·.1)):=⟨h1,h2⟩;have hs:=VR.sr lk;obtain⟨g1,g2,g3⟩:=V8 hU mc hp hsr (hs.fl ow);obtain⟨g4,g5⟩:=wN hU hp hsr;have fe:cs.length=dC U cv.t:=by have:=hsr.len hU;rwa [List.length_map]at this
        have ci:gU P t=some (dC U ty):=hT.sz t ty fu;have hn:p1.cells.length=dC U ty:=by rw[hs.len hU,gw]
        have hle:o+dC U ty<=cs.length:=by rw[fe,<-this];exact g5
        have c1:(Nat.beq p1.cells.length (dC U ty)&&Nat.ble (o+dC U ty) cs.length&&p1.cells.all PV.one)=true:=by
         rw[hs.one hU,hn,Nat.beq_refl,Bool.true_and,bE,Nat.ble_eq];exact hle
        refine⟨_,p.upd id (.box (cs.take o++p1.cells.map (λc=>fl c ow)++cs.drop (o+dC U ty))),h,by simp only[oR,bc,ci,c1,aI],Mm.upd hf he hid ?_⟩
        refine⟨id,_,hid,by rw[lF bi,bI rfl],⟨?_,?_,?_⟩,?_⟩
        .rw[<-g3.wk,gw];simp only[List.map_append,List.map_take,List.map_drop]
        .rw[gw]at g3;have:=g3.z;simp only[List.map_append,List.map_take,List.map_drop];exact this
        .intro y hy;rcases List.mem_append.1 hy with hy|hy
         .rcases List.mem_append.1 hy with hy|hy
          .exact h3 y (List.mem_of_mem_take hy)
          .obtain⟨z,_,rfl⟩:=List.mem_map.1 hy;exact zV z ow
         .exact h3 y (List.mem_of_mem_drop hy)
        .intro i s hi;have htl:(cs.take o).length=o:=by rw[List.length_take];omega
         rcases List.mem_append.1 hi with hi|hi
         .obtain⟨j,e1,e2⟩:=aDY hi;simp only at e1;subst e1;obtain⟨y,hy,hys⟩:=aCg rx.2 lk j s e2;refine⟨y,?_,hys⟩;have hj:j<p1.cells.length:=by
           rcases Nat.lt_or_ge j p1.cells.length with h|h
           .exact h
           .rw[List.getElem?_eq_none (by rw[List.length_map];exact h)]at hy;cases hy
          rw[aQ,List.getElem?_append_right (by omega),htl,Nat.add_sub_cancel,List.getElem?_append_left (by rw[List.length_map];exact hj)]
          exact hy
         .obtain⟨e1,e2⟩:=Xn hi;obtain⟨y,hy,hys⟩:=ll i s e1;refine⟨y,?_,hys⟩;simp only at e2;rw[aQ];by_cases h4:i<o
          .rw[List.getElem?_append_left (by omega),List.getElem?_take,bI h4];exact hy
          .have h5:o+dC U ty<=i:=by omega
           rw[List.getElem?_append_right (by omega),htl,List.getElem?_append_right (by rw[List.length_map];omega),List.length_map,hn,List.getElem?_drop]
           have:o+dC U ty+(i-o-dC U ty)=i:=by omega
           rw[this];exact hy
       .cases h
      .cases h
    .cases h
   ·
    split at h
    .rename_i f caps hx;cases hb:T.T.fn t&&Nat.beq off 0&&stT.isF U SH with
     |false=>rw[hb]at h;cases h
     |true=>
      rw[hb]at h;simp only[aI]at h;simp only[aC,cR,aD]at hb;obtain⟨⟨fx,rfl⟩,hF⟩:=hb;obtain⟨_,ci,_⟩:=hT.fn t fx;have hx1:uC U c (.cl f caps) p1:=by have:=rx.1;rw[hx]at this;exact this
      obtain⟨ps,kn,fk⟩:=hx1;have hcs1: ∃y,cs=[y]:=by
       cases SH with
       |cl f' cp=>obtain⟨pv,b,e1,_⟩:=hcs;exact⟨_,e1⟩
       |nf=>obtain⟨b,e1⟩:=hcs;exact⟨_,e1⟩
       |_=>cases hF
      obtain⟨y,rfl⟩:=hcs1;subst kn;refine⟨_,p.upd id (.box [(.fn f [] ps,ow)]),h,?_,Mm.upd hf he hid ?_⟩
      .simp only[oR,bc,ci];rfl
      .exact⟨id,_,hid,by rw[lF bi,bI rfl],⟨_,_,rfl,ps,rfl,fk⟩,λo s hi=>by cases hi⟩
    .cases h
  .cases h
 ·
  rename_i k i off path;obtain⟨e,id,he,hid,hi0,hi1,rfl⟩:=ra;have bi:=Mm.lt k e id he hid;split at h
  .rename_i et l hf;obtain⟨e',gf,hn,hz,bh⟩:=Mm.bx k _ hf;rw[he]at gf;cases gf;rcases bh with⟨dn,_⟩|⟨bv,fb,bc⟩
   .rw[hid]at dn;cases dn
   .rw[hid]at fb;cases fb;obtain⟨y,hy,h8⟩:=oL h;clear h;have h:=h8;clear h8;obtain⟨_,hy1,hylt⟩:=AO hy;split at h
    .rename_i ty w o fu hp;cases hb:w.t.beq ty&&Nat.beq o off with
     |false=>rw[hb]at h;cases h
     |true=>
      rw[hb]at h;simp only[aI]at h;simp only[aC,cR,aD]at hb;obtain⟨mf,rfl⟩:=hb;have:=Ty.beq_eq mf;split at h
      .rename_i v hv;split at h
       .rename_i c' mc;split at h
        .rename_i z kg;obtain⟨gw,lk⟩:=lK hU hv rx.1;have hs:=VR.sr lk;have hsr:=SR.self hU et y;have hs2:SR v.t v.x (dD U v.t v.x).cells:=SR.self hU v.t v.x;obtain⟨g1,g2,g3⟩:=V8 hU mc hp hsr hs2;obtain⟨g4,g5⟩:=wN hU hp hsr;have ec:=oZ kg;have ci:gU P t=some (dC U ty):=hT.sz t ty fu;have hpn:p1.cells.length=dC U ty:=by rw[hs.len hU,gw]
         have ku:((l.map (dD U et)).flatMap PV.cells).length=l.length*dC U et:=by
          have:=iD (z:=dC U et) (es:=l.map (dD U et)) (λe' gf=>by obtain⟨a,_,rfl⟩:=List.mem_map.1 gf;exact iU hU _ _)
          rw[List.length_map]at this;exact this
         have hmul:i.toNat*dC U et+dC U et<=l.length*dC U et:=by rw[<-Nat.succ_mul];exact Nat.mul_le_mul_right _ hylt
         have hoz:o+dC U ty<=dC U et:=by rw[<-this];exact g5
         have c1:(Nat.beq p1.cells.length (dC U ty)&&Nat.ble (i.toNat*e.z+o+dC U ty) ((l.map (dD U et)).flatMap PV.cells).length&&p1.cells.all PV.one)=true:=by
          rw[hs.one hU,hpn,Nat.beq_refl,Bool.true_and,bE,Nat.ble_eq,ku,hz];omega
         refine⟨_,p.upd id (.row e.z (lU et) (((l.map (dD U et)).flatMap PV.cells).take (i.toNat*e.z+o)++PI.wks p1.cells++((l.map (dD U et)).flatMap PV.cells).drop (i.toNat*e.z+o+dC U ty))),h,by simp only[oR,bc,ci,c1,aI],Mm.upd hf he hid ?_⟩
         refine⟨by rw[List.length_set];exact hn,hz,.inr ⟨id,hid,?_⟩⟩
         rw[lF bi,bI rfl];congr 2;have hz2:(dD U et z).cells=(dD U et y).cells.take o++PI.wks p1.cells++(dD U et y).cells.drop (o+dC U ty):=by
          have h6:=g3.wk;have e6:(⟨c'.t,c'.x⟩:TV U.D)=⟨et,z⟩:=ec;have h7:(dD U (⟨c'.t,c'.x⟩:TV U.D).t (⟨c'.t,c'.x⟩:TV U.D).x).cells=(dD U et z).cells:=by rw[e6]
          rw[<-h7,<-h6];simp only[rW,Dl,Dm,gw];rw[Kg (tR hU et y),hs.wk];congr 2;exact Kg (tR hU v.t v.x)
         have hfs:((l.set i.toNat z).map (dD U et)).flatMap PV.cells=Bx (eY (l.map (dD U et))) (i.toNat*dC U et) (dD U et z).cells:=by
          rw[List.map_set];exact PZ (λe' gf=>by obtain⟨a,_,rfl⟩:=List.mem_map.1 gf;exact iU hU _ _) (by rw[List.length_map];exact hylt) (iU hU _ _)
         rw[hfs,WO _ _ _ (by rw[iU hU];show _<=((l.map (dD U et)).flatMap PV.cells).length;rw[ku];exact hmul),iU hU,hz2,hz]
         show((l.map (dD U et)).flatMap PV.cells).take (i.toNat*dC U et+o)++_++((l.map (dD U et)).flatMap PV.cells).drop (i.toNat*dC U et+o+dC U ty)=_;rw[aBS _ _ (i.toNat*dC U et) o (dC U et) (dC U ty) hoz (by rw[ku];exact hmul),OT hU hy1]
         rfl
        .cases h
       .cases h
      .cases h
    .cases h
  .cases h
 .cases h
end
end Go.TV
namespace Go.TV
open Go.AI Go.PI
section
variable{P:Program}{U:hY}{T:TP U.D}{c c0:Cx}{W:Type}{r:W}{q p:PSt}{M:TM U.D}
def mT(c:Cx)(k:Nat)(e:Ce):Cx:=λj=>if j=k then some e else c j
def kX{k:Nat}{e:Ce}(h:c k=none):leC c (mT c k e):=λj e' hj=>by
 unfold mT;by_cases e1:j=k
 .subst e1;rw[h]at hj;cases hj
 .rw[bH e1];exact hj
def Xu{p:PSt}{o:kK}{id:Nat}(h:id<p.next):(p.new o).get id=p.get id:=by
 rw[lG,bH (by omega)]
def MR.new(Mm:MR U q c0 c M p){k:Nat}(hk:100<=k)(hf:dG M.bx k=none){o:kK}{b:BC U.D}{n z:Nat}(hr:CY U (mT c k ⟨some p.next,n,z⟩) (p.new o) ⟨some p.next,n,z⟩ b):
    MR U q c0 (mT c k ⟨some p.next,n,z⟩) ⟨(k,b)::M.bx,M.wr⟩ (p.new o)/\(WR U c M p->WR U (mT c k ⟨some p.next,n,z⟩) ⟨(k,b)::M.bx,M.wr⟩ (p.new o)):=by
 have hc:=Mm.dom k hf;refine⟨⟨λj h=>?_,λj y h=>?_,λj e id h1 h2=>?_,λj j' e e' id h1 h2 h3 h4=>?_,Nat.le_succ_of_le Mm.next,λj e h1 h2=>?_,λj e id h1 h2 h3=>?_,λid hi ho=>?_,Mm.dirty,λid hi=>?_⟩,λhw id hi j e h1 h2=>?_⟩
 .rw[gP]at h;by_cases e1:j=k
  .rw[bI e1]at h;cases h
  .rw[bH e1]at h;unfold mT;rw[bH e1];exact Mm.dom j h
 .rw[gP]at h;by_cases e1:j=k
  .rw[bI e1]at h;simp only[aA]at h;subst h;exact⟨_,by unfold mT;rw[bI e1],hr⟩
  .rw[bH e1]at h;obtain⟨e,g1,g2⟩:=Mm.bx j y h;exact⟨e,kX hc j e g1,xS (aFK (kX hc) g2) λid hid=>Xu (Mm.lt j e id g1 hid)⟩
 .unfold mT at h1;by_cases e1:j=k
  .rw[bI e1]at h1;cases h1;cases h2;exact Nat.lt_succ_self _
  .rw[bH e1]at h1;exact Nat.lt_succ_of_lt (Mm.lt j e id h1 h2)
 .unfold mT at h1 h2;by_cases e1:j=k<;>by_cases e2:j'=k
  .rw[e1,e2]
  .rw[bI e1]at h1;rw[bH e2]at h2;cases h1;cases h3;have:=Mm.lt j' e' _ h2 h4;omega
  .rw[bH e1]at h1;rw[bI e2]at h2;cases h2;cases h4;have:=Mm.lt j e _ h1 h3;omega
  .rw[bH e1]at h1;rw[bH e2]at h2;exact Mm.inj j j' e e' id h1 h2 h3 h4
 .unfold mT at h1;by_cases e1:j=k
  .omega
  .rw[bH e1]at h1;exact Mm.bor j e h1 h2
 .unfold mT at h1;by_cases e1:j=k
  .rw[bI e1]at h1;cases h1;cases h3;exact Mm.next
  .rw[bH e1]at h1;exact Mm.loc j e id h1 h2 h3
 .rw[Xu (Nat.lt_of_lt_of_le hi Mm.next)];exact Mm.old id hi ho
 .obtain⟨g1,g2⟩:=Mm.wr id hi;exact⟨Nat.lt_succ_of_lt g1,g2⟩
 .unfold mT at h1;by_cases e1:j=k
  .rw[bI e1]at h1;cases h1;cases h2;have:=(Mm.wr _ hi).1;omega
  .rw[bH e1]at h1;exact hw id hi j e h1 h2
def MR.new0(Mm:MR U q c0 c M p){k:Nat}(hk:100<=k)(hf:dG M.bx k=none){b:BC U.D}{n z:Nat}(hr:CY U (mT c k ⟨none,n,z⟩) p ⟨none,n,z⟩ b):
    MR U q c0 (mT c k ⟨none,n,z⟩) ⟨(k,b)::M.bx,M.wr⟩ p/\(WR U c M p->WR U (mT c k ⟨none,n,z⟩) ⟨(k,b)::M.bx,M.wr⟩ p):=by
 have hc:=Mm.dom k hf;have un: ∀{j:Nat} {e:Ce} {id:Nat},mT c k ⟨none,n,z⟩ j=some e->e.id=some id->c j=some e:=by
  intro j e id h1 h2;unfold mT at h1;by_cases e1:j=k
  .rw[bI e1]at h1;cases h1;cases h2
  .rw[bH e1]at h1;exact h1
 refine⟨⟨λj h=>?_,λj y h=>?_,λj e id h1 h2=>Mm.lt j e id (un h1 h2) h2,λj j' e e' id h1 h2 h3 h4=>Mm.inj j j' e e' id (un h1 h3) (un h2 h4) h3 h4,Mm.next,λj e h1 h2=>?_,λj e id h1 h2 h3=>Mm.loc j e id (un h1 h3) h2 h3,Mm.old,Mm.dirty,Mm.wr⟩,λhw id hi j e h1 h2=>hw id hi j e (un h1 h2) h2⟩
 .rw[gP]at h;by_cases e1:j=k
  .rw[bI e1]at h;cases h
  .rw[bH e1]at h;unfold mT;rw[bH e1];exact Mm.dom j h
 .rw[gP]at h;by_cases e1:j=k
  .rw[bI e1]at h;simp only[aA]at h;subst h;exact⟨_,by unfold mT;rw[bI e1],hr⟩
  .rw[bH e1]at h;obtain⟨e,g1,g2⟩:=Mm.bx j y h;exact⟨e,kX hc j e g1,aFK (kX hc) g2⟩
 .unfold mT at h1;by_cases e1:j=k
  .omega
  .rw[bH e1]at h1;exact Mm.bor j e h1 h2
def MR.gone(Mm:MR U q c0 c M p){k:Nat}{b:BC U.D}(hb:dG M.bx k=some b)(w:List Nat):MR U q c0 c ⟨qT M.bx k .gone,w⟩ p:=by
 refine⟨λj h=>?_,λj y h=>?_,Mm.lt,Mm.inj,Mm.next,Mm.bor,Mm.loc,Mm.old,Mm.dirty,Mm.wr⟩
 .simp only[kH]at h;by_cases hj:j=k
  .rw[bI hj,hb]at h;cases h
  .rw[bH hj]at h;exact Mm.dom j h
 .simp only[kH]at h;by_cases hj:j=k
  .subst hj;rw[bI rfl,hb]at h;simp only[aK,aA]at h;subst h;obtain⟨e,h1,_⟩:=Mm.bx j b hb;exact⟨e,h1,trivial⟩
  .rw[bH hj]at h;exact Mm.bx j y h
variable(hU:iE U)(hT:rT P U T)
def rI{k:Nat}{b:BC U.D}{K:TM U.D->Option W}(h:Gc U M k b K=some r):dG M.bx k=none/\K ⟨(k,b)::M.bx,M.wr⟩=some r:=by
 unfold Gc at h;split at h
 .rename_i e;exact⟨e,h⟩
 .cases h
include hU hT
def a1F{S':PS}{o:Oper}{d:Option Tmp}{t:TypeId}{K:X U->TM U.D->Option W}(ho:o.op= .alloc t)(h:a3e U T.T M d t K=some r)(Mm:MR U q c0 c M p):
    ∃c' x M' v p',K x M'=some r/\fB P p S' o=some (v,false,p')/\leC c c'/\qB U c' x (v,false)/\MR U q c0 c' M' p'/\(WR U c M p->WR U c' M' p'):=by
 unfold a3e at h;split at h
 .rename_i d;split at h
  .rename_i ty fu;obtain⟨hf,hk⟩:=rI h;have hz:=hT.zc t ty fu;have hc:=Mm.dom _ hf;have hsr:=Q1 hU ty;obtain⟨g1,g2⟩:=Mm.new (o:= .box ((NW U ty).map λc=>fl c false)) (n:=0) (z:=0) (b:= .bx (.val ⟨ty,pO U ty⟩) (AD U ty)) (Nat.le_add_right 100 d) hf ⟨p.next,_,rfl,by rw[lG,bI rfl],⟨(hsr.fl false).wk,(hsr.fl false).z,λy hy=>by
          obtain⟨z,_,rfl⟩:=List.mem_map.1 hy;exact zV z false⟩,λi s hi=>⟨.emp,by rw[List.getElem?_map,NV hU ty i s hi];rfl,λ_=>rfl⟩⟩
   exact⟨_,_,_,.ptr p.next 0,_,hk,by simp only[fB,ho,hz],kX hc,⟨⟨_,_,by unfold mT;rw[bI rfl],rfl,rfl⟩,bV _ _⟩,g1,g2⟩
  .cases fx:T.T.fn t with
   |false=>rw[fx]at h;cases h
   |true=>
    rw[fx]at h;obtain⟨hf,hk⟩:=rI h;obtain⟨_,_,hz⟩:=hT.fn t fx;have hc:=Mm.dom _ hf;obtain⟨g1,g2⟩:=Mm.new (o:= .box [(.v .nilFunc,false)]) (n:=0) (z:=0) (b:= .bx .nf []) (Nat.le_add_right 100 d) hf ⟨p.next,_,rfl,by rw[lG,bI rfl],⟨_,rfl⟩,λi s hi=>by cases hi⟩
    exact⟨_,_,_,.ptr p.next 0,_,hk,by simp only[fB,ho,hz];rfl,kX hc,⟨⟨_,_,by unfold mT;rw[bI rfl],rfl,rfl⟩,bV _ _⟩,g1,g2⟩
 .cases h
omit hT in
def a1l{S:TS U.D}{S':PS}(F:lW U c S S'){o:Oper}{d:Option Tmp}{t:TypeId}{x:Operand}{K:X U->TM U.D->Option W}(ho:o.op= .box t x)(h:a3c U T.T M d t (jJ U S x) K=some r)(Mm:MR U q c0 c M p):
    ∃c' x M' v p',K x M'=some r/\fB P p S' o=some (v,false,p')/\leC c c'/\qB U c' x (v,false)/\MR U q c0 c' M' p'/\(WR U c M p->WR U c' M' p'):=by
 have rx:=dB F x;unfold a3c at h;split at h
 .rename_i d;split at h
  .rename_i ty fu;split at h
   .rename_i v hv;obtain⟨hf,hk⟩:=rI h;obtain⟨gw,lk⟩:=lK hU hv rx.1;have hsr:=VR.sr lk;have hc:=Mm.dom _ hf;have ll:=(vA rx).2;obtain⟨g1,g2⟩:=Mm.new (o:= .box ((cP S' x).cells.map λc=>fl c false)) (n:=0) (z:=0) (b:= .bx (.val v) (tH U (jJ U S x)).2) (Nat.le_add_right 100 d) hf ⟨p.next,_,rfl,by rw[lG,bI rfl],⟨(hsr.fl false).wk,(hsr.fl false).z,λy hy=>by
            obtain⟨z,_,rfl⟩:=List.mem_map.1 hy;exact zV z false⟩,aCg ll lk⟩
    exact⟨_,_,_,.ptr p.next 0,_,hk,by simp only[fB,ho,hsr.one hU,aI],kX hc,⟨⟨_,_,by unfold mT;rw[bI rfl],rfl,rfl⟩,bV _ _⟩,g1,g2⟩
   .cases h
  .split at h
   .rename_i f caps hx;obtain⟨hf,hk⟩:=rI h;have h1:=rx.1;rw[hx]at h1;obtain⟨ps,kn,fk⟩:=h1;have hc:=Mm.dom _ hf;obtain⟨g1,g2⟩:=Mm.new (o:= .box [(.fn f [] ps,false)]) (n:=0) (z:=0) (b:= .bx (.cl f caps) []) (Nat.le_add_right 100 d) hf ⟨p.next,_,rfl,by rw[lG,bI rfl],⟨_,_,rfl,ps,rfl,LH (kX hc) fk⟩,λi s hi=>by cases hi⟩
    have kn:cP S' x= .fn f [] ps:=kn;exact⟨_,_,_,.ptr p.next 0,_,hk,by simp only[fB,ho,kn];rfl,kX hc,⟨⟨_,_,by unfold mT;rw[bI rfl],rfl,rfl⟩,bV _ _⟩,g1,g2⟩
   .cases h
 .cases h
omit hT in
def OS(e:Ty): ∀n,iY (wks (NW U e)) n=((xY (pO U e) n).map (dD U e)).flatMap PV.cells
 |0=>rfl
 |n+1=>by rw[iY,xY,aO,aN,OS e n,Q0 hU]
omit hU hT in
def DR{N:Type}(x:N): ∀n,(xY x n).length=n
 |0=>rfl
 |n+1=>by rw[xY,aM,DR x n]
def aXp{S:TS U.D}{S':PS}(F:lW U c S S'){o:Oper}{d:Option Tmp}{t:TypeId}{l k:Operand}{K:X U->TM U.D->Option W}(ho:o.op= .makeSlice t l k)(h:a26 U T.T M d t (bEc l) T.el (jJ U S l).1 (jJ U S k).1 K=some r)(Mm:MR U q c0 c M p):
    ∃c' x M' v own p',K x M'=some r/\fB P p S' o=some (v,own,p')/\leC c c'/\qB U c' x (v,own)/\MR U q c0 c' M' p'/\(WR U c M p->WR U c' M' p'):=by
 have rl:=(dB F l).1;have rk:=(dB F k).1;unfold a26 at h;split at h
 .rename_i et fm n m fu xk hl hk;rw[hl]at rl;rw[hk]at rk;have el:cP S' l= .v (.int .i64 n):=iQ rl;have ek:cP S' k= .v (.int .i64 m):=iQ rk;clear rl rk hl hk;obtain⟨n',hn'⟩: ∃n':Int,n'=n:=⟨n,rfl⟩;subst hn';obtain⟨m',vu⟩: ∃m':Int,m'=m:=⟨m,rfl⟩;subst vu;obtain⟨hc,h⟩:=fM h;simp only[aC,aD]at hc;obtain⟨⟨⟨hc1,hc2⟩,hc3⟩,hc4⟩:=hc;obtain⟨eid',hu,gz,gp⟩:=hT.un t _ fu;rw[xk]at gp;cases gp;obtain⟨info,z,hi,ci,hby,hb1,hz,jk,hzc,hzp⟩:=hT.inf fm et gz;have jj:=hT.ag fm et gz;have kn:=pZ hU et;have c0: ∀(n' m':Int),0<=n'->n'<=m'->m'*(T.T.by' fm:Int)<=1073741824->m'<=1073741824->(decide (0<=n')&&decide (n'<=m')&&decide (m'*(info.bytes:Int)<=1073741824)&&decide (m'<=1073741824)&&z.cells.toList.all bN&&Nat.beq z.cells.size info.size&&Nat.ble 1 info.size&&(lU et||Nat.beq info.size 1))=true:=by
   intro n' m' hc1 hc2 hc3 hc4;rw[jk,ci,hby,hzp,Nat.beq_refl,(by rw[Nat.ble_eq];exact kn:Nat.ble 1 (dC U et)=true),bF hc1,bF hc2,bF hc3,bF hc4]
   cases et<;>rfl
  have c1:=c0 n' m' hc1 hc2 hc3 hc4;have wy:fB P p S' o=bif decide (n'=0)then some (.sl info.size [],true,p)else bif decide (n'=m')then some (.rs p.next 0 n'.toNat,false,p.new (.row info.size (lU et) (iY (wks (ofVs z.cells.toList)) n'.toNat)))else none:=by
   simp only[fB,ho,hu,el,ek,hi,jj,hz,c1,aI]
  have ro:VR U (.sl et) [] (.sl (dC U et) []):=⟨rfl,λj z' hj=>by
   cases j with
   |zero=>simp only[PV.cells,aU,aA,PV.sl.injEq]at hj;exact⟨et,rfl,hj.1.symm⟩
   |succ j=>simp[PV.cells]at hj⟩
  cases qp:bEc l with
  |true=>
   rw[qp]at h;obtain⟨hn,h⟩:=fM h;have hn:=of_decide_eq_true hn;refine⟨c,_,_,.sl (dC U et) [],true,p,h,?_,leC.refl c,⟨ro,?_⟩,Mm,λhw=>hw⟩
   .rw[wy,bF hn,aI,ci]
   .intro i s hi;simp only[List.mem_singleton,aB]at hi;exact .inr ⟨hi.1,rfl,rfl,λe=>by rw[hi.2]at e;cases e⟩
  |false=>
   rw[qp]at h;obtain⟨hn,h⟩:=fM h;have hn:=of_decide_eq_true hn;cases d with
   |none=>cases h
   |some d=>
    obtain⟨hf,hk⟩:=rI h;have hcn:=Mm.dom _ hf;by_cases h0:n'=0
    .have h00:n'.toNat=0:=by omega
     obtain⟨g1,g2⟩:=Mm.new0 (b:= .row et (xY (pO U et) n'.toNat)) (n:=0) (z:=dC U et) (Nat.le_add_right 100 d) hf ⟨by rw[DR,h00],rfl,.inl ⟨rfl,by rw[h00];rfl⟩⟩
     refine⟨_,_,_,.sl (dC U et) [],true,p,hk,by rw[wy,bF h0,aI,ci],kX hcn,⟨⟨_,by unfold mT;rw[bI rfl],.inl ⟨rfl,rfl,.inl rfl⟩⟩,bV _ _⟩,g1,g2⟩
    .obtain⟨g1,g2⟩:=Mm.new (o:= .row (dC U et) (lU et) (iY (wks (ofVs z.cells.toList)) n'.toNat)) (b:= .row et (xY (pO U et) n'.toNat)) (n:=n'.toNat) (z:=dC U et) (Nat.le_add_right 100 d) hf ⟨by rw[DR],rfl,.inr ⟨p.next,rfl,by rw[lG,bI rfl,hzc,OS hU]⟩⟩
     refine⟨_,_,_,.rs p.next 0 n'.toNat,false,_,hk,by rw[wy,bG h0,aJ,bF hn,aI,ci],kX hcn,⟨⟨_,by unfold mT;rw[bI rfl],.inr ⟨_,rfl,by
      have k1:(0:Int)<=n':=hc1;have k2: ¬(n':Int)=0:=h0;simp only;omega,rfl⟩⟩,bV _ _⟩,g1,g2⟩
 .cases h
omit hT in
def sU{n:Nat}: ∀(l:List (U.D n)),pA (U.sz n) l.length ((l.map (dD U (.rc n))).flatMap PV.cells)=l.map (dD U (.rc n))
 |[]=>rfl
 |x::l=>by
  rw[aM,pA,aO,aN];have hl:(dD U (.rc n) x).cells.length=U.sz n:=iU hU (.rc n) x;rw[List.take_left' hl,List.drop_left' hl,sU l];rfl
omit hU hT in
def P2{t:Ty}(h:lU t=false): ∀(l:List (Den U.D t)),(l.map (dD U t)).flatMap PV.cells=l.map (dD U t)
 |[]=>rfl
 |x::l=>by
  rw[aO,aN,P2 h l];have:(dD U t x).cells=[dD U t x]:=by
   cases t with
   |rc n=>cases h
   |sl t=>exact oX (eR _ _)
   |_=>rfl
  rw[this];rfl
omit hU hT in
def PW{p:PSt}{x:PV×Bool}(h: ∀id off len,x.1≠ .rs id off len):a8G p x=some (x,p):=by
 obtain⟨pv,b⟩:=x;cases pv with
 |rs id off len=>exact(h id off len rfl).elim
 |_=>rfl
omit hU hT in
def OF{S0:TS U.D}{S':PS}{t:Nat}(F:lW U c S0 S'):lW U c S0 (S'.set t (S'.at t)):=λk=>by
 rw[qJ];by_cases e:k=t
 .rw[bI e,<-e];exact F k
 .rw[bH e];exact F k
omit hT in
def Se{S:TS U.D}{S':PS}(F:lW U c S S'){t:Nat}{R:TS U.D×TM U.D}(h:a28 U S M t=some R)(Mm:MR U q c0 c M p):
    ∃S'' p',jZ p S' t=some (S'',p')/\lW U c R.1 S''/\MR U q c0 c R.2 p'/\(WR U c M p->WR U c R.2 p'):=by
 have hs:=F t;have same: ∀{x:SV U.D} {r:jD},lV S t=(x,r)->(∀id off len,(S'.at t).1≠ .rs id off len)->R=((t,(x,r))::S,M)->
      ∃S'' p',jZ p S' t=some (S'',p')/\lW U c R.1 S''/\MR U q c0 c R.2 p'/\(WR U c M p->WR U c R.2 p'):=by
  intro x r hx bm hR;subst hR;refine⟨S'.set t (S'.at t),p,by simp only[jZ,PW bm],?_,Mm,λhw=>hw⟩
  exact OF (PX F (show qB U c (x,r) (S'.at t) by rw[<-hx];exact hs))
 unfold a28 at h;split at h
 .rename_i k rr hx;split at h
  .rename_i e l hf;simp only[aA]at h;subst h;have h1:=hs.1;rw[hx]at h1;obtain⟨ce,tj,h1⟩:=h1;obtain⟨ce',hce',hn,hz,bh⟩:=Mm.bx k _ hf;rw[tj]at hce';cases hce';rcases h1 with⟨hid,hn0,hp⟩|⟨id,hid,hn1,hp⟩
   .have hl:l=[]:=List.length_eq_zero_iff.1 (by omega)
    subst hl;refine⟨S'.set t (S'.at t),p,by rw[jZ,PW (by rcases hp with hp|hp<;>(rw[hp];intro _ _ _ e;cases e))],?_,Mm.gone hf _,λhw i hi j e' g1 g2=>by
     show(Nat.beq k j||dY j M.wr)=true;rw[hw i hi j e' g1 g2,Bool.or_true]⟩
    refine sS F ⟨?_,bV _ _⟩;show VR U (.sl e) [] (S'.at t).1;rcases hp with hp|hp
    .rw[hp,hz];exact⟨rfl,λj z' hj=>by
      cases j with
      |zero=>simp only[PV.cells,aU,aA,PV.sl.injEq]at hj;exact⟨e,rfl,hj.1.symm⟩
      |succ j=>simp[PV.cells]at hj⟩
    .rw[hp];exact yY e [] (z:=dC U e) (es:=[]) rfl rfl
   .rcases bh with⟨dn,_⟩|⟨bv,fb,bc⟩
    .rw[hid]at dn;cases dn
    .rw[hid]at fb;cases fb;have ku:((l.map (dD U e)).flatMap PV.cells).length=l.length*dC U e:=by
      have:=iD (z:=dC U e) (es:=l.map (dD U e)) (λe' gf=>by obtain⟨a,_,rfl⟩:=List.mem_map.1 gf;exact iU hU _ _)
      rw[List.length_map]at this;exact this
     have hpur:((l.map (dD U e)).flatMap PV.cells).all PV.pur=true:=by
      rw[bJ];intro x hx;obtain⟨y,hy,hx⟩:=List.mem_flatMap.1 hx;obtain⟨a,_,rfl⟩:=List.mem_map.1 hy;exact aZJ (bJ.1 (tR hU e a) x hx)
     have kn:=pZ hU e;have c1:(Nat.ble (0+ce.n*ce.z) ((l.map (dD U e)).flatMap PV.cells).length&&Nat.ble 1 ce.z&&(lU e||Nat.beq ce.z 1)&&((l.map (dD U e)).flatMap PV.cells).all PV.pur)=true:=by
      rw[ku,hpur,hz,hn,Nat.zero_add,(by rw[Nat.ble_eq];exact aS _:Nat.ble (l.length*dC U e) (l.length*dC U e)=true),(by rw[Nat.ble_eq];exact kn:Nat.ble 1 (dC U e)=true)]
      cases e<;>rfl
     have nv:(bif lU e then pA ce.z ce.n ((((l.map (dD U e)).flatMap PV.cells).drop 0).take (ce.n*ce.z))else((((l.map (dD U e)).flatMap PV.cells).drop 0).take (ce.n*ce.z)))=l.map (dD U e):=by
      rw[List.drop_zero,List.take_of_length_le (by rw[ku,hn,hz];exact aS _)]
      cases hr:lU e with
      |true=>
       cases e with
       |rc n=>rw[aI,hz,hn];exact sU hU l
       |_=>cases hr
      |false=>rw[aJ];exact P2 hr l
     have hat:S'.at t=(.rs id 0 ce.n,(S'.at t).2):=by rw[<-hp]
     obtain⟨m1,m2⟩:=Mm.upd (o:= .gone) (b':= .gone) hf tj hid trivial;refine⟨S'.set t (eB ce.z (l.map (dD U e)),false),p.upd id .gone,?_,?_,m1,m2⟩
     .rw[jZ,hat];simp only[a8G,bc,c1,aI,nv]
     .exact sS F ⟨yY _ _ hz rfl,bV _ _⟩
  .cases h
 .rename_i v rr hx;simp only[aA]at h;refine same hx ?_ h.symm;intro id off len e;have h1:=hs.1;rw[hx]at h1;have h2:VR U v.t v.x (S'.at t).1:=h1;have h3:=h2.wk;rw[e]at h3;obtain⟨vt,vx⟩:=v;cases vt with
  |sl t=>have:=eR (dC U t) (List.map (dD U t) vx);simp only[dD]at h3;rw[<-h3]at this;cases this
  |_=>cases h3
 .rename_i rr hx;simp only[aA]at h;refine same hx ?_ h.symm;intro id off len e;have h1:=hs.1;rw[hx]at h1;have h2:(S'.at t).1= .nil:=h1;rw[h2]at e;cases e
 .rename_i f caps rr hx;simp only[aA]at h;refine same hx ?_ h.symm;intro id off len e;have h1:=hs.1;rw[hx]at h1;obtain⟨ps,h2,_⟩:=h1;rw[h2]at e;cases e
 .cases h
end
end Go.TV
namespace Go.TV
open Go.AI Go.PI
section
variable{P:Program}{U:hY}{T:TP U.D}{c c0:Cx}{W:Type}{r:W}{q p:PSt}{M:TM U.D}
def D7{S':PS}{x:Operand}(h:(iG S' x||kM (cP S' x))=true):iG S' x=true:=by
 cases x with
 |tmp t=>simpa [iG,cP,Bool.or_assoc]using h
 |const v=>
  cases v with
  |slice b l k=>
   cases b with
   |none=>rfl
   |some b=>simp[iG,cP,Bo,kM]at h
  |_=>simp[iG,cP,Bo,kM]at h
 |global g=>simp[iG,cP,kM]at h
 |func f=>simp[iG,cP,kM]at h
variable(hU:iE U)(hT:rT P U T)
include hU hT
def a1C{S:TS U.D}{S':PS}(F:lW U c S S'){cl:Call}{s x:Operand}{K:X U->Option W}(h:a3d U T.T T.el cl.argTypes.toList (jJ U S s) (jJ U S x).1 K=some r):
    ∃y v own,K y=some r/\wD P S' cl s x=some (v,own,mX S' s)/\qB U c y (v,own):=by
 have rs:=dB F s;have rx:=(dB F x).1;unfold a3d at h;split at h
 .rename_i t t1 kj;split at h
  .rename_i et fm e1 fu xk hty1;split at h
   .rename_i a l b w hs hx;split at h
    .rename_i l' w' hl hw;obtain⟨cf,ny⟩:=lK hU hs rs.1;obtain⟨hxt,hxv⟩:=lK hU hx rx;have e2:=oZ hl;have e3:=oZ hw;have ny:VR U (.sl et) l' (cP S' s):=by
      have:VR U (⟨a,l⟩:TV U.D).t (⟨a,l⟩:TV U.D).x (cP S' s):=ny;rw[e2]at this;exact this
     have hxv:VR U (.sl et) w' (cP S' x):=by
      have:VR U (⟨b,w⟩:TV U.D).t (⟨b,w⟩:TV U.D).x (cP S' x):=hxv;rw[e3]at this;exact this
     obtain⟨eid',hu,gz,gp⟩:=hT.un t _ fu;rw[xk]at gp;cases gp;obtain⟨eid1,hu1,_⟩:=hT.un t1 _ hty1;obtain⟨info,z,hi,ci,hby,hb1,hz,jk,hzc,hzp⟩:=hT.inf fm et gz;obtain⟨g1,g2⟩:=tF ny;obtain⟨k1,k2⟩:=tF hxv;have c1:(Nat.ble 1 info.size&&Nat.ble 1 info.bytes&&Nat.beq z.cells.size info.size)=true:=by
      rw[jk,Nat.beq_refl,ci,(by rw[Nat.ble_eq];exact pZ hU et:Nat.ble 1 (dC U et)=true),(by rw[Nat.ble_eq];exact hb1:Nat.ble 1 info.bytes=true)];rfl
     have nc:isAgg (cP S' s)=false:=oO (v:=⟨.sl et,l'⟩) ny rfl;have wz:wD P S' cl s x=(match w'.map (dD U et)with
              |[]=>some (cP S' s,iG S' s,mX S' s)
              |xs=>bif iG S' s&&Nat.ble (((l'.map (dD U et)).length+(w'.map (dD U et)).length)*info.bytes) 1073741824 then some (eB info.size (l'.map (dD U et)++w'.map (dD U et)),true,mX S' s)else none):=by
      have e4:oY info.size (cP S' s)=some (l'.map (dD U et)):=by rw[ci];exact g1
      have e5:wB info.size (.slice eid1) (cP S' x)=some (w'.map (dD U et)):=by rw[ci];exact k1
      simp only[wD,kj,hu,hu1,hi,e4,e5,hz,c1,aI];rfl
     cases hm:Ej 0 (jJ U S s).2 with
     |true=>
      rw[hm]at h;obtain⟨hc,h⟩:=fM h;obtain⟨st,hst2⟩:=uX.1 hm;have how:iG S' s=true:=by
       rcases rs.2 0 st hst2 with⟨h1,_⟩|⟨_,_,h1,_⟩
       .rw[nc]at h1;cases h1
       .exact D7 h1
      cases w' with
      |nil=>
       refine⟨_,cP S' s,iG S' s,h,by rw[wz];rfl,?_,rs.2⟩
       show VR U (.sl et) (l'++ []) (cP S' s);rw[bA];exact ny
      |cons w0 w'=>
       refine⟨_,eB info.size (l'.map (dD U et)++(w0::w').map (dD U et)),true,h,?_,yY _ _ ci (by rw[<-List.map_append]),?_⟩
       .rw[wz,how];simp only[aO,List.length_map,aM,hby];have mc:Nat.ble ((l'.length+(w'.length+1))*T.T.by' fm) 1073741824=true:=hc
        rw[mc];rfl
       .intro o s' kq;have hg:=eR info.size (l'.map (dD U et)++(w0::w').map (dD U et));rcases rs.2 o s' kq with⟨h1,_⟩|⟨h1,_⟩
        .rw[nc]at h1;cases h1
        .refine .inr ⟨h1,?_,rfl,λ_=>BL hg⟩
         cases hc:eB info.size (l'.map (dD U et)++(w0::w').map (dD U et))<;>first|rfl|(rw[hc]at hg;cases hg)
     |false=>
      rw[hm]at h;obtain⟨hc,h⟩:=fM h;cases w' with
      |nil=>exact⟨_,cP S' s,iG S' s,h,by rw[wz];rfl,ny,bV _ _⟩
      |cons w0 w'=>cases hc
    .cases h
   .cases h
  .cases h
 .cases h
def aMX{S:TS U.D}{S':PS}(F:lW U c S S'){ts:List TypeId}{t1 t2:TypeId}{s zz n x:Operand}{K:V U->V U->Option W}(h:aAU U T.T T.el ts t1 t2 (jJ U S s) (jJ U S zz).1 (jJ U S n).1 (jJ U S x).1 K=some r):
    ∃y w v,K y w=some r/\WT P ts t1 t2 (cP S' s) (iG S' s) (cP S' zz) (cP S' n) (cP S' x)=some v/\qB U c (.val y,[(0,true)]) (v,true)/\uC U c (.ep w) (aAh v):=by
 have rs:=dB F s;have rz:=(dB F zz).1;have rn:=(dB F n).1;have rx:=(dB F x).1;unfold aAU at h;split at h
 .rename_i t tz;split at h
  .rename_i et fm e1 fu xk hty1;split at h
   .rename_i a l b y kk k v hs hz hn hx;split at h
    .rename_i l' y0 w' hl hy hw;rw[hn]at rn;cases hb:Ej 0 (jJ U S s).2&&Nat.beq t1 t&&Nat.beq t2 fm with
     |false=>rw[hb]at h;cases h
     |true=>
      rw[hb]at h;simp only[aC,cR,aD]at hb;obtain⟨⟨hm,rfl⟩,rfl⟩:=hb;obtain⟨hc,h⟩:=fM h;simp only[aC,aD]at hc;obtain⟨cf,ny⟩:=lK hU hs rs.1;obtain⟨hzt,hzv⟩:=lK hU hz rz;obtain⟨hxt,hxv⟩:=lK hU hx rx;have e2:=oZ hl;have e3:=oZ hy;have e4:=oZ hw;have ny:VR U (.sl et) l' (cP S' s):=by
       have:VR U (⟨a,l⟩:TV U.D).t (⟨a,l⟩:TV U.D).x (cP S' s):=ny;rw[e2]at this;exact this
      have hzv:VR U (.sl et) [y0] (cP S' zz):=by
       have:VR U (⟨b,y⟩:TV U.D).t (⟨b,y⟩:TV U.D).x (cP S' zz):=hzv;rw[e3]at this;exact this
      have hxv:VR U et w' (cP S' x):=by
       have:VR U (⟨v.t,v.x⟩:TV U.D).t (⟨v.t,v.x⟩:TV U.D).x (cP S' x):=hxv;rw[e4]at this;exact this
      obtain⟨eid',hu,gz,gp⟩:=hT.un t1 _ fu;rw[xk]at gp;cases gp;obtain⟨eid1,hu1,_⟩:=hT.un tz _ hty1;obtain⟨info,z,hi,ci,hby,hb1,kg,jk,hzc,hzp⟩:=hT.inf t2 et gz;obtain⟨g1,g2⟩:=tF ny;obtain⟨k1,_⟩:=tF hzv;have nc:isAgg (cP S' s)=false:=oO (v:=⟨.sl et,l'⟩) ny rfl;obtain⟨st,hst2⟩:=uX.1 hm;have how:iG S' s=true:=by
       rcases rs.2 0 st hst2 with⟨h1,_⟩|⟨_,_,h1,_⟩
       .rw[nc]at h1;cases h1
       .exact D7 h1
      have e5:oY info.size (cP S' s)=some (l'.map (dD U et)):=by rw[ci];exact g1
      have e6:wB info.size (.slice eid1) (cP S' zz)=some [dD U et y0]:=by rw[ci];exact k1
      have e7:cP S' n= .v (.int kk k):=iQ rn;have hlen:((l'.map (dD U et)).length+1)*info.bytes=(l'.length+1)*T.T.by' t2:=by rw[List.length_map,hby]
      have hlen2:(k:Int)=((l'.map (dD U et)).length:Int):=by rw[List.length_map];exact hc.2
      have c1:(Nat.ble 1 info.size&&Nat.ble 1 info.bytes&&Nat.beq z.cells.size info.size&&iG S' s&&Nat.ble (((l'.map (dD U et)).length+1)*info.bytes) 1073741824&&Nat.beq t1 t1&&Nat.beq t2 t2&&decide ((k:Int)=((l'.map (dD U et)).length:Int))&&PI.shape (lU et) info.size (cP S' x))=true:=by
       rw[hlen,hc.1,bF hlen2,jk,ci,uE hU hxv,how,(by rw[Nat.ble_eq];exact pZ hU et:Nat.ble 1 (dC U et)=true),(by rw[Nat.ble_eq];exact hb1:Nat.ble 1 info.bytes=true)]
       simp only[Nat.beq_refl,Bool.and_self]
      have bm:l'.map (dD U et)++ [wk (cP S' x)]≠ []:=by simp
      have mn:PV.sl info.size (l'.map (dD U et)++ [wk (cP S' x)])=eB info.size (l'.map (dD U et)++ [wk (cP S' x)]):=by
       cases hh:l'.map (dD U et)++ [wk (cP S' x)]with
       |nil=>exact(bm hh).elim
       |cons a b=>rfl
      refine⟨_,_,eB info.size (l'.map (dD U et)++ [wk (cP S' x)]),h,?_,⟨yY _ _ ci (by rw[List.map_append,hxv.wk];rfl),?_⟩,?_⟩
      .simp only[WT,hu,hu1,hi,hT.ag _ _ gz,e5,e6,kg,e7];rw[c1,<-mn];rfl
      .intro o s' kq;simp only[List.mem_singleton,aB]at kq;have hg:=eR info.size (l'.map (dD U et)++ [wk (cP S' x)]);refine .inr ⟨kq.1,?_,rfl,λ_=>BL hg⟩
       cases hc:eB info.size (l'.map (dD U et)++ [wk (cP S' x)])<;>first|rfl|(rw[hc]at hg;cases hg)
      .rw[<-mn];refine⟨_,_,0,wk (cP S' x),rfl,by simp,?_⟩
       rw[hxv.wk,List.drop_zero];exact List.take_of_length_le (Nat.le_of_eq (iU hU et w'))
    .cases h
   .cases h
  .cases h
 .cases h
end
end Go.TV
namespace Go.TV
open Go.AI Go.PI
section
variable{P:Program}{U:hY}{T:TP U.D}{c c0:Cx}{W:Type}{r:W}{q p:PSt}{M:TM U.D}
structure FA(U:hY)(s:QJ)(d:List (V U))(p:PSt)(cc:Cx)(args:List (PV×Bool))(S0:TS U.D)(M0:TM U.D):Prop where
 start:HL U (cutOf s) d=some (S0,M0)
 len:args.length=s.ps.length
 args: ∀i y,args[i]?=some y->qB U cc (lV S0 i) y
 bx: ∀j b,dG M0.bx j=some b->∃e,cc j=some e/\CY U cc p e b
 dom: ∀j,s.bx.length<=j->cc j=none
 lt: ∀j e id,cc j=some e->e.id=some id->id<p.next
 inj: ∀k k' e e' id,cc k=some e->cc k'=some e'->e.id=some id->e'.id=some id->k=k'
 wr: ∀id,id∈p.wr->id<p.next
structure YJ(U:hY)(s:QJ)(out:List (V U))(p:PSt)(cc:Cx)(pv:PV)(own:Bool)(p':PSt):Prop where
 res:qB U cc (CO U s.own (out.take s.rs.length)) (pv,own)
 out: ∃m,fO U s.bx s.bo (out.drop s.rs.length)=some m/\∀j x,m[j]?=some x->∃e,cc j=some e/\CY U cc p' e x
 next:p'.next=p.next
 get: ∀id,id<p.next->(∀j e,cc j=some e->e.id≠some id)->p'.get id=p.get id
 get2: ∀id,id<p.next->id∉p'.dirty->p'.get id=p.get id
 dirty: ∀id,id∈p'.dirty->id∈p.dirty∨∃j e,cc j=some e/\e.id=some id
 dirty2: ∀id,id∈p.dirty->id∈p'.dirty
 wr: ∀id,id∈p'.wr->id∈p.wr∨∃j e,cc j=some e/\e.id=some id
def CallOK(U:hY)(T:TP U.D)(tc:nF U.D)(pc:gT):Prop:=
 ∀inst s d out,T.sig inst=some s->tc inst d=some out->∀p cc args S0 M0,FA U s d p cc args S0 M0->∃pv own p',pc s.f args p=some (pv,own,p')/\YJ U s out p cc pv own p'
def kI(c:Cx)(bk:List Nat):Cx:=λj=>if j<bk.length then c (jR bk j)else none
def AC: ∀(l:List Nat) (i:Nat),i<l.length->l[i]?=some (jR l i)
 |x::l,0,_=>rfl
 |x::l,i+1,h=>by rw[aT];exact AC l i (by simpa using h)
 |[],i,h=>by simp at h
def wP: ∀{a b:List Nat},yG a b=true->a=b
 |[],[],_=>rfl
 |x::a,y::b,h=>by
  simp only[yG,aC,cR,aD]at h;rw[h.1,wP h.2]
 |[],_::_,h=>by cases h
 |_::_,[],h=>by cases h
def jG{i:Nat}: ∀{l:List Nat},dY i l=true↔i∈l
 |[]=>by simp[dY]
 |x::l=>by
  simp only[dY,Bool.or_eq_true,cR,aD,jG (l:=l),List.mem_cons];exact or_congr eq_comm Iff.rfl
def Co: ∀{l:List Nat},PE l=true->l.Nodup
 |[],_=>List.nodup_nil
 |x::l,h=>by
  simp only[PE,aC,Bool.not_eq_true']at h;refine List.nodup_cons.2 ⟨λhm=>?_,Co h.2⟩
  rw[jG.2 hm]at h;cases h.1
def aK5{bk:List Nat}(h:bk.Nodup){i j:Nat}(hi:i<bk.length)(hj:j<bk.length)(e:jR bk i=jR bk j):i=j:=by
 have h1:=AC bk i hi;have h2:=AC bk j hj;rw[<-e,<-h1]at h2;exact((List.getElem?_inj hj h).1 h2).symm
def LI{bk:List Nat}: ∀{caps:List Nat} {ps:List PV},vS caps bk.length=true->(yH c (JO (jR bk) caps) ps↔yH (kI c bk) caps ps)
 |[],[],_=>Iff.rfl
 |k::ks,x::ps,h=>by
  simp only[vS,aC,gW,aD]at h;simp only[JO,yH,kI,bI h.1];exact and_congr Iff.rfl (LI h.2)
 |[],_::_,_=>Iff.rfl
 |_::_,[],_=>Iff.rfl
def Qn{bk:List Nat}: ∀{caps:List Nat} {ps:List PV},yH (kI c bk) caps ps->yH c (JO (jR bk) caps) ps
 |[],[],_=>trivial
 |k::ks,x::ps,⟨⟨e,id,h1,h2,h3⟩,h4⟩=>by
  unfold kI at h1;split at h1
  .exact⟨⟨e,id,h1,h2,h3⟩,Qn h4⟩
  .cases h1
 |[],_::_,h=>h.elim
 |_::_,[],h=>h.elim
def aAK{bk:List Nat}{s:SV U.D}{cs:List (PV×Bool)}(h:zX U (kI c bk) s cs):zX U c (a5g U bk s) cs:=by
 cases s with
 |cl f caps=>obtain⟨p,b,e,ps,h1,h2⟩:=h;exact⟨p,b,e,ps,h1,Qn h2⟩
 |_=>exact h
def aPf{t:Ty}{x:Den U.D t}{p:PV}(hU:iE U)(h:VR U t x p):VR U t x (wk p):=by
 refine⟨by rw[h.wk,XI hU],?_⟩
 rw[h.wk];exact Di (tR hU t x)
def SU(U:hY)(c:Cx)(take:Bool):List (X U)->List (PV×Bool)->Prop
 |[],[]=>True
 |x::xs,y::ys=>(∃pv ow,uC U c x.1 pv/\aBf x.2 pv ow/\y=(wk pv,take&&ow&& !JU pv)/\(take=false->x.2=[])/\(kM pv=true->ow=true))/\SU U c take xs ys
 |_,_=>False
def CE{take:Bool}: ∀{xs xs':List (X U)} {ys ys':List (PV×Bool)},SU U c take xs ys->SU U c take xs' ys'->SU U c take (xs++xs') (ys++ys')
 |[],_,[],_,_,h=>h
 |x::xs,_,y::ys,_,h,h'=>⟨h.1,CE h.2 h'⟩
 |[],_,_::_,_,h,_=>h.elim
 |_::_,_,[],_,h,_=>h.elim
def Pm{take:Bool}: ∀{args:List Operand} {S:TS U.D} {S':PS},lW U c S S'->lW U c (GA U take S args).2 (lX take S' args).2/\SU U c take (GA U take S args).1 (lX take S' args).1
 |[],S,S',F=>⟨F,trivial⟩
 |x::xs,S,S',F=>by
  have F1:lW U c (bif take then uY U S x else S) (bif take then mX S' x else S'):=by
   cases take with
   |true=>exact rN F x
   |false=>exact F
  obtain⟨h1,h2⟩:=Pm (args:=xs) F1;have:=dB F x;refine⟨h1,⟨cP S' x,iG S' x,this.1,?_,rfl,λe=>by rw[e];rfl,λh=>D7 (by rw[h,Bool.or_true])⟩,h2⟩
  cases take with
  |true=>exact this.2
  |false=>exact bV _ _
def XS{take:Bool}: ∀{caps:List Nat} {ps:List PV},yH c caps ps->SU U c take (caps.map λk=>(SV.lc k 0 [],[])) (rG ps)
 |[],[],_=>trivial
 |k::ks,x::ps,⟨⟨e,id,h1,h2,h3⟩,h4⟩=>by
  refine⟨⟨x,false,⟨e,id,h1,h2,h3⟩,bV _ _,by rw[Bool.and_false,Bool.false_and],λ_=>rfl,λh=>by rw[h3]at h;cases h⟩,XS h4⟩
 |[],_::_,h=>h.elim
 |_::_,[],h=>h.elim
def EF{S:TS U.D}{i k:Nat}{x:X U}(h:k≠i):lV ((i,x)::S) k=lV S k:=by rw[wM,bH h]
def rZ: ∀{rs:jD},qA rs=true->(0,true)∈rs
 |x::rs,h=>by
  obtain⟨a,b⟩:=x;simp only[qA,Bool.or_eq_true,aC,cR,aD]at h;rcases h with⟨rfl,rfl⟩|h
  .exact aH ..
  .exact aG _ (rZ h)
def GJ(hU:iE U){bk:List Nat}{take:Bool}: ∀{ps:List (Sh×Bool)} {xs:List (X U)} {ys:List (PV×Bool)} {d:List (V U)} (i0:Nat) (rest:List (V U)),nX U bk ps xs=some d->SU U c take xs ys->
    ys.length=ps.length/\∃S0,aBb U (cutOf.psL ps i0) (d++rest)=some (S0,rest)/\∀i y,ys[i]?=some y->qB U (kI c bk) (lV S0 (i0+i)) y
 |[],[],[],d,i0,rest,h,_=>by
  simp only[nX,aA]at h;subst h;exact⟨rfl,[],rfl,λi y hy=>by simp at hy⟩
 |(s,own)::ps,x::xs,y::ys,d,i0,rest,h,⟨⟨pv,ow,r1,r2,hy0,r3,r4⟩,hr⟩=>by
  subst hy0;have fin: ∀(sv:SV U.D) (dv dl:List (V U)),nX U bk ps xs=some dl->d=dv++dl->Ra U s (dv++(dl++rest))=some (sv,dl++rest)->uC U (kI c bk) sv (wk pv)->(own=true->qA x.2=true/\isAgg pv=false)->
        ((wk pv,take&&ow&& !JU pv)::ys).length=((s,own)::ps).length/\∃S0,aBb U (cutOf.psL ((s,own)::ps) i0) (d++rest)=some (S0,rest)/\∀i y,((wk pv,take&&ow&& !JU pv)::ys)[i]?=some y->qB U (kI c bk) (lV S0 (i0+i)) y:=by
   intro sv dv dl hm hd hu hs ho;obtain⟨g1,S0,g2,g3⟩:=GJ hU (i0+1) rest hm hr;refine⟨by rw[aM,aM,g1],(i0,(sv,RP own))::S0,?_,?_⟩
   .rw[hd,aQ];simp only[cutOf.psL,aBb,hu,g2]
   .intro i y hy;cases i with
    |zero=>
     simp only[aU,aA]at hy;subst hy;rw[wM,bI (Nat.add_zero _)];refine⟨hs,?_⟩;cases own with
     |false=>exact bV _ _
     |true=>
      obtain⟨h1,h2⟩:=ho rfl;have hm:=rZ h1;intro o st hi;simp only[RP,List.mem_singleton,aB]at hi;have mu:take=true:=by
       cases take with
       |true=>rfl
       |false=>rw[r3 rfl]at hm;cases hm
      rcases r2 _ _ hm with⟨h3,_⟩|⟨_,_,h3,h4⟩
      .rw[h2]at h3;cases h3
      .have how:ow=true:=by
        cases hh:kM pv with
        |true=>exact r4 hh
        |false=>rw[hh,Bool.or_false]at h3;exact h3
       refine .inr ⟨hi.1,?_,?_,λ_=>?_⟩
       .cases pv with
        |agg cs=>cases h2
        |sl z es=>cases es<;>rfl
        |_=>rfl
       .rw[mu,how,h4 rfl];rfl
       .exact aEe pv
    |succ i=>
     rw[aT]at hy;have:=g3 i y hy;rw[EF (by omega),show i0+(i+1)=i0+1+i by omega]
     exact this
  obtain⟨sx,rx⟩:=x;cases s with
  |val t=>
   simp only[nX]at h;split at h
   .rename_i v l hv hl;cases hb: !own||(qA rx&& !lU t)with
    |false=>rw[hb]at h;cases h
    |true=>
     rw[hb]at h;simp only[aI,aA]at h;obtain⟨h1,h2⟩:=lK hU hv r1;refine fin (.val v) [v] l hl h.symm ?_ (aPf hU h2) ?_
     .simp only[aR,Ra,h1,Ty.beq_rfl,aI]
     .intro ho;rw[ho]at hb;simp only[bD,Bool.false_or,aC,Bool.not_eq_true']at hb;exact⟨hb.1,oO h2 (by rw[h1];exact hb.2)⟩
   .cases h
  |lc j off path=>
   cases sx with
   |lc k fq np=>
    simp only[nX]at h;cases hb: !own&&Nat.blt j bk.length&&Nat.beq k (jR bk j)&&Nat.beq off fq&&yG path np with
    |false=>rw[hb]at h;cases h
    |true=>
     rw[hb]at h;simp only[aI]at h;simp only[aC,gW,cR,aD,Bool.not_eq_true']at hb;obtain⟨⟨⟨⟨h0,h1⟩,h2⟩,h3⟩,h4⟩:=hb;obtain⟨e,id,g1,g2,g3⟩:=r1;refine fin (.lc j off path) [] d h rfl rfl ⟨e,id,?_,g2,by rw[g3,h3];rfl⟩ (λho=>by rw[h0]at ho;cases ho)
     unfold kI;rw[bI h1,<-h2];exact g1
   |_=>cases h
  |cl f caps=>
   cases sx with
   |cl f' cp=>
    simp only[nX]at h;cases hb: !own&&Nat.beq f f'&&vS caps bk.length&&yG (JO (jR bk) caps) cp with
    |false=>rw[hb]at h;cases h
    |true=>
     rw[hb]at h;simp only[aI]at h;simp only[aC,cR,aD,Bool.not_eq_true']at hb;obtain⟨⟨⟨h0,h1⟩,h2⟩,h3⟩:=hb;obtain⟨qs,g1,g2⟩:=r1;refine fin (.cl f caps) [] d h rfl rfl ⟨qs,by rw[g1,h1];rfl,(LI h2).1 (by rw[wP h3];exact g2)⟩ (λho=>by rw[h0]at ho;cases ho)
   |_=>cases h
  |rw j=>
   cases sx with
   |rw k=>
    simp only[nX]at h;cases hb: !own&&Nat.blt j bk.length&&Nat.beq k (jR bk j)with
    |false=>rw[hb]at h;cases h
    |true=>
     rw[hb]at h;simp only[aI]at h;simp only[aC,gW,cR,aD,Bool.not_eq_true']at hb;obtain⟨⟨h0,h1⟩,h2⟩:=hb;obtain⟨e,g1,g2⟩:=r1;refine fin (.rw j) [] d h rfl rfl ⟨e,?_,?_⟩ (λho=>by rw[h0]at ho;cases ho)
     .unfold kI;rw[bI h1,<-h2];exact g1
     .rcases g2 with⟨k1,k2,rfl|rfl⟩|⟨id,k1,k2,rfl⟩
      .exact .inl ⟨k1,k2,.inr rfl⟩
      .exact .inl ⟨k1,k2,.inr rfl⟩
      .exact .inr ⟨id,k1,k2,rfl⟩
   |_=>cases h
  |_=>cases h
 |[],_::_,_,d,i0,rest,h,_=>by cases h
 |(s,o)::_,[],_,d,i0,rest,h,_=>by cases s<;>cases h
 |_,[],_::_,d,i0,rest,h,hr=>hr.elim
 |_,_::_,[],d,i0,rest,h,hr=>hr.elim
end
end Go.TV
namespace Go.TV
open Go.AI Go.PI
section
variable{P:Program}{U:hY}{T:TP U.D}{c c0:Cx}{W:Type}{r:W}{q p:PSt}{M:TM U.D}
def Xp{x:Nat×Bool}: ∀{rs:jD},leR.memW x rs=true->∃s,(x.1,s)∈rs/\(x.2=true->s=true)
 |y::ys,h=>by
  simp only[leR.memW,Bool.or_eq_true,aC,cR,aD,Bool.not_eq_true']at h;rcases h with⟨h1,h2⟩|h
  .refine⟨y.2,by rw[h1];exact aH ..,λe=>?_⟩
   rcases h2 with h2|h2
   .rw[e]at h2;cases h2
   .exact h2
  .obtain⟨s,h1,h2⟩:=Xp h;exact⟨s,aG _ h1,h2⟩
def R6: ∀{rs gj:jD},leR rs gj=true->∀o s,(o,s)∈rs->∃s',(o,s')∈gj/\(s=true->s'=true)
 |x::rs,gj,h,o,s,hm=>by
  simp only[leR,aC]at h;rcases List.mem_cons.1 hm with rfl|hm
  .exact Xp h.1
  .exact R6 h.2 o s hm
def HZ{rs gj:jD}{cs:List (PV×Bool)}(h:leR rs gj=true)(hb:bA3 gj cs):bA3 rs cs:=λo s hm=>by
 obtain⟨s',h1,h2⟩:=R6 h o s hm;obtain⟨x,h3,h4⟩:=hb o s' h1;exact⟨x,h3,λe=>h4 (h2 e)⟩
def aU1{rs gj:jD}{pv:PV}{ow:Bool}(h:leR rs gj=true)(hb:aBf gj pv ow):aBf rs pv ow:=λo s hm=>by
 obtain⟨s',h1,h2⟩:=R6 h o s hm;rcases hb o s' h1 with h3|⟨h3,h4,h5,h6⟩
 .exact .inl h3
 .exact .inr ⟨h3,h4,h5,λe=>h6 (h2 e)⟩
def BH{bk:List Nat}(Mm:MR U q c0 c M p): ∀{l:List (Sh×jD)} {j:Nat} {e:List (V U)} (rest:List (V U)),Ek U bk M l j=some e->j+l.length<=bk.length->
    ∃M0,CL U (cutOf.bxL l j) (e++rest)=some (M0,rest)/\(∀i b,dG M0 i=some b->∃ce,kI c bk i=some ce/\CY U (kI c bk) p ce b)/\(∀i,i<l.length->dG M.bx (jR bk (j+i))≠none)
 |[],j,e,rest,h,_=>by
  simp only[Ek,aA]at h;subst h;exact⟨[],rfl,λi b h=>(by cases h),λi h=>(by simp at h)⟩
 |(s,rr)::l,j,e,rest,h,hj=>by
  simp only[aM]at hj;unfold Ek at h;split at h
  .rename_i SH rs d hf hd;cases hb:leR rr rs with
   |false=>rw[hb]at h;cases h
   |true=>
    rw[hb]at h;simp only[aI]at h;obtain⟨M0,g1,g2,g3⟩:=BH Mm rest hd (by omega)
    obtain⟨ce,tj,id,cs,hid,bc,hcs,ll⟩:=Mm.bx _ _ hf;have gr:kI c bk j=some ce:=by unfold kI;rw[bI (by omega)];exact tj
    have bm: ∀i,i<((s,rr)::l).length->dG M.bx (jR bk (j+i))≠none:=by
     intro i hi;cases i with
     |zero=>rw[Nat.add_zero,hf];exact λe=>by cases e
     |succ i=>have:=g3 i (by simpa using hi);rwa [show j+(i+1)=j+1+i by omega]
    split at h
    .rename_i t v;cases hv:v.t.beq t with
     |false=>rw[hv]at h;cases h
     |true=>
      rw[hv]at h;simp only[aI,aA]at h;subst h;refine⟨(j,.bx (.val v) rr)::M0,?_,?_,bm⟩
      .simp only[cutOf.bxL,aY,CL,Ra,hv,aI,g1]
      .intro i b bu;rw[gP]at bu;by_cases e1:i=j
       .rw[bI e1]at bu;simp only[aA]at bu;subst bu;subst e1;exact⟨ce,gr,id,cs,hid,bc,hcs,HZ hb ll⟩
       .rw[bH e1]at bu;exact g2 i b bu
    .rename_i f caps f' cp;cases hv:Nat.beq f f'&&vS caps bk.length&&yG (JO (jR bk) caps) cp with
     |false=>rw[hv]at h;cases h
     |true=>
      rw[hv]at h;simp only[aI,aA]at h;subst h;simp only[aC,cR,aD]at hv;obtain⟨⟨rfl,h2⟩,h3⟩:=hv;obtain⟨pv,bb,e1,ps,e2,e3⟩:=hcs;refine⟨(j,.bx (.cl f caps) rr)::M0,?_,?_,bm⟩
      .simp only[cutOf.bxL,CL,Ra,g1]
      .intro i b bu;rw[gP]at bu;by_cases e4:i=j
       .rw[bI e4]at bu;simp only[aA]at bu;subst bu;subst e4;exact⟨ce,gr,id,cs,hid,bc,⟨pv,bb,e1,ps,e2,(LI h2).1 (by rw[wP h3];exact e3)⟩,HZ hb ll⟩
       .rw[bH e4]at bu;exact g2 i b bu
    .cases h
  .rename_i et x d hf hd;obtain⟨M0,g1,g2,g3⟩:=BH Mm rest hd (by omega)
   obtain⟨ce,tj,bh⟩:=Mm.bx _ _ hf;have gr:kI c bk j=some ce:=by unfold kI;rw[bI (by omega)];exact tj
   split at h
   .rename_i t;cases hv:et.beq t with
    |false=>rw[hv]at h;cases h
    |true=>
     rw[hv]at h;simp only[aI,aA]at h;subst h;have:=Ty.beq_eq hv;subst this;refine⟨(j,.row et x)::M0,?_,?_,?_⟩
     .simp only[cutOf.bxL,aY,CL,hv,aI,g1]
     .intro i b bu;rw[gP]at bu;by_cases e1:i=j
      .rw[bI e1]at bu;simp only[aA]at bu;subst bu;subst e1;exact⟨ce,gr,bh⟩
      .rw[bH e1]at bu;exact g2 i b bu
     .intro i hi;cases i with
      |zero=>rw[Nat.add_zero,hf];exact λe=>by cases e
      |succ i=>have:=g3 i (by simpa using hi);rwa [show j+(i+1)=j+1+i by omega]
   .cases h
  .cases h
def dJ: ∀{ts:List Ty} {l:List (V U)} {r:DenL U.D ts},fN ts l=some r->aJx ts r=l
 |[],[],r,h=>rfl
 |t::ts,v::vs,r,h=>by
  unfold fN at h;split at h
  .rename_i x r' h1 h2;simp only[aA]at h;subst h;rw[aJx,dJ h2];have:=oZ h1;simp only;rw[<-this]
  .cases h
 |[],_::_,r,h=>by cases h
 |_::_,[],r,h=>by cases h
def aDH{ts:List Ty}{a:Option (List (V U))}{K:DenL U.D ts->Option W}(h:fY ts a K=some r): ∃l x,a=some l/\aJx ts x=l/\K x=some r:=by
 unfold fY at h;split at h
 .rename_i l;split at h
  .rename_i x hx;exact⟨l,x,rfl,dJ hx,h⟩
  .cases h
 .cases h
def uP: ∀{l:List (Sh×jD)} {rs:List jD} {d:List (V U)} {m:List (BC U.D)},fO U l rs d=some m->m.length=l.length
 |[],[],[],m,h=>by simp only[fO,aA]at h;subst h;rfl
 |(.val t,rr)::l,r::rs,v::d,m,h=>by
  simp only[fO]at h;split at h
  .rename_i m' hm;cases h;simp only[aM,uP hm]
  .cases h
 |(.cl f caps,rr)::l,r::rs,d,m,h=>by
  simp only[fO]at h;split at h
  .rename_i m' hm;cases h;simp only[aM,uP hm]
  .cases h
 |[],_::_,_,_,h=>by simp[fO]at h
 |[],[],_::_,_,h=>by simp[fO]at h
 |(s,rr)::l,[],d,m,h=>by cases s<;>simp[fO]at h
 |(.val t,rr)::l,r::rs,[],m,h=>by simp[fO]at h
 |(.tup _,_)::_,_::_,_,_,h=>by simp[fO]at h
 |(.nl,_)::_,_::_,_,_,h=>by simp[fO]at h
 |(.lc _ _ _,_)::_,_::_,_,_,h=>by simp[fO]at h
 |(.ep _,_)::_,_::_,_,_,h=>by simp[fO]at h
 |(.rw _,_)::_,_::_,_,_,h=>by simp[fO]at h
 |(.nf,_)::_,_::_,_,_,h=>by simp[fO]at h
 |(.row t,rr)::l,r::rs,⟨.sl e,x⟩::d,m,h=>by
  simp only[fO]at h;split at h
  .rename_i m' hm;cases h;simp only[aM,uP hm]
  .cases h
 |(.row t,rr)::l,r::rs,[],m,h=>by simp[fO]at h
 |(.row t,rr)::l,r::rs,⟨.int _,x⟩::d,m,h=>by simp[fO]at h
 |(.row t,rr)::l,r::rs,⟨.bool,x⟩::d,m,h=>by simp[fO]at h
 |(.row t,rr)::l,r::rs,⟨.str,x⟩::d,m,h=>by simp[fO]at h
 |(.row t,rr)::l,r::rs,⟨.rc _,x⟩::d,m,h=>by simp[fO]at h
def EM{bk:List Nat}(hn:bk.Nodup): ∀(m:List (BC U.D)) (j0:Nat) (B:List (Nat×BC U.D)),(∀j,j<m.length->dG B (jR bk (j0+j))≠none)->j0+m.length<=bk.length->∀k,
    (∃j x,m[j]?=some x/\jR bk (j0+j)=k/\dG (OZ U bk m j0 B) k=some (aCo U bk x))∨((∀j,j<m.length->jR bk (j0+j)≠k)/\dG (OZ U bk m j0 B) k=dG B k)
 |[],j0,B,_,_,k=> .inr ⟨λj h=>by simp at h,rfl⟩
 |x::m,j0,B,hB,hl,k=>by
  simp only[aM]at hl;have h0:dG B (jR bk j0)≠none:=by have:=hB 0 (by simp);rwa [Nat.add_zero]at this
  have hB': ∀j,j<m.length->dG (qT B (jR bk j0) (aCo U bk x)) (jR bk (j0+1+j))≠none:=by
   intro j hj;have:=hB (j+1) (by simpa using hj)
   rw[show j0+(j+1)=j0+1+j by omega]at this
   rw[kH];split
   .cases hh:dG B (jR bk j0)with
    |none=>exact(h0 hh).elim
    |some b=>exact λe=>by cases e
   .exact this
  rcases EM hn m (j0+1) (qT B (jR bk j0) (aCo U bk x)) hB' (by omega) k with⟨j,y,h1,h2,h3⟩|⟨h1,h2⟩
  .exact .inl ⟨j+1,y,by rw[aT];exact h1,by rw[<-h2];congr 1;omega,h3⟩
  .by_cases hk:jR bk j0=k
   .refine .inl ⟨0,x,rfl,by rw[Nat.add_zero];exact hk,?_⟩
    rw[OZ,h2,kH,bI hk.symm];cases hh:dG B (jR bk j0)with
    |none=>exact(h0 hh).elim
    |some b=>rfl
   .refine .inr ⟨λj hj=>?_,?_⟩
    .cases j with
     |zero=>rw[Nat.add_zero];exact hk
     |succ j=>have:=h1 j (by simpa using hj);rwa [show j0+(j+1)=j0+1+j by omega]
    .rw[OZ,h2,kH,bH (λe=>hk e.symm)]
def a1p{bk:List Nat}{e:Ce}{x:BC U.D}(h:CY U (kI c bk) p e x):CY U c p e (aCo U bk x):=by
 cases x with
 |bx s r=>
  obtain⟨id,cs,h1,h2,h3,h4⟩:=h;exact⟨id,cs,h1,h2,aAK h3,h4⟩
 |row t l=>exact h
 |gone=>trivial
def MR.call(Mm:MR U q c0 c M p){bk:List Nat}(hn:bk.Nodup){m:List (BC U.D)}(hm:m.length=bk.length)(bm: ∀i,i<bk.length->dG M.bx (jR bk i)≠none){p':PSt}
    (hb: ∀j x,m[j]?=some x->∃e,kI c bk j=some e/\CY U (kI c bk) p' e x) (mj:p'.next=p.next)
    (hg: ∀id,id<p.next->(∀j e,kI c bk j=some e->e.id≠some id)->p'.get id=p.get id)
    (hg2: ∀id,id<p.next->id∉p'.dirty->p'.get id=p.get id)
    (hd: ∀id,id∈p'.dirty->id∈p.dirty∨∃j e,kI c bk j=some e/\e.id=some id) (hd2: ∀id,id∈p.dirty->id∈p'.dirty)
    (hw: ∀id,id∈p'.wr->id∈p.wr∨∃j e,kI c bk j=some e/\e.id=some id):
    MR U q c0 c ⟨OZ U bk m 0 M.bx,bk++M.wr⟩ p'/\(WR U c M p->WR U c ⟨OZ U bk m 0 M.bx,bk++M.wr⟩ p'):=by
 have dj:=EM hn m 0 M.bx (λj hj=>by rw[Nat.zero_add];exact bm j (by omega)) (by omega)
 simp only[Nat.zero_add]at dj;have cck: ∀{j e},kI c bk j=some e->j<bk.length/\c (jR bk j)=some e:=by
  intro j e h;unfold kI at h;split at h
  .rename_i hj;exact⟨hj,h⟩
  .cases h
 have bor: ∀{j e id},kI c bk j=some e->e.id=some id->id<q.next->∃k e,c0 k=some e/\e.id=some id:=by
  intro j e id h1 h2 h3;obtain⟨_,h4⟩:=cck h1;have hk:jR bk j<100:=by
   rcases Nat.lt_or_ge (jR bk j) 100 with h|h
   .exact h
   .have:=Mm.loc _ e id h4 h h2;omega
  exact⟨_,e,Mm.bor _ e h4 hk,h2⟩
 refine⟨⟨λk h=>?_,λk b h=>?_,λk e id h1 h2=>by rw[mj];exact Mm.lt k e id h1 h2,Mm.inj,by rw[mj];exact Mm.next,Mm.bor,Mm.loc,λid hi ho=>?_,λid hi bi=>?_,λid hi=>?_⟩,λhW id hi k e h1 h2=>?_⟩
 .simp only at h;rcases dj k with⟨j,x,h1,h2,h3⟩|⟨h1,h2⟩
  .rw[h3]at h;cases h
  .rw[h2]at h;exact Mm.dom k h
 .simp only at h;rcases dj k with⟨j,x,h1,h2,h3⟩|⟨h1,h2⟩
  .rw[h3]at h;cases h;obtain⟨e,g1,g2⟩:=hb j x h1;obtain⟨_,g3⟩:=cck g1;exact⟨e,by rw[<-h2];exact g3,a1p g2⟩
  .rw[h2]at h;obtain⟨e,g1,g2⟩:=Mm.bx k b h;refine⟨e,g1,xS g2 λid hid=>hg id (Mm.lt k e id g1 hid) λj e' h3 h4=>?_⟩
   obtain⟨g3,g4⟩:=cck h3;exact h1 j (by omega) (Mm.inj _ _ e' e id g4 g1 h4 hid)
 .rw[hg2 id (Nat.lt_of_lt_of_le hi Mm.next) ho]
  exact Mm.old id hi λh=>ho (hd2 id h)
 .rcases hd id hi with h|⟨j,e,h1,h2⟩
  .exact Mm.dirty id h bi
  .exact bor h1 h2 bi
 .rcases hw id hi with h|⟨j,e,h1,h2⟩
  .rw[mj];exact Mm.wr id h
  .rw[mj];exact⟨Mm.lt _ e id (cck h1).2 h2,λbi=>bor h1 h2 bi⟩
 .have happ: ∀{l l':List Nat},dY k (l++l')=(dY k l||dY k l'):=by
   intro l l';rw[Bool.eq_iff_iff,Bool.or_eq_true,jG,jG,jG,List.mem_append]
  show dY k (bk++M.wr)=true;rw[happ,Bool.or_eq_true];rcases hw id hi with h|⟨j,e',h3,h4⟩
  .exact .inr (hW id h k e h1 h2)
  .obtain⟨h5,h6⟩:=cck h3;have:=Mm.inj _ _ e e' id h1 h6 h2 h4;left;rw[jG,this];exact List.mem_of_getElem? (AC bk j h5)
def aSd{bk:List Nat}{own:Bool}{l:List (V U)}{y:PV×Bool}(h:qB U (kI c bk) (CO U own l) y):qB U c (CO U own l) y:=by
 unfold CO at h⊢;split at h<;>exact h
def ZL{own:Bool}{l:List (V U)}{K:X U->Option W}(h:ZM U own l K=some r):K (CO U own l)=some r:=by
 unfold ZM at h;split at h
 .rename_i v b;cases b<;>exact h
 .exact h
def aFB(hU:iE U){tc:nF U.D}{pc:gT}(hc:CallOK U T tc pc){take:Bool}{inst:Nat}{bk:List Nat}{S:TS U.D}{S':PS}(F:lW U c S S'){cl:Call}{f:Operand}{K:X U->TS U.D->TM U.D->Option W}
    (fe:cl.callee= .value f) (h:G1 U T tc take inst bk S M (jJ U S f).1 cl.args.toList K=some r) (Mm:MR U q c0 c M p):
    ∃x S2 M' v own p' g args,K x S2 M'=some r/\sF take S' cl=some (g,args)/\pc g args p=some (v,own,p')/\qB U c x (v,own)/\lW U c S2 (lX take S' cl.args.toList).2/\MR U q c0 c M' p'/\(WR U c M p->WR U c M' p')/\p'.next=p.next:=by
 have rf:=(dB F f).1;unfold G1 at h;split at h
 .rename_i g caps s hf hs;rw[hf]at rf;obtain⟨ps,e1,e2⟩:=rf;have e1:cP S' f= .fn g [] ps:=e1;split at h
  .rename_i d e hd he;cases hb:Nat.beq g s.f&&PE bk&&Nat.beq bk.length s.bx.length with
   |false=>rw[hb]at h;cases h
   |true=>
    rw[hb]at h;simp only[aI]at h;simp only[aC,cR,aD]at hb;obtain⟨⟨hg,gl⟩,hlen⟩:=hb;have gl:=Co gl;obtain⟨out,x,h1,h2,h⟩:=aDH h;split at h
    .rename_i m hm;obtain⟨g1,g2⟩:=Pm (take:=take) (args:=cl.args.toList) F;have g3:=CE g2 (XS (take:=take) e2);obtain⟨k1,S0,k2,k3⟩:=GJ hU 0 e hd g3;obtain⟨M0,k4,k5,k6⟩:=BH Mm [] he (by omega)
     rw[bA]at k4;have hin:FA U s (d++e) p (kI c bk) ((lX take S' cl.args.toList).1++rG ps) S0 ⟨M0,[]⟩:=by
      refine⟨?_,k1,λi y hy=>?_,k5,λj hj=>?_,λj e id h1 h2=>?_,λk k' e e' id h1 h2 h3 h4=>?_,λid hi=>(Mm.wr id hi).1⟩
      .simp only[HL,cutOf,k2,k4]
      .have:=k3 i y hy;rwa [Nat.zero_add]at this
      .unfold kI;rw[bH (by omega)]
      .unfold kI at h1;split at h1
       .exact Mm.lt _ e id h1 h2
       .cases h1
      .unfold kI at h1 h2;split at h1
       .rename_i hk;split at h2
        .rename_i jb;exact aK5 gl hk jb (Mm.inj _ _ e e' id h1 h2 h3 h4)
        .cases h2
       .cases h1
     obtain⟨pv,own,p',j1,j2⟩:=hc inst s _ out hs h1 p (kI c bk) _ S0 _ hin;have h:=ZL h;rw[h2]at hm h;obtain⟨m',j3,j4⟩:=j2.out;rw[hm]at j3;cases j3;obtain⟨j5,j6⟩:=Mm.call gl (m:=m) (by rw[uP hm,hlen]) (λi hi=>by have:=k6 i (by omega);rwa [Nat.zero_add]at this) j4 j2.next j2.get j2.get2 j2.dirty j2.dirty2 j2.wr
     refine⟨_,_,_,pv,own,p',s.f,_,h,?_,j1,aSd j2.res,g1,j5,j6,j2.next⟩
     simp only[sF,fe,e1,hg,rG,aW]
    .cases h
  .cases h
 .cases h
end
end Go.TV
namespace Go.TV
open Go.AI Go.PI
section
variable{P:Program}{U:hY}{T:TP U.D}{c c0:Cx}{W:Type}{r:W}{q p:PSt}{M:TM U.D}
def Post(P:Program)(U:hY)(pc:gT)(sq take:Bool)(o:Oper)(S':PS)(p q:PSt)(c0 c:Cx)(M:TM U.D)(K:X U->TS U.D->TM U.D->Option W)(r:W):Prop:=
 ∃c' x S2 M2 v own S2' p',K x S2 M2=some r/\Gy P pc sq o take S' p=some (v,own,S2',p')/\leC c c'/\qB U c' x (v,own)/\lW U c' S2 S2'/\MR U q c0 c' M2 p'/\(WR U c M p->WR U c' M2 p')/\p.next<=p'.next
def Rp{take:Bool}{p p':PSt}{t:TypeId}{a v:PV}{own:Bool}(h:uI P take p t a=some (v,own,p')):p.next<=p'.next:=by
 have hm:(fX p a).1.next=p.next:=by
  unfold fX;split
  .split
   .split<;>rfl
   .rfl
  .rfl
 unfold uI at h;split at h
 .rename_i w _;cases hb:take&&CS w with
  |true=>rw[hb]at h;simp only[aI,aA,aB]at h;rw[<-h.2.2,hm];exact aS _
  |false=>rw[hb]at h;simp only[aJ,aA,aB]at h;rw[<-h.2.2];exact aS _
 .cases h
def Pa{p p':PSt}{t:TypeId}{a x:PV}{own:Bool}(h:oR P p t a x own=some p'):p.next<=p'.next:=by
 unfold oR at h;simp only[Bool.cond_eq_ite]at h
 repeat' split at h
 all_goals first|(cases h;done)|(simp only[aA]at h;rw[<-h];exact aS _)
def uN{p p':PSt}{S':PS}{o:Oper}{v:PV}{own:Bool}(h:fB P p S' o=some (v,own,p')):p.next<=p'.next:=by
 unfold fB at h;simp only[Bool.cond_eq_ite]at h
 repeat' split at h
 all_goals first|(cases h;done)|(simp only[aA,aB]at h;rw[<-h.2.2];first|exact aS _|exact Nat.le_succ _)
def E9{K:Nat->Option W}{m:Int}: ∀{f j0:Nat},a1B K m j0 f=some r->∃j,j0<=j/\j<j0+f/\m=(j:Int)/\K j=some r
 |0,_,h=>by cases h
 |f+1,j0,h=>by
  unfold a1B at h;by_cases e:m=(j0:Int)
  .rw[bF e]at h;exact⟨j0,aS _,by omega,e,h⟩
  .rw[bG e]at h;obtain⟨j,h1,h2,h3,h4⟩:=E9 h;exact⟨j,by omega,by omega,h3,h4⟩
def Gr(te:Ty): ∀j:Nat,eP U (List.replicate j te)=j*dC U te
 |0=>by simp[eP]
 |j+1=>by
  rw[List.replicate_succ,Nat.succ_mul];simp only[eP];rw[Gr te j];omega
def aLd(hT:rT P U T)(Mm:MR U q c0 c M p){t:TypeId}{x:SV U.D}{v:PV}{K:X U->Option W}(h:aAs U M (T.T.ty t) x K=some r)(ra:uC U c x v):
    ∃y w,K y=some r/\CP P t v=some w/\qB U c y (w,false):=by
 unfold aAs at h;split at h
 .rename_i k;split at h
  .rename_i e e' l ht hf;cases he:e.beq e' with
   |false=>rw[he]at h;cases h
   |true=>
    rw[he]at h;have:=Ty.beq_eq he;subst this;obtain⟨ce,g1,g2⟩:=ra;obtain⟨ce',g1',hn,hz,_⟩:=Mm.bx _ _ hf;rw[g1]at g1';cases g1';obtain⟨fm,hu,_⟩:=hT.un t _ ht;refine⟨_,i64 (l.length:Int),h,?_,hJ _ _,bV _ _⟩;rcases g2 with⟨_,hn0,rfl|rfl⟩|⟨id,_,_,rfl⟩
    .simp only[CP,hu,aX];rw[<-hn,hn0]
    .simp only[CP,hu];rw[<-hn,hn0];rfl
    .simp only[CP,hu];rw[hn]
  .cases h
 .exact aLb hT h ra
variable{pc:gT}{sq take:Bool}{o:Oper}{S:TS U.D}{S':PS}{K:X U->TS U.D->TM U.D->Option W}
def Bz(Mm:MR U q c0 c M p)(hk:cO o= .pure){x:X U}{S2:TS U.D}{v:PV}{own:Bool}{S2':PS}(h:K x S2 M=some r)(hp:dX P take S' o=some (v,own,S2'))(hx:qB U c x (v,own))(hF:lW U c S2 S2'):Post P U pc sq take o S' p q c0 c M K r:=
 ⟨c,x,S2,M,v,own,S2',p,h,by simp only[Gy,hk,DY,hp,aK],leC.refl c,hx,hF,Mm,λhw=>hw,aS _⟩
def gC(Mm:MR U q c0 c M p)(F:lW U c S S')(hk:cO o= .pure){x:X U}{v:PV}(h:K x S M=some r)(hp:dX P take S' o=some (v,false,S'))(hx:qB U c x (v,false)):Post P U pc sq take o S' p q c0 c M K r:=
 Bz Mm hk h hp hx F
def Qk(F:lW U c S S'): ∀{l:List Operand} {ks:List Nat},Ql U S l=some ks->yH c ks (wks (l.map (cP S')))
 |[],ks,h=>by simp only[Ql,aA]at h;subst h;trivial
 |x::l,ks,h=>by
  unfold Ql at h;split at h
  .rename_i k ks' hx hl;simp only[aA]at h;subst h;have h1:=(dB F x).1;rw[hx]at h1;obtain⟨e,id,g1,g2,g3⟩:=h1;have g3:cP S' x= .ptr id 0:=g3;refine⟨⟨e,id,g1,g2,by rw[g3];rfl⟩,Qk F hl⟩
  .cases h
variable(hU:iE U)(hT:rT P U T)
include hU hT
def aDy{tc:nF U.D}(hc:CallOK U T tc pc)(F:lW U c S S')(Mm:MR U q c0 c M p){inst:Nat}{bk:List Nat}(h:Cl U T tc sq take inst bk o S M K=some r):Post P U pc sq take o S' p q c0 c M K r:=by
 obtain⟨dst,op,ty,pos,jm,jl⟩:=o;have mv: ∀(x:Operand),(bif take then K (jJ U S x) (uY U S x) M else K (tH U (jJ U S x)) S M)=some r->(op= .move x∨op= .assign x)->Post P U pc sq take ⟨dst,op,ty,pos,jm,jl⟩ S' p q c0 c M K r:=by
  intro x h ho;cases take with
  |true=>
   refine Bz Mm ?_ h (v:=cP S' x) (own:=iG S' x) (S2':=mX S' x) ?_ (dB F x) (rN F x)
   .rcases ho with rfl|rfl<;>rfl
   .rcases ho with rfl|rfl<;>rfl
  |false=>
   refine gC Mm F ?_ h (v:=cP S' x) ?_ (vA (dB F x))
   .rcases ho with rfl|rfl<;>rfl
   .rcases ho with rfl|rfl<;>rfl
 cases op with
 |move x=>exact mv x h (.inl rfl)
 |assign x=>exact mv x h (.inr rfl)
 |pick w a b=>
  simp only[Cl]at h;split at h
  .rename_i wb hw;have h1:=(dB F w).1;rw[hw]at h1;have h1:=of_bool h1;have h1:cP S' w= .v (.bool wb):=h1;obtain⟨x,h2,h3⟩:=aDp h (dB F a) (dB F b);refine gC Mm F rfl h2 ?_ h3;simp only[dX,h1];cases wb<;>rfl
  .cases h
 |build t parts=>
  simp only[Cl]at h;split at h
  .rename_i n ht;split at h
   .rename_i l hl;obtain⟨x,hx,h⟩:=oL h;obtain⟨w,h1,h2⟩:=aFE hU hT F ht hl hx;exact gC Mm F rfl h (by simp only[dX,h1,aK]) h2
   .cases h
  .cases h
 |nilCheck x=>
  simp only[Cl]at h;have h1:=(dB F x).1;split at h
  .rename_i k off path hx;rw[hx]at h1;have h2:=h1;obtain⟨e,id,g1,g2,g3⟩:=h1;have g3:cP S' x= .ptr id off:=g3;exact gC Mm F rfl h (v:= .ptr id off) (by simp only[dX,g3]) ⟨⟨e,id,g1,g2,rfl⟩,bV _ _⟩
  .rename_i v hx;rw[hx]at h1;obtain⟨es,i,off,e,g1,g2,g3⟩:=h1;have g1:cP S' x= .pin es i off:=g1;exact gC Mm F rfl h (v:= .pin es i off) (by simp only[dX,g1]) ⟨⟨es,i,off,e,rfl,g2,g3⟩,bV _ _⟩
  .rename_i k i off path hx;rw[hx]at h1;obtain⟨e,id,g1,g2,g3,g4,g5⟩:=h1;have g5:cP S' x= .ptr id (i.toNat*e.z+off):=g5;exact gC Mm F rfl h (v:= .ptr id (i.toNat*e.z+off)) (by simp only[dX,g5]) ⟨⟨e,id,g1,g2,g3,g4,rfl⟩,bV _ _⟩
  .cases h
 |binOp op t x y t'=>
  simp only[Cl]at h;obtain⟨v,w,h1,h2,h3⟩:=aMO hU hT (x:=x) (y:=y) h (aBh hU (dB F x).1) (aBh hU (dB F y).1);have h2:lA P op t x y (cP S' x) (cP S' y)=some w:=h2;exact gC Mm F rfl h1 (by simp only[dX,h2,aK]) ⟨h3,bV _ _⟩
 |unOp op t x=>
  simp only[Cl]at h;obtain⟨v,w,h1,h2,h3⟩:=aRl (P:=P) h (dB F x).1;have h2:a5O P op (cP S' x)=some w:=h2;exact gC Mm F rfl h1 (by simp only[dX,h2,aK]) ⟨h3,bV _ _⟩
 |convert s d x=>
  simp only[Cl]at h;obtain⟨v,w,h1,h2,h3⟩:=aFs hT h (dB F x).1;rcases h3 with h3|⟨hs,h3,h4⟩
  .have h3:yM P s d (cP S' x)=some w:=h3;exact gC Mm F rfl h1 (by simp only[dX,h3,aK]) ⟨h2,bV _ _⟩
  .have h3:yM P s d (cP S' x)=none:=h3;have h4:BB P s d (cP S' x)=some w:=h4;refine⟨c,_,S,M,w,false,S',p,h1,?_,leC.refl c,⟨h2,bV _ _⟩,F,Mm,λhw=>hw,aS _⟩
   rw[hs];simp only[Gy,cO,DY,dX,h3,Option.map_none,aI,h4,aK]
 |makeFunc fn first captured=>
  simp only[Cl]at h;split at h
  .rename_i f ks h1 h2;refine gC Mm F rfl h (v:= .fn f (wks (first.toList.map (cP S'))) (wks (captured.toList.map (cP S')))) rfl ⟨⟨_,?_,Qk F h2⟩,bV _ _⟩
   rw[h1];rfl
  .cases h
 |fieldAddr s x f=>
  simp only[Cl]at h;have h1:=(dB F x).1;split at h
  .rename_i n k off path ht hx;rw[hx]at h1;obtain⟨e,id,g1,g2,g3⟩:=h1;have g3:cP S' x= .ptr id off:=g3;cases hf:Nat.blt f (U.fs n).length with
   |false=>rw[hf]at h;cases h
   |true=>
    rw[hf]at h;rw[gW,aD]at hf;have:=(qH hU hT ht hf).1 id off;exact gC Mm F rfl h (by simp only[dX,g3,this,aK]) ⟨⟨e,id,g1,g2,rfl⟩,bV _ _⟩
  .rename_i n v ht hx;rw[hx]at h1;cases hb:v.t.beq (.rc n)with
   |false=>rw[hb]at h;cases h
   |true=>
    rw[hb]at h;simp only[aI]at h;split at h
    .rename_i w hw;obtain⟨q1,h2,h3⟩:=Km hU hT ht hb hw h1;have h2:iF P s (cP S' x) f=some q1:=h2;exact gC Mm F rfl h (by simp only[dX,h2,aK]) ⟨h3,bV _ _⟩
    .cases h
  .rename_i n k i off path ht hx;rw[hx]at h1;obtain⟨e,id,g1,g2,g3,g4,g5⟩:=h1;have g5:cP S' x= .ptr id (i.toNat*e.z+off):=g5;cases hf:Nat.blt f (U.fs n).length with
   |false=>rw[hf]at h;cases h
   |true=>
    rw[hf]at h;rw[gW,aD]at hf;have:=(qH hU hT ht hf).1 id (i.toNat*e.z+off);exact gC Mm F rfl h (v:= .ptr id (i.toNat*e.z+off+kF U n f)) (by simp only[dX,g5,this,aK]) ⟨⟨e,id,g1,g2,g3,g4,by simp only[Nat.add_assoc]⟩,bV _ _⟩
  .cases h
 |field t x f=>
  simp only[Cl]at h;have h1:=dB F x;split at h
  .rename_i n v rs ht hx;rw[hx]at h1;cases hb:v.t.beq (.rc n)with
   |false=>rw[hb]at h;cases h
   |true=>
    rw[hb]at h;simp only[aI]at h;split at h
    .rename_i w hw;obtain⟨q1,h2,h3⟩:=aEZ hU hT ht hb hw h1;exact gC Mm F rfl h (by simp only[dX,h2,aK]) h3
    .cases h
  .cases h
 |indexAddr t x i=>
  simp only[Cl]at h;have h1:=(dB F x).1;have h2:=(dB F i).1;split at h
  .rename_i e e' l k n ht hx hi;rw[hx]at h1;rw[hi]at h2;have h2:cP S' i= .v (.int k n):=iQ h2;cases he:e.beq e' with
   |false=>rw[he]at h;cases h
   |true=>
    rw[he]at h;obtain⟨y,hy,h⟩:=oL h;obtain⟨q1,g1,g2⟩:=JW hU hT (k:=k) ht he hy h1;have g1:gD P t (cP S' x) (.v (.int k n))=some q1:=g1;exact gC Mm F rfl h (by simp only[dX,h2,g1,aK]) ⟨g2,bV _ _⟩
  .rename_i e kk k n ht hx hi;rw[hx]at h1;rw[hi]at h2;have h2:cP S' i= .v (.int k n):=iQ h2;split at h
   .rename_i e' l hf;cases he:e.beq e' with
    |false=>rw[he]at h;cases h
    |true=>
     rw[he]at h;have:=Ty.beq_eq he;subst this;obtain⟨hin,h⟩:=fM h;obtain⟨ce,g1,g2⟩:=h1;obtain⟨ce',g1',hn,hz,_⟩:=Mm.bx _ _ hf;rw[g1]at g1';cases g1';obtain⟨fm,hu,gz,_⟩:=hT.un t _ ht;simp only[cV,aC,aD]at hin;rcases g2 with⟨_,hn0,_⟩|⟨id,g3,g4,g5⟩
     .have b1:(0:Int)<=n:=hin.1;have b2:(n:Int)<(l.length:Int):=hin.2;omega
     .have g5:cP S' x= .rs id 0 ce.n:=g5;have hin':cV n ce.n=true:=by rw[hn];simp only[cV,aC,aD];exact hin
      refine gC Mm F rfl h (v:= .ptr id (0+Int.toNat n*dC U e)) ?_ ⟨⟨ce,id,g1,g3,hin.1,by rw[hn];exact hin.2,by rw[hz,Nat.zero_add,Nat.add_zero]⟩,bV _ _⟩
      simp only[dX,h2,g5,gD,hu,hT.sz _ _ gz,hin',aI,aK]
   .cases h
  .rename_i n kk off pp k m ht hx hi;rw[hx]at h1;rw[hi]at h2;have h2:cP S' i= .v (.int k m):=iQ h2;cases ha:T.T.arr t with
   |false=>rw[ha]at h;cases h
   |true=>
    rw[ha]at h;obtain⟨j,_,hj,hm,h⟩:=E9 h;obtain⟨len,e,te,hu,hz,hf⟩:=hT.arr t n ht ha;obtain⟨ce,id,g1,g2,g3⟩:=h1;have g3:cP S' x= .ptr id off:=g3;rw[hf,List.length_replicate,Nat.zero_add]at hj;have hin:cV m len=true:=by rw[hm];simp only[cV,aC,aD];omega
    have ho:kF U n j=j*dC U te:=by rw[kF,hf,List.take_replicate,Nat.min_eq_left (by omega)];exact Gr _ _
    refine gC Mm F rfl h (v:= .ptr id (off+Int.toNat m*dC U te)) ?_ ⟨⟨ce,id,g1,g2,by rw[ho,hm];rfl⟩,bV _ _⟩
    simp only[dX,h2,g3,gD,hu,hz,hin,aI,aK]
  .rename_i n v k m ht hx hi;rw[hx]at h1;rw[hi]at h2;have h2:cP S' i= .v (.int k m):=iQ h2;cases hb:(T.T.arr t&&v.t.beq (.rc n))with
   |false=>rw[hb]at h;cases h
   |true=>
    rw[hb]at h;rw[aC]at hb;rw[aI]at h;obtain⟨j,_,hj,hm,h5⟩:=E9 h;clear h;subst hm;split at h5
    .rename_i w hw;obtain⟨q1,g2,g3⟩:=JX (k:=k) hU hT ht hb.1 hb.2 hw h1;have g2:gD P t (cP S' x) (.v (.int k (j:Int)))=some q1:=g2;exact gC Mm F rfl h5 (by simp only[dX,h2,g2,aK]) ⟨g3,bV _ _⟩
    .cases h5
  .cases h
 |index t x i=>
  simp only[Cl]at h;have h1:=(dB F x).1;have h2:=(dB F i).1;split at h
  .rename_i s k n ht hx hi;rw[hx]at h1;rw[hi]at h2;have h2:cP S' i= .v (.int k n):=iQ h2;obtain⟨b,hb,h⟩:=oL h;have g1:=aEh hT (k:=k) ht hb h1;have g1:BA P t (cP S' x) (.v (.int k n))=some (.v (.int .u8 (b.toNat:Int))):=g1;exact gC Mm F rfl h (by simp only[dX,h2,g1,aK]) ⟨hJ _ _,bV _ _⟩
  .cases h
 |extract x i=>
  simp only[Cl]at h;have h1:=(dB F x).1;split at h
  .rename_i l hx;rw[hx]at h1;obtain⟨ps,g1,g2⟩:=h1;have g1:cP S' x= .tup ps:=g1;split at h
   .rename_i v hv;have g3:ps[i]?=some (dD U v.t v.x):=by rw[g2,List.getElem?_map,hv];rfl
    cases mu:(take&&Nat.beq i 0)with
    |false=>
     rw[mu,aJ]at h;refine gC Mm F rfl h (by simp only[dX,g1,mu,aJ,g3,aK]) ⟨⟨XI hU _ _,Di (tR hU _ _)⟩,bV _ _⟩
    |true=>
     rw[mu,aI]at h;have hi:=mu;simp only[aC,cR,aD]at hi;obtain⟨_,rfl⟩:=hi;refine Bz Mm rfl h (v:=dD U v.t v.x) (own:=iG S' x) (S2':=mX S' x) (by simp only[dX,g1,mu,aI,g3,aK]) ⟨⟨XI hU _ _,Di (tR hU _ _)⟩,?_⟩ (rN F x)
     cases cy:Ct v.t with
     |false=>exact bV _ _
     |true=>
      intro o s hm;rcases(dB F x).2 o s hm with⟨ha,_⟩|⟨ho,_,hw,hs⟩
      .have ha:isAgg (cP S' x)=true:=ha;rw[g1]at ha;cases ha
      .have hw:(iG S' x||kM (cP S' x))=true:=hw;rw[g1,show kM (.tup ps)=false from rfl,Bool.or_false]at hw
       have hg:gd (dD U v.t v.x)=true:=by
        obtain⟨vt,vx⟩:=v;cases vt with
        |sl t=>exact eR _ _
        |_=>cases cy
       refine .inr ⟨ho,?_,by show(iG S' x||_)=true;rw[hw];rfl,λ_=>BL hg⟩
       refine oO (U:=U) (v:=v) ⟨XI hU _ _,Di (tR hU _ _)⟩ ?_;cases gw:v.t with
       |rc n=>rw[gw]at cy;cases cy
       |_=>rfl
   .cases h
  .cases h
 |load t a=>
  simp only[Cl]at h;obtain⟨x,M',v,own,p',h1,h2,h3,h4,h5⟩:=aXS hU hT h (dB F a).1 Mm;refine⟨c,x,S,M',v,own,S',p',h1,?_,leC.refl c,h3,F,h4,h5,Rp h2⟩;have:mW P p S' ⟨dst,.load t a,ty,pos,jm,jl⟩ take=some (v,own,p'):=by
   simp only[mW];unfold uI at h2;exact h2
  simp only[Gy,cO,this,aK]
 |slice t x lo hi mx=>
  simp only[Cl]at h;obtain⟨y,w,own,h1,h2,h3⟩:=aSa hT F (p:=p) h (dB F x).1;have h2:kZ P p t (cP S' x) (lo.map (cP S')) (hi.map (cP S')) (mx.map (cP S'))=some (w,own):=h2;exact⟨c,y,S,M,w,own,S',p,h1,by simp only[Gy,cO,mW,h2,aK],leC.refl c,h3,F,Mm,λhw=>hw,aS _⟩
 |alloc t=>
  simp only[Cl]at h;obtain⟨c',x,M',v,p',h1,h2,h3,h4,h5,h6⟩:=a1F hU hT (S':=S') (o:=⟨dst,.alloc t,ty,pos,jm,jl⟩) rfl h Mm;exact⟨c',x,S,M',v,false,S',p',h1,by simp only[Gy,cO,h2,aK],h3,h4,Sf h3 F,h5,h6,uN h2⟩
 |box t x=>
  simp only[Cl]at h;obtain⟨c',x,M',v,p',h1,h2,h3,h4,h5,h6⟩:=a1l hU F (P:=P) (o:=⟨dst,.box t x,ty,pos,jm,jl⟩) rfl h Mm;exact⟨c',x,S,M',v,false,S',p',h1,by simp only[Gy,cO,h2,aK],h3,h4,Sf h3 F,h5,h6,uN h2⟩
 |buildSlice t len parts=>
  simp only[Cl]at h;split at h
  .rename_i e ht;cases hb:Nat.ble (len*dC U e) 1000000 with
   |false=>rw[hb]at h;cases h
   |true=>
    rw[hb]at h;simp only[aI]at h;split at h
    .rename_i l hl;obtain⟨w,h1,h2⟩:=Gi hU hT F (p:=p) (o:=⟨dst,.buildSlice t len parts,ty,pos,jm,jl⟩) rfl ht hb hl;exact⟨c,_,S,M,w,true,S',p,h,by simp only[Gy,cO,h1,aK],leC.refl c,h2,F,Mm,λhw=>hw,aS _⟩
    .cases h
  .cases h
 |makeSlice t l k=>
  simp only[Cl]at h;obtain⟨c',x,M',v,own,p',h1,h2,h3,h4,h5,h6⟩:=aXp hU hT F (o:=⟨dst,.makeSlice t l k,ty,pos,jm,jl⟩) rfl h Mm;exact⟨c',x,S,M',v,own,S',p',h1,by simp only[Gy,cO,h2,aK],h3,h4,Sf h3 F,h5,h6,uN h2⟩
 |store t a x=>
  simp only[Cl]at h;obtain⟨M',p',h1,h2,h3,h4⟩:=aR5 hU hT h (dB F a).1 (dB F x) Mm;have h2:oR P p t (cP S' a) (cP S' x) (iG S' x)=some p':=h2;exact⟨c,_,_,M',.und,false,mX S' x,p',h1,by simp only[Gy,cO,FX,h2,aK],leC.refl c,⟨trivial,bV _ _⟩,rN F x,h3,h4,Pa h2⟩
 |call cl=>
  simp only[Cl]at h;split at h
  .rename_i fe;split at h
   .rename_i t x ht hx;obtain⟨y,w,h1,h2,h3⟩:=aLd hT Mm h (dB F x).1;have h2:CP P t (cP S' x)=some w:=h2;exact gC Mm F (by simp only[cO,fe]) h1 (by simp only[dX,fe,ht,hx,h2,aK]) h3
   .cases h
  .rename_i fe;split at h
   .rename_i x y hx;obtain⟨z,w,h1,h2,h3⟩:=aDX (P:=P) (ts:=cl.argTypes) (ty:=ty) h (dB F x).1 (dB F y).1;have h2:oJ P false cl.argTypes ty [cP S' x,cP S' y]=some w:=h2;exact gC Mm F (by simp only[cO,fe]) h1 (by simp only[dX,fe,hx,aO,List.map_nil,h2,aK]) h3
   .cases h
  .rename_i fe;split at h
   .rename_i x y hx;obtain⟨z,w,h1,h2,h3⟩:=aDX (P:=P) (ts:=cl.argTypes) (ty:=ty) h (dB F x).1 (dB F y).1;have h2:oJ P true cl.argTypes ty [cP S' x,cP S' y]=some w:=h2;exact gC Mm F (by simp only[cO,fe]) h1 (by simp only[dX,fe,hx,aO,List.map_nil,h2,aK]) h3
   .cases h
  .rename_i fe;split at h
   .rename_i s x hx;obtain⟨y,v,own,h1,h2,h3⟩:=a1C hU hT F h;exact⟨c,y,_,M,v,own,mX S' s,p,h1,by simp only[Gy,cO,fe,FX,hx,h2,aK],leC.refl c,h3,rN F s,Mm,λhw=>hw,aS _⟩
   .cases h
  .rename_i f fe;obtain⟨x,S2,M',v,own,p',g,args,h1,h2,h3,h4,h5,h6,h7,h8⟩:=aFB hU hc F fe h Mm;exact⟨c,x,S2,M',v,own,_,p',h1,by simp only[Gy,cO,fe,FX,h2,h3,aK],leC.refl c,h4,h5,h6,h7,by rw[h8];exact aS _⟩
  .cases h
 |_=>cases h
end
end Go.TV
namespace Go.TV
open Go.AI Go.PI
section
variable{P:Program}{U:hY}{T:TP U.D}{c c0:Cx}{W:Type}{r:W}{q p:PSt}{M:TM U.D}{S:TS U.D}{S':PS}{pc:gT}
def V1:qB U c (.tup [],[]) (.tup [],false):=⟨⟨[],rfl,rfl⟩,bV _ _⟩
def aEL{ops:Array Oper}{o:Oper}{run skip:TS U.D->Option W}(h:aZI U ops o S run skip=some r)(F:lW U c S S'):
    ∃S1,lW U c S1 S'/\((mN ops S' o=some true/\run S1=some r)∨(mN ops S' o=some false/\skip S1=some r)):=by
 unfold aZI at h;split at h
 .rename_i hg;exact⟨S,F,.inl ⟨by simp only[mN,hg],h⟩⟩
 .rename_i j want hg;split at h
  .cases h
  .rename_i d hd;have hs:=F d;split at h
   .rename_i b rr hx;rw[hx]at hs;have hb:(S'.at d).1= .v (.bool b):=of_bool hs.1;have hpw:mN ops S' o=some (b==want):=by simp only[mN,hg,hd,aK,hb]
    have hF: ∀b',b=b'->lW U c ((d,(.val ⟨.bool,b'⟩,rr))::S) S':=λb' e=>PX F (by rw[<-e];exact hs)
    rcases E1 h with⟨rfl,h⟩|⟨rfl,h⟩
    .cases want with
     |true=>exact⟨_,hF true rfl,.inl ⟨hpw,h⟩⟩
     |false=>exact⟨_,hF true rfl,.inr ⟨hpw,h⟩⟩
    .cases want with
     |true=>exact⟨_,hF false rfl,.inr ⟨hpw,h⟩⟩
     |false=>exact⟨_,hF false rfl,.inl ⟨hpw,h⟩⟩
   .rename_i rr hx;rw[hx]at hs;obtain⟨ps,e1,e2⟩:=hs.1;have hb:(S'.at d).1= .tup []:=by rw[e1,e2];rfl
    exact⟨S,F,.inr ⟨by simp only[mN,hg,hd,aK,hb],h⟩⟩
   .cases h
variable(hU:iE U)(hT:rT P U T)
include hU hT
def XV{oA oI oS:Oper}{K:TS U.D->Option W}(h:SW U T oA oI oS S K=some r)(F:lW U c S S'):
    ∃S1 S1',K S1=some r/\GB P S' oA oI oS=some S1'/\lW U c S1 S1':=by
 unfold SW at h;split at h
 .rename_i cl a t1 a' n b t2 b' x e1 e2 e3 e4 e5 e6;split at h
  .rename_i s zz e7 e8;cases hb:Nat.beq a a'&&Nat.beq b b'&& !Nat.beq a b&& !NO a n&& !NO a x&& !NO b x&&oA.guard.isNone&&oI.guard.isNone&&oS.guard.isNone with
   |false=>rw[hb]at h;cases h
   |true=>
    rw[hb]at h;simp only[aI]at h;obtain⟨y,w,v,h1,h2,h3,h4⟩:=aMX hU hT F h;refine⟨_,((mX S' s).put (some a) v true).put (some b) (aAh v) false,h1,by simp only[GB,e1,e2,e3,e4,e5,e6,e7,e8,hb,aI,h2,aK],?_⟩
    exact sS (sS (rN F s) h3) ⟨h4,bV _ _⟩
  .cases h
 .cases h
def runT_ok{tc:nF U.D}(hc:CallOK U T tc pc){ops:Array Oper}{K:TS U.D->TM U.D->Option W}: ∀(sc:List TStep) (S:TS U.D) (M:TM U.D) (S':PS) (p:PSt) (c:Cx),lW U c S S'->MR U q c0 c M p->zI U T tc ops sc S M K=some r->
    ∃c' S1 M1 S1' p',K S1 M1=some r/\xX P pc ops (sc.map TStep.un) S' p=some (S1',p')/\leC c c'/\lW U c' S1 S1'/\MR U q c0 c' M1 p'/\p.next<=p'.next
 |[],S,M,S',p,c,F,Mm,h=>⟨c,S,M,S',p,h,rfl,leC.refl c,F,Mm,aS _⟩
 | .app a i s::rest,S,M,S',p,c,F,Mm,h=>by
  unfold zI at h;split at h
  .rename_i oA oI oS e1 e2 e3;obtain⟨S1,S1',h1,h2,h3⟩:=XV hU hT h F;obtain⟨c',S2,M2,S2',p',g1,g2,g3⟩:=runT_ok hc rest S1 M S1' p c h3 Mm h1;refine⟨c',S2,M2,S2',p',g1,?_,g3⟩;simp only[aO,TStep.un,xX,e1,e2,e3,h2,g2]
  .cases h
 | .freeze t::rest,S,M,S',p,c,F,Mm,h=>by
  unfold zI at h;split at h
  .rename_i R hR;obtain⟨S1',p1,h1,h2,h3,h4⟩:=Se hU F hR Mm;obtain⟨c',S2,M2,S2',p',g1,g2,g3,g4,g5,g6⟩:=runT_ok hc rest R.1 R.2 S1' p1 c h2 h3 h;refine⟨c',S2,M2,S2',p',g1,?_,g3,g4,g5,Nat.le_trans (pfreeze_next h1) g6⟩;simp only[aO,TStep.un,xX,h1,g2]
  .cases h
 | .op i take inst bk::rest,S,M,S',p,c,F,Mm,h=>by
  unfold zI at h;split at h
  .cases h
  .rename_i o ho;obtain⟨S0,F0,h|h⟩:=aEL h F
   .obtain⟨hw,h⟩:=h;obtain⟨c1,x,S1,M1,v,own,S1',p1,h1,h2,h3,h4,h5,h6,_,h7⟩:=aDy hU hT hc F0 Mm h;obtain⟨c',S2,M2,S2',p',g1,g2,g3,g4,g5,g6⟩:=runT_ok hc rest _ M1 _ p1 c1 (AQ h5 h4) h6 h1;refine⟨c',S2,M2,S2',p',g1,?_,leC.trans h3 g3,g4,g5,Nat.le_trans h7 g6⟩;simp only[aO,TStep.un,xX,ho,hw,h2,g2]
   .obtain⟨hw,h⟩:=h;obtain⟨c',S2,M2,S2',p',g1,g2,g3⟩:=runT_ok hc rest _ M _ p c (AQ F0 V1) Mm h;refine⟨c',S2,M2,S2',p',g1,?_,g3⟩;simp only[aO,TStep.un,xX,ho,hw,g2]
where
 pfreeze_next {p p1:PSt} {S' S1':PS} {t:Nat} (h:jZ p S' t=some (S1',p1)):p.next<=p1.next:=by
  unfold jZ at h;split at h
  .rename_i R hR;cases h;unfold a8G at hR;simp only[Bool.cond_eq_ite]at hR
   repeat' split at hR
   all_goals first|(cases hR;done)|(simp only[aA]at hR;rw[<-hR];exact aS _)
  .cases h
def WS(c:Cx):List NR->List jT->Prop
 |[],[]=>True
 |x::l,y::l'=>(x.i=y.i/\x.stale=y.stale/\x.mr=lD y.o/\(x.mr=false->∃e id,c x.k=some e/\e.id=some id/\aJD y.o y.a y.v=some id))/\WS c l l'
 |_,_=>False
omit hU hT in
def RN{c c':Cx}(h:leC c c'): ∀{l:List NR} {l':List jT},WS c l l'->WS c' l l'
 |[],[],_=>trivial
 |x::l,y::l',⟨⟨h1,h2,h3,h4⟩,h5⟩=>⟨⟨h1,h2,h3,λe=>by obtain⟨a,id,g1,g2⟩:=h4 e;exact⟨a,id,h _ _ g1,g2⟩⟩,RN h h5⟩
 |[],_::_,hh=>hh.elim
 |_::_,[],hh=>hh.elim
omit hU hT in
def C9(hw:WR U c M p): ∀{l:List NR} {l':List jT},WS c l l'->JG M.wr l=true->l'.all (qE P p)=true
 |[],[],_,_=>rfl
 |x::l,y::l',⟨⟨h1,h2,h3,h4⟩,h5⟩,h=>by
  simp only[JG,aC,Bool.or_eq_true,Bool.not_eq_true']at h;rw[aP,C9 hw h5 h.2,bE];unfold qE;rw[<-h2];rcases h.1 with h6|⟨h6,h7⟩
  .rw[h6];rfl
  .obtain⟨e,id,g1,g2,g3⟩:=h4 h6;have:XO p (aJD y.o y.a y.v)=true:=by
    rw[g3];simp only[XO,Bool.not_eq_true',<-Bool.not_eq_true];intro hm;have:=hw id (by simpa using hm) x.k e g1 g2
    rw[h7]at this;cases this
   rw[this,Bool.true_or,Bool.or_true]
 |[],_::_,hh,_=>hh.elim
 |_::_,[],hh,_=>hh.elim
omit hU hT in
def Ds{ms:List Nat}{i:Nat}{ap:Bool}: ∀{l:List NR} {l':List jT},WS c l l'->WS c (Gl ms i ap l) ((l'.filter λr=> !jC (ms.getD i 0) r.i).map λr=>bif ap&& !lD r.o then r else{r with stale:=true})
 |[],[],_=>trivial
 |x::l,y::l',⟨⟨h1,h2,h3,h4⟩,h5⟩=>by
  have ih:=Ds (ms:=ms) (i:=i) (ap:=ap) h5;simp only[Gl,List.filter_cons,h1];cases hb:jC (ms.getD i 0) y.i with
  |true=>simpa using ih
  |false=>
   simp only[Bool.not_false,if_true,aJ,aO];refine⟨?_,ih⟩;rw[<-h3];cases ap&& !x.mr with
   |true=>simp only[aI];exact⟨h1,h2,h3,h4⟩
   |false=>simp only[aJ];exact⟨trivial,trivial,h3,h4⟩
 |[],_::_,hh=>hh.elim
 |_::_,[],hh=>hh.elim
omit hU hT in
def Pw{ms:List Nat}{i:Nat}: ∀{l:List NR} {l':List jT},WS c l l'->WS c (Px ms i l) (l'.filter λr=> !jC (ms.getD i 0) r.i)
 |[],[],_=>trivial
 |x::l,y::l',⟨⟨h1,h2,h3,h4⟩,h5⟩=>by
  have ih:=Pw (ms:=ms) (i:=i) h5;simp only[Px,List.filter_cons,h1];cases hb:jC (ms.getD i 0) y.i with
  |true=>simpa using ih
  |false=>exact⟨⟨h1,h2,h3,h4⟩,ih⟩
 |[],_::_,hh=>hh.elim
 |_::_,[],hh=>hh.elim
omit hU hT in
def Xj{ms:List Nat}{i:Nat}: ∀{l:List NR} {l':List jT},WS c l l'->aDP ms i l=true->(l'.filter λr=> !jC (ms.getD i 0) r.i).all (λr=> !lD r.o)=true
 |[],[],_,_=>rfl
 |x::l,y::l',⟨⟨h1,h2,h3,h4⟩,h5⟩,h=>by
  simp only[aDP,aC,Bool.or_eq_true,Bool.not_eq_true']at h;have ih:=Xj (ms:=ms) (i:=i) h5 h.2;rw[List.filter_cons];cases hb:jC (ms.getD i 0) y.i with
  |true=>simpa using ih
  |false=>
   rw[h1,hb]at h;rcases h.1 with h6|h6
   .cases h6
   .simp only[Bool.not_false,if_true,aP,ih,bE];rw[<-h3,h6];rfl
 |[],_::_,hh,_=>hh.elim
 |_::_,[],hh,_=>hh.elim
omit hU hT in
def aWQ{o:Oper}{x:X U}{i:Nat}{pend gq:List NR}{pl:List jT}{v:PV}{own:Bool}{c':Cx}(h:aWR U o S x i pend=some gq)(F:lW U c S S')(hl:leC c c')(hx:qB U c' x (v,own))(hp:WS c' pend pl):
    WS c' gq (bif kG o S' then⟨i,o,pF o S',v,false⟩::pl else pl):=by
 obtain⟨dst,op,ty,pos,jm,jl⟩:=o;have other:(∀t a,op≠ .load t a)->kG ⟨dst,op,ty,pos,jm,jl⟩ S'=false->aWR U ⟨dst,op,ty,pos,jm,jl⟩ S x i pend=some pend->WS c' gq (bif kG ⟨dst,op,ty,pos,jm,jl⟩ S' then⟨i,⟨dst,op,ty,pos,jm,jl⟩,pF ⟨dst,op,ty,pos,jm,jl⟩ S',v,false⟩::pl else pl):=by
  intro _ h1 h2;rw[h2]at h;cases h;rw[h1];exact hp
 have box: ∀(k:Nat),(∃off qx,x.1= .lc k off qx)->kG ⟨dst,op,ty,pos,jm,jl⟩ S'=true->lD ⟨dst,op,ty,pos,jm,jl⟩=false->(∀a w,aJD ⟨dst,op,ty,pos,jm,jl⟩ a w=vid w)->WS c' (⟨i,k,false,false⟩::pend) (bif kG ⟨dst,op,ty,pos,jm,jl⟩ S' then⟨i,⟨dst,op,ty,pos,jm,jl⟩,pF ⟨dst,op,ty,pos,jm,jl⟩ S',v,false⟩::pl else pl):=by
  intro k ⟨off,qx,hk⟩ h1 h2 h3;rw[h1];have h4:=hx.1;rw[hk]at h4;obtain⟨e,id,g1,g2,g3⟩:=h4;have g3:v= .ptr id off:=g3;exact⟨⟨rfl,rfl,h2.symm,λ_=>⟨e,id,g1,g2,by simp only[h3];rw[g3];rfl⟩⟩,hp⟩
 cases op with
 |load t a=>
  have h1:=(dB F a).1;simp only[aWR]at h;split at h
  .rename_i k off qx ha;rw[ha]at h1;obtain⟨e,id,g1,g2,g3⟩:=h1;have g3:cP S' a= .ptr id off:=g3;cases h;simp only[kG,g3,aI];exact⟨⟨rfl,rfl,rfl,λ_=>⟨e,id,hl _ _ g1,g2,by simp only[aJD,pF,g3,a3f]⟩⟩,hp⟩
  .rename_i k ii off qx ha;rw[ha]at h1;obtain⟨e,id,g1,g2,_,_,g3⟩:=h1;have g3:cP S' a= .ptr id (ii.toNat*e.z+off):=g3;cases h;simp only[kG,g3,aI];exact⟨⟨rfl,rfl,rfl,λ_=>⟨e,id,hl _ _ g1,g2,by simp only[aJD,pF,g3,a3f]⟩⟩,hp⟩
  .rename_i w ha;rw[ha]at h1;obtain⟨es,ii,off,e,g1,_⟩:=h1;have g1:cP S' a= .pin es ii off:=g1;cases h;simp only[kG,g1,aJ];exact hp
  .cases h
 |alloc t=>
  simp only[aWR]at h;split at h
  .rename_i k off qx hk;cases h;exact box k ⟨off,qx,hk⟩ rfl rfl λ_ _=>rfl
  .cases h
 |box t y=>
  simp only[aWR]at h;split at h
  .rename_i k off qx hk;cases h;exact box k ⟨off,qx,hk⟩ rfl rfl λ_ _=>rfl
  .cases h
 |makeSlice t l k=>
  simp only[aWR,aA]at h;subst h;exact⟨⟨rfl,rfl,rfl,λe=>by cases e⟩,hp⟩
 |_=>exact other (λ_ _ e=>by cases e) rfl rfl
def qX{tc:nF U.D}(hc:CallOK U T tc pc){ops:Array Oper}{ms:List Nat}{K:TS U.D->TM U.D->Option W}: ∀(sc:List TStep) (pend:List NR) (pl:List jT) (S:TS U.D) (M:TM U.D) (S':PS) (p:PSt) (c:Cx),lW U c S S'->MR U q c0 c M p->WR U c M p->WS c pend pl->
    mV U T tc ops ms sc pend S M K=some r->
    ∃c' S1 M1 S1' p',K S1 M1=some r/\kL P pc ops ms (sc.map TStep.un) pl S' p=some (S1',p')/\leC c c'/\lW U c' S1 S1'/\MR U q c0 c' M1 p'/\p.next<=p'.next
 |[],pend,pl,S,M,S',p,c,F,Mm,β,Pd,h=>by
  unfold mV at h;cases hb:JG M.wr pend with
  |false=>rw[hb]at h;cases h
  |true=>
   rw[hb]at h;exact⟨c,S,M,S',p,h,by simp only[List.map_nil,kL,C9 β Pd hb,aI],leC.refl c,F,Mm,aS _⟩
 | .app a i s::rest,pend,pl,S,M,S',p,c,F,Mm,β,Pd,h=>by
  unfold mV at h;split at h
  .rename_i oA oI oS e1 e2 e3;obtain⟨S1,S1',h1,h2,h3⟩:=XV hU hT h F;cases hb:JG M.wr pend&&aDP ms a pend with
   |false=>rw[hb]at h1;cases h1
   |true=>
    rw[hb]at h1;simp only[aC]at hb;have hpd:=Pw (ms:=ms) (i:=s) (Ds (ms:=ms) (i:=a) (ap:=true) Pd);obtain⟨c',S2,M2,S2',p',g1,g2,g3⟩:=qX hc rest _ _ S1 M S1' p c h3 Mm β hpd h1;refine⟨c',S2,M2,S2',p',g1,?_,g3⟩;simp only[aO,TStep.un,kL,e1,e2,e3,h2,C9 β Pd hb.1,Xj Pd hb.2,Bool.and_self,aI];simpa using g2
  .cases h
 | .freeze t::rest,pend,pl,S,M,S',p,c,F,Mm,β,Pd,h=>by
  unfold mV at h;split at h
  .rename_i R hR;obtain⟨S1',p1,h1,h2,h3,h4⟩:=Se hU F hR Mm;obtain⟨c',S2,M2,S2',p',g1,g2,g3,g4,g5,g6⟩:=qX hc rest pend pl R.1 R.2 S1' p1 c h2 h3 (h4 β) Pd h;refine⟨c',S2,M2,S2',p',g1,?_,g3,g4,g5,Nat.le_trans (runT_ok.pfreeze_next h1) g6⟩;simp only[aO,TStep.un,kL,h1,g2]
  .cases h
 | .op i take inst bk::rest,pend,pl,S,M,S',p,c,F,Mm,β,Pd,h=>by
  unfold mV at h;split at h
  .cases h
  .rename_i o ho;obtain⟨S0,F0,h|h⟩:=aEL h F
   .obtain⟨hw,h⟩:=h;obtain⟨c1,x,S1,M1,v,own,S1',p1,h1,h2,h3,h4,h5,h6,hW,h7⟩:=aDy hU hT hc F0 Mm h;cases he:kN o with
    |true=>
     rw[he]at h1;simp only[aI]at h1;cases hb:JG M.wr pend with
     |false=>rw[hb]at h1;cases h1
     |true=>
      rw[hb]at h1;have hpd:=Ds (ms:=ms) (i:=i) (ap:=oU o) (RN h3 Pd);obtain⟨c',S2,M2,S2',p',g1,g2,g3,g4,g5,g6⟩:=qX hc rest _ _ _ M1 _ p1 c1 (AQ h5 h4) h6 (hW β) hpd h1;refine⟨c',S2,M2,S2',p',g1,?_,leC.trans h3 g3,g4,g5,Nat.le_trans h7 g6⟩;simp only[aO,TStep.un,kL,ho,hw,h2,he,C9 β Pd hb,aI];exact g2
    |false=>
     rw[he]at h1;simp only[aJ]at h1;split at h1
     .rename_i gq hpe;have hpd:=aWQ hpe F0 h3 h4 (RN h3 Pd);obtain⟨c',S2,M2,S2',p',g1,g2,g3,g4,g5,g6⟩:=qX hc rest _ _ _ M1 _ p1 c1 (AQ h5 h4) h6 (hW β) hpd h1;refine⟨c',S2,M2,S2',p',g1,?_,leC.trans h3 g3,g4,g5,Nat.le_trans h7 g6⟩;simp only[aO,TStep.un,kL,ho,hw,h2,he,aJ];exact g2
     .cases h1
   .obtain⟨hw,h⟩:=h;obtain⟨c',S2,M2,S2',p',g1,g2,g3⟩:=qX hc rest pend pl _ M _ p c (AQ F0 V1) Mm β Pd h;refine⟨c',S2,M2,S2',p',g1,?_,g3⟩;simp only[aO,TStep.un,kL,ho,hw,g2]
end
end Go.TV
namespace Go.TV
open Go.AI Go.PI
section
variable{P:Program}{U:hY}{T:TP U.D}{c c0:Cx}{W:Type}{r:W}{q p:PSt}{M:TM U.D}{S:TS U.D}{S':PS}{pc:gT}
def QT(c:Cx)(l:List Nat):Cx:=λk=>bif dY k l then c k else none
def Ea{c:Cx}{l:List Nat}{k:Nat}{e:Ce}(h:QT c l k=some e):c k=some e/\dY k l=true:=by
 unfold QT at h;cases hb:dY k l with
 |true=>rw[hb]at h;exact⟨h,rfl⟩
 |false=>rw[hb]at h;cases h
def D9{c:Cx}{l:List Nat}{k:Nat}{e:Ce}(h:c k=some e)(hm:dY k l=true):QT c l k=some e:=by
 unfold QT;rw[hm];exact h
def LG{l:List Nat}: ∀{caps:List Nat} {ps:List PV},BZ caps l=true->yH c caps ps->yH (QT c l) caps ps
 |[],[],_,_=>trivial
 |k::ks,x::ps,h,⟨⟨e,id,h1,h2,h3⟩,h4⟩=>by
  simp only[BZ,aC]at h;exact⟨⟨e,id,D9 h1 h.1,h2,h3⟩,LG h.2 h4⟩
 |[],_::_,_,h=>h.elim
 |_::_,[],_,h=>h.elim
def Gn: ∀{l:List (V U)} {ts:List Ty},Gp U l ts=true->l.length=ts.length
 |[],[],_=>rfl
 |v::l,t::ts,h=>by
  simp only[Gp,aC]at h;simp only[aM,Gn h.2]
 |[],_::_,h=>by cases h
 |_::_,[],h=>by cases h
def aLz(hU:iE U){l:List Nat}{sh:Sh}{s:SV U.D}{d:List (V U)}{pv:PV}(h:yF U l sh s=some d)(r:uC U c s pv):
    ∃s',(∀rest,Ra U sh (d++rest)=some (s',rest))/\uC U (QT c l) s' pv:=by
 cases sh with
 |val t=>
  simp only[yF]at h;split at h
  .rename_i v hv;cases h;obtain⟨h1,h2⟩:=lK hU hv r;refine⟨.val v,λrest=>?_,h2⟩
   simp only[aR,Ra,h1,Ty.beq_rfl,aI]
  .cases h
 |tup ts=>
  cases s with
  |tup vs=>
   simp only[yF]at h;cases hb:Gp U vs ts with
   |false=>rw[hb]at h;cases h
   |true=>
    rw[hb]at h;simp only[aI,aA]at h;subst h;refine⟨.tup vs,λrest=>?_,r⟩
    have:=Gn hb;simp only[Ra,<-this,List.take_left,List.drop_left,hb,aI]
  |_=>cases h
 |nl=>
  cases s with
  |nl=>simp only[yF,aA]at h;subst h;exact⟨.nl,λrest=>rfl,r⟩
  |_=>cases h
 |lc k off path=>
  cases s with
  |lc k' fq np=>
   simp only[yF]at h;cases hb:Nat.beq k k'&&Nat.beq off fq&&yG path np&&dY k l with
   |false=>rw[hb]at h;cases h
   |true=>
    rw[hb]at h;simp only[aI,aA]at h;subst h;simp only[aC,cR,aD]at hb;obtain⟨⟨⟨rfl,rfl⟩,_⟩,hm⟩:=hb;obtain⟨e,id,g1,g2,g3⟩:=r;exact⟨.lc k off path,λrest=>rfl,e,id,D9 g1 hm,g2,g3⟩
  |_=>cases h
 |ep t=>
  cases s with
  |ep v=>
   simp only[yF]at h;cases hb:v.t.beq t with
   |false=>rw[hb]at h;cases h
   |true=>
    rw[hb]at h;simp only[aI,aA]at h;subst h;refine⟨.ep v,λrest=>?_,r⟩
    simp only[aR,Ra,hb,aI]
  |_=>cases h
 |rw k=>
  cases s with
  |rw k'=>
   simp only[yF]at h;cases hb:Nat.beq k k'&&dY k l with
   |false=>rw[hb]at h;cases h
   |true=>
    rw[hb]at h;simp only[aI,aA]at h;subst h;simp only[aC,cR,aD]at hb;obtain⟨rfl,hm⟩:=hb;obtain⟨e,g1,g2⟩:=r;exact⟨.rw k,λrest=>rfl,e,D9 g1 hm,g2⟩
  |_=>cases h
 |cl f caps=>
  cases s with
  |cl f' cp=>
   simp only[yF]at h;cases hb:Nat.beq f f'&&yG caps cp&&BZ caps l with
   |false=>rw[hb]at h;cases h
   |true=>
    rw[hb]at h;simp only[aI,aA]at h;subst h;simp only[aC,cR,aD]at hb;obtain⟨⟨rfl,h2⟩,hm⟩:=hb;have:=wP h2;subst this;obtain⟨ps,g1,g2⟩:=r;exact⟨.cl f caps,λrest=>rfl,ps,g1,LG hm g2⟩
  |_=>cases h
 |nf=>
  cases s with
  |nf=>simp only[yF,aA]at h;subst h;exact⟨.nf,λrest=>rfl,r⟩
  |_=>cases h
 |row t=>cases h
 |no=>simp only[yF,aA]at h;subst h;exact⟨.no,λrest=>rfl,trivial⟩
def Xy(hU:iE U){bl:List Nat}(F:lW U c S S'): ∀{l:List (Nat×Sh×jD)} {d:List (V U)} (rest:List (V U)),aET U bl S l=some d->
    ∃S0,aBb U l (d++rest)=some (S0,rest)/\lW U (QT c bl) S0 (keeps S' (l.map (·.1)))
 |[],d,rest,h=>by
  simp only[aET,aA]at h;subst h;exact⟨[],rfl,λt=>⟨trivial,bV _ _⟩⟩
 |(t,s,rr)::l,d,rest,h=>by
  unfold aET at h;split at h
  .rename_i a d' ha hd;cases hb:leR rr (lV S t).2 with
   |false=>rw[hb]at h;cases h
   |true=>
    rw[hb]at h;simp only[aI,aA]at h;subst h;obtain⟨s',h1,h2⟩:=aLz hU ha (F t).1;obtain⟨S0,h3,h4⟩:=Xy hU F rest hd;refine⟨(t,(s',rr))::S0,?_,?_⟩
    .rw[aQ];simp only[aBb,h1,h3]
    .exact sS h4 ⟨h2,aU1 hb (F t).2⟩
  .cases h
def SM{bl:List Nat}{sh:Sh}{s:SV U.D}{d:List (V U)}{cs:List (PV×Bool)}(h:yF U bl sh s=some d)(hn:sh≠ .no)(r:zX U c s cs):
    ∃s',(∀rest,Ra U sh (d++rest)=some (s',rest))/\zX U (QT c bl) s' cs:=by
 cases sh with
 |val t=>
  simp only[yF]at h;split at h
  .rename_i v hv;cases h;cases s with
   |val w=>
    simp only[G6]at hv;cases hb:w.t.beq t with
    |false=>rw[hb]at hv;cases hv
    |true=>
     rw[hb]at hv;cases hv;refine⟨.val v,λrest=>?_,r⟩
     simp only[aR,Ra,hb,aI]
   |nl=>exact r.elim
   |zr _=>exact r.elim
   |_=>cases hv
  .cases h
 |cl f caps=>
  cases s with
  |cl f' cp=>
   simp only[yF]at h;cases hb:Nat.beq f f'&&yG caps cp&&BZ caps bl with
   |false=>rw[hb]at h;cases h
   |true=>
    rw[hb]at h;simp only[aI,aA]at h;subst h;simp only[aC,cR,aD]at hb;obtain⟨⟨rfl,h2⟩,hm⟩:=hb;have:=wP h2;subst this;obtain⟨pv,b,g0,ps,g1,g2⟩:=r;exact⟨.cl f caps,λrest=>rfl,pv,b,g0,ps,g1,LG hm g2⟩
  |_=>cases h
 |nf=>
  cases s with
  |nf=>simp only[yF,aA]at h;subst h;exact⟨.nf,λrest=>rfl,r⟩
  |_=>cases h
 |no=>exact(hn rfl).elim
 |row t=>cases h
 |tup ts=>cases s<;>first|exact r.elim|cases h
 |nl=>cases s<;>first|exact r.elim|cases h
 |lc k off path=>cases s<;>first|exact r.elim|cases h
 |ep t=>cases s<;>first|exact r.elim|cases h
 |rw k=>cases s<;>first|exact r.elim|cases h
def Xz(Mm:MR U q c0 c M p){bl:List Nat}: ∀{l:List (Nat×Sh×jD)} {d:List (V U)} (rest:List (V U)),aAA U bl M.bx l=some d->(∀k,dY k (l.map (·.1))=true->dY k bl=true)->
    ∃M0,CL U l (d++rest)=some (M0,rest)/\(∀k,dG M0 k=none->dY k (l.map (·.1))=false)/\(∀k b,dG M0 k=some b->∃e,QT c bl k=some e/\CY U (QT c bl) p e b)
 |[],d,rest,h,_=>by
  simp only[aAA,aA]at h;subst h;exact⟨[],rfl,λ_ _=>rfl,λk b h=>by cases h⟩
 |(k,s,rr)::l,d,rest,h,hl=>by
  have fa: ∀k,dY k (l.map (·.1))=true->dY k bl=true:=λj hj=>hl j (by simp only[aO,dY,hj,Bool.or_true])
  have hk:dY k bl=true:=hl k (by simp only[aO,dY,Nat.beq_refl,Bool.true_or])
  have fin: ∀(dv dl:List (V U)) (b:BC U.D),aAA U bl M.bx l=some dl->d=dv++dl->(∀M1,CL U l (dl++rest)=some (M1,rest)->CL U ((k,s,rr)::l) (dv++(dl++rest))=some ((k,b)::M1,rest))->(∃e,QT c bl k=some e/\CY U (QT c bl) p e b)->
        ∃M0,CL U ((k,s,rr)::l) (d++rest)=some (M0,rest)/\(∀j,dG M0 j=none->dY j (((k,s,rr)::l).map (·.1))=false)/\(∀j b,dG M0 j=some b->∃e,QT c bl j=some e/\CY U (QT c bl) p e b):=by
   intro dv dl b hd he hu hb;obtain⟨M1,h1,h2,h3⟩:=Xz Mm rest hd fa;refine⟨(k,b)::M1,by rw[he,aQ];exact hu M1 h1,λj hj=>?_,λj b' hj=>?_⟩
   .rw[gP]at hj;by_cases e1:j=k
    .rw[bI e1]at hj;cases hj
    .rw[bH e1]at hj;simp only[aO,dY,h2 j hj,Bool.or_false];exact aAR λe=>e1 e.symm
   .rw[gP]at hj;by_cases e1:j=k
    .rw[bI e1]at hj;simp only[aA]at hj;subst hj;rw[e1];exact hb
    .rw[bH e1]at hj;exact h3 j b' hj
  unfold aAA at h;split at h
  .rename_i SH rs d' hf hd;obtain⟨e,he,id,cs,hid,bc,hcs,ll⟩:=Mm.bx k _ hf;split at h
   .cases h
   .cases h
   .rename_i s0 qr hnn;split at h
    .rename_i a ha;cases hb:leR rr rs with
     |false=>rw[hb]at h;cases h
     |true=>
      rw[hb]at h;simp only[aI,aA]at h;obtain⟨s',g1,g2⟩:=SM ha (λe=>hnn e) hcs
      have vj: ∀M1,CL U l (d'++rest)=some (M1,rest)->CL U ((k,s,rr)::l) (a++(d'++rest))=some ((k,.bx s' rr)::M1,rest):=by
       intro M1 hM1;have: ∀d2,CL U ((k,s,rr)::l) d2=(match Ra U s d2 with|some (x,d')=>(match CL U l d' with|some (M,tq)=>some ((k,.bx x rr)::M,tq)|none=>none)|none=>none):=by
        intro d2;cases s with
        |row t=>exact(qr t rfl).elim
        |_=>cases d2<;>first|rfl|(simp only[CL])
       rw[this,g1];simp only[hM1]
      exact fin a d' (.bx s' rr) hd h.symm vj ⟨e,D9 he hk,id,cs,hid,bc,g2,HZ hb ll⟩
    .cases h
  .rename_i et v d' hf hd;split at h
   .rename_i t;cases hb:et.beq t with
    |false=>rw[hb]at h;cases h
    |true=>
     rw[hb]at h;simp only[aI,aA]at h;obtain⟨e,he,hr⟩:=Mm.bx k _ hf;refine fin [⟨.sl et,v⟩] d' (.row et v) hd h.symm (λM1 hM1=>?_) ⟨e,D9 he hk,hr⟩
     simp only[aR,CL,hb,aI,hM1]
   .cases h
  .cases h
end
end Go.TV
namespace Go.TV
open Go.AI Go.PI
section
variable{P:Program}{U:hY}{T:TP U.D}{c c0:Cx}{W:Type}{r:W}{q p:PSt}{M:TM U.D}{S:TS U.D}{S':PS}{pc:gT}
def Kj(hU:iE U){ct:Cut}{d:List (V U)}(h:Ge U ct S M=some d)(F:lW U c S S')(Mm:MR U q c0 c M p):
    ∃S0 M0 c',HL U ct d=some (S0,M0)/\lW U c' S0 (keeps S' ct.ts)/\MR U q c0 c' M0 p:=by
 unfold Ge at h;split at h
 .rename_i a b ha hb;cases h;obtain⟨S0,h1,h2⟩:=Xy hU F b ha;obtain⟨M0,h3,h4,h5⟩:=Xz Mm [] hb (λ_ h=>h)
  rw[bA]at h3;refine⟨S0,⟨M0,[]⟩,QT c (ct.bx.map (·.1)),by simp only[HL,h1,h3],h2,?_⟩
  refine⟨λk hk=>?_,h5,λk e id g1 g2=>Mm.lt k e id (Ea g1).1 g2,λk k' e e' id g1 g2 g3 g4=>Mm.inj k k' e e' id (Ea g1).1 (Ea g2).1 g3 g4,Mm.next,λk e g1 g2=>Mm.bor k e (Ea g1).1 g2,λk e id g1 g2 g3=>Mm.loc k e id (Ea g1).1 g2 g3,Mm.old,Mm.dirty,Mm.wr⟩
  unfold QT;rw[h4 k hk];rfl
 .cases h
def MR.cln(Mm:MR U q c0 c M p):MR U q c0 c ⟨M.bx,[]⟩ (PI.cln p):=
 ⟨Mm.dom,λk b h=>by obtain⟨e,h1,h2⟩:=Mm.bx k b h;exact⟨e,h1,xS h2 λ_ _=>rfl⟩,Mm.lt,Mm.inj,Mm.next,Mm.bor,Mm.loc,Mm.old,Mm.dirty,λid hi=>by cases hi⟩
def MR.dty{p':PSt}(Mm:MR U q c0 c M p'){c1:Cx}{M1:TM U.D}(Mp:MR U q c0 c1 M1 p)(hn:p.next<=p'.next):MR U q c0 c M (PI.dty p p'):=
 ⟨Mm.dom,λk b h=>by obtain⟨e,h1,h2⟩:=Mm.bx k b h;exact⟨e,h1,xS h2 λ_ _=>rfl⟩,Mm.lt,Mm.inj,Mm.next,Mm.bor,Mm.loc,Mm.old,Mm.dirty,λid hi=>by
  have hi:id∈p'.wr.foldr FK p.wr:=hi;rw[fE]at hi;rcases hi with h|h
  .exact Mm.wr id h
  .obtain⟨h1,h2⟩:=Mp.wr id h;exact⟨Nat.lt_of_lt_of_le h1 hn,h2⟩⟩
variable(hU:iE U)(hT:rT P U T)
include hU hT
def aPF(P:Program)(U:hY)(T:TP U.D)(q:PSt)(c0:Cx)(run:{W:Type}->TS U.D->TM U.D->TK U.D W->Option W)(prun:PS->PSt->Option (Fl×PS×PSt)):Prop:=
 ∀(W:Type) (K:TK U.D W) (r:W) (S:TS U.D) (M:TM U.D) (S':PS) (p:PSt) (c:Cx),lW U c S S'->MR U q c0 c M p->run S M K=some r->
  ∃fl c' S1 M1 S1' p',K fl S1 M1=some r/\prun S' p=some (fl,S1',p')/\lW U c' S1 S1'/\MR U q c0 c' M1 p'/\p.next<=p'.next
omit hU hT in
def PJ(hU:iE U){ct:Cut}{run:{W:Type}->TS U.D->TM U.D->TK U.D W->Option W}{prun:PS->PSt->Option (Fl×PS×PSt)}(hr:aPF P U T q c0 run prun){K:TK U.D W}:
    ∀(n:Nat) (d:List (V U)) (S0:TS U.D) (M0:TM U.D) (S':PS) (p:PSt) (c:Cx),HL U ct d=some (S0,M0)->lW U c S0 (keeps S' ct.ts)->MR U q c0 c M0 p->Cq U ct (λS M K=>run S M K) K n d=some r->
    ∃fl c' S1 M1 S1' p',K fl S1 M1=some r/\AG (λS p=>prun (keeps S ct.ts) p) n S' p=some (fl,S1',p')/\lW U c' S1 S1'/\MR U q c0 c' M1 p'/\p.next<=p'.next
 |0,d,S0,M0,S',p,c,hu,F,Mm,h=>by cases h
 |n+1,d,S0,M0,S',p,c,hu,F,Mm,h=>by
  simp only[Cq,oF,hu]at h;obtain⟨fl,c1,S1,M1,S1',p1,h1,h2,h3,h4,h5⟩:=hr W _ r S0 M0 _ p c F Mm h;cases fl with
  |normal=>
   simp only[iK]at h1;split at h1
   .rename_i d' hd;obtain⟨S2,M2,c2,g1,g2,g3⟩:=Kj hU hd h3 h4;obtain⟨fl,c',S3,M3,S3',p3,k1,k2,k3,k4,k5⟩:=PJ hU hr n d' S2 M2 S1' p1 c2 g1 g2 g3 h1;exact⟨fl,c',S3,M3,S3',p3,k1,by simp only[AG,h2,k2],k3,k4,Nat.le_trans h5 k5⟩
   .cases h1
  |exit id=>exact⟨_,c1,S1,M1,S1',p1,h1,by simp only[AG,h2],h3,h4,h5⟩
  |ret=>exact⟨_,c1,S1,M1,S1',p1,h1,by simp only[AG,h2],h3,h4,h5⟩
omit hU hT in
def aDC{q:PSt}{c0 c:Cx}{ops:Array Oper}{S:TS U.D}{M:TM U.D}{S':PS}{p:PSt}(F:lW U c S S')(Mm:MR U q c0 c M p)(h:GF U ops S M=true):Ec ops S' p=true:=by
 unfold GF at h;unfold Ec;split at h
 .rename_i e;rw[e]
 .rename_i s t e;rw[e];simp only;have r1:=(F s).1;have r2:=(F t).1;split at h
  .rename_i v k o2 p2 e1 e2;rw[e1]at r1;rw[e2]at r2;obtain⟨es,i,off,_,q1,_⟩:=r1;obtain⟨e',id,q2,q3,q4⟩:=r2;rw[q1,q4];simp only;split at h
   .rename_i bs br hf;obtain⟨e2',q5,bv,cs,q6,q7,_⟩:=Mm.bx k _ hf;rw[q2]at q5;cases q5;rw[q3]at q6;cases q6;rw[q7]
   .cases h
  .cases h
 .cases h
def aE2{tc:nF U.D}(hc:CallOK U T tc pc)(L:Nat): ∀(code:TC),aPF P U T q c0 (λ{W} S M K=>fK U T (W:=W) tc L code S M K) (eV P pc L code.pc):=by
 intro code;induction code with
 |skip=>intro W K r S M S' p c F Mm h;exact⟨.normal,c,S,M,S',p,h,rfl,F,Mm,aS _⟩
 |label l=>intro W K r S M S' p c F Mm h;exact⟨.normal,c,S,M,S',p,h,rfl,F,Mm,aS _⟩
 |region id ops draw ms sc=>
  intro W K r S M S' p c F Mm h;simp only[fK]at h;cases draw with
  |true=>
   obtain⟨c',S1,M1,S1',p',h1,h2,h3,h4,h5,h6⟩:=qX hU hT hc sc [] [] S ⟨M.bx,[]⟩ S' (PI.cln p) c F Mm.cln (λid hi=>by cases hi) trivial h
   obtain⟨h1,htw⟩:K .normal S1 M1=some r/\GF U ops S1 M1=true:=by
    cases hb:GF U ops S1 M1 with
    |true=>rw[hb,aI]at h1;exact⟨h1,rfl⟩
    |false=>rw[hb]at h1;cases h1
   refine⟨.normal,c',S1,M1,S1',PI.dty p p',h1,?_,h4,h5.dty Mm h6,h6⟩;simp only[TC.pc,eV,aI,h2,aEU,aDC h4 h5 htw,aK]
  |false=>
   obtain⟨c',S1,M1,S1',p',h1,h2,h3,h4,h5,h6⟩:=runT_ok hU hT hc sc S M S' p c F Mm h;refine⟨.normal,c',S1,M1,S1',p',h1,?_,h4,h5,h6⟩;simp only[TC.pc,eV,aJ,h2,aK]
 |seq a b ff jp=>
  intro W K r S M S' p c F Mm h;simp only[fK]at h;obtain⟨fl,c1,S1,M1,S1',p1,h1,h2,h3,h4,h5⟩:=ff W _ r S M S' p c F Mm h;cases fl with
  |normal=>
   obtain⟨fl,c2,S2,M2,S2',p2,g1,g2,g3,g4,g5⟩:=jp W _ r S1 M1 S1' p1 c1 h3 h4 h1;exact⟨fl,c2,S2,M2,S2',p2,g1,by simp only[TC.pc,eV,h2,g2],g3,g4,Nat.le_trans h5 g5⟩
  |exit id=>exact⟨_,c1,S1,M1,S1',p1,h1,by simp only[TC.pc,eV,h2],h3,h4,h5⟩
  |ret=>exact⟨_,c1,S1,M1,S1',p1,h1,by simp only[TC.pc,eV,h2],h3,h4,h5⟩
 |cond x a b ff jp=>
  intro W K r S M S' p c F Mm h;simp only[fK]at h;have h1:=(dB F x).1;split at h
  .rename_i w hx;rw[hx]at h1;have h1:cP S' x= .v (.bool w):=of_bool h1;rcases E1 h with⟨rfl,h⟩|⟨rfl,h⟩
   .obtain⟨fl,c1,S1,M1,S1',p1,g1,g2,g3⟩:=ff W _ r S M S' p c F Mm h;exact⟨fl,c1,S1,M1,S1',p1,g1,by simp only[TC.pc,eV,h1,g2],g3⟩
   .obtain⟨fl,c1,S1,M1,S1',p1,g1,g2,g3⟩:=jp W _ r S M S' p c F Mm h;exact⟨fl,c1,S1,M1,S1',p1,g1,by simp only[TC.pc,eV,h1,g2],g3⟩
  .cases h
 |block id a ff=>
  intro W K r S M S' p c F Mm h;simp only[fK]at h;obtain⟨fl,c1,S1,M1,S1',p1,h1,h2,h3,h4,h5⟩:=ff W _ r S M S' p c F Mm h;cases fl with
  |normal=>exact⟨_,c1,S1,M1,S1',p1,h1,by simp only[TC.pc,eV,h2],h3,h4,h5⟩
  |ret=>exact⟨_,c1,S1,M1,S1',p1,h1,by simp only[TC.pc,eV,h2],h3,h4,h5⟩
  |exit n=>
   simp only[dK]at h1;cases hb:Nat.beq n id with
   |true=>
    rw[hb]at h1;exact⟨_,c1,S1,M1,S1',p1,h1,by simp only[TC.pc,eV,h2,hb,aI],h3,h4,h5⟩
   |false=>
    rw[hb]at h1;exact⟨_,c1,S1,M1,S1',p1,h1,by simp only[TC.pc,eV,h2,hb,aJ],h3,h4,h5⟩
 |loop ct a ff=>
  intro W K r S M S' p c F Mm h;simp only[fK]at h;split at h
  .rename_i d hd;obtain⟨S0,M0,c1,g1,g2,g3⟩:=Kj hU hd F Mm;obtain⟨fl,c',S3,M3,S3',p3,k1,k2,k3⟩:=PJ hU ff L d S0 M0 S' p c1 g1 g2 g3 h;exact⟨fl,c',S3,M3,S3',p3,k1,k2,k3⟩
  .cases h
 |exit id=>intro W K r S M S' p c F Mm h;exact⟨.exit id,c,S,M,S',p,h,rfl,F,Mm,aS _⟩
 |ret=>intro W K r S M S' p c F Mm h;exact⟨.ret,c,S,M,S',p,h,rfl,F,Mm,aS _⟩
 |scope a ff=>intro W K r S M S' p c F Mm h;exact ff W K r S M S' p c F Mm h
 |cut ct a ff=>
  intro W K r S M S' p c F Mm h;simp only[fK]at h;split at h
  .rename_i d hd;obtain⟨S0,M0,c1,g1,g2,g3⟩:=Kj hU hd F Mm;simp only[oF,g1]at h;exact ff W K r S0 M0 _ p c1 g2 g3 h
  .cases h
 |ice t a ff=>
  intro W K r S M S' p c F Mm h;simp only[fK]at h;split at h
  .rename_i R hR;obtain⟨S1',p1,h1,h2,h3,h4⟩:=Se hU F hR Mm;obtain⟨fl,c2,S2,M2,S2',p2,g1,g2,g3,g4,g5⟩:=ff W K r R.1 R.2 S1' p1 c h2 h3 h;exact⟨fl,c2,S2,M2,S2',p2,g1,by simp only[TC.pc,eV,h1,g2],g3,g4,Nat.le_trans (runT_ok.pfreeze_next h1) g5⟩
  .cases h
 |other cd=>intro W K r S M S' p c F Mm h;cases h
def IA(F:lW U c S S')(Mm:MR U q c0 c M p): ∀{rs:List ResultVar} {ts:List Ty} {l:List (V U)},FQ U T S M rs ts=some l->
    ∃vs,gN P S' p rs=some vs/\List.map (λx=>wk x.1) vs=l.map (λv=>dD U v.t v.x)/\l.map (λv=>v.t)=ts/\
      (∀t v,rs=[.tmp t]->vs=[v]->v=S'.at t)/\(∀v w,vs=[w]->l=[v]->VR U v.t v.x w.1)/\(∀t gj w qo v l',rs= .tmp t::gj->vs=w::qo->l=v::l'->w=S'.at t/\VR U v.t v.x w.1)
 |[],[],l,h=>by
  simp only[FQ,aA]at h;subst h;exact⟨[],rfl,rfl,rfl,λ_ _ h=>(by cases h),λ_ _ h=>(by cases h),λ_ _ _ _ _ _ h=>(by cases h)⟩
 | .tmp t::rs,ty::ts,l,h=>by
  unfold FQ at h;split at h
  .rename_i v l' hv hl;cases h;obtain⟨h1,h2⟩:=lK hU hv (F t).1;obtain⟨vs,g1,g2,g3,_,_,_⟩:=IA F Mm hl;refine⟨S'.at t::vs,by simp only[gN,sD,g1],by rw[aO,aO,g2,h2.wk],by rw[aO,h1,g3],λt' v' e1 e2=>?_,λv' w e1 e2=>?_,λt' gj w qo v' l'' e1 e2 e3=>?_⟩
   .cases e1;cases e2;rfl
   .cases e1;cases e2;exact h2
   .cases e1;cases e2;cases e3;exact⟨rfl,h2⟩
  .cases h
 | .cell a t::rs,ty::ts,l,h=>by
  unfold FQ at h;split at h
  .rename_i k off qx ty' l' hk fu hl;split at h
   .rename_i cv rr hf;split at h
    .rename_i w o hw;cases hb:w.t.beq ty&&ty.beq ty'&&Nat.beq o off with
     |false=>rw[hb]at h;cases h
     |true=>
      rw[hb]at h;simp only[aI,aA]at h;subst h;simp only[aC,cR,aD]at hb;obtain⟨⟨hb1,hb2⟩,rfl⟩:=hb;have e1:=Ty.beq_eq hb1;have e2:=Ty.beq_eq hb2;subst e2;have hs:=(F a).1;rw[hk]at hs;obtain⟨e,id,m1,m2,m3⟩:=hs;obtain⟨e',m1',bv,cs,m2',bc,⟨c1,c2,c3⟩,_⟩:=Mm.bx k _ hf;rw[m1]at m1';cases m1';rw[m2]at m2';cases m2';obtain⟨wt,wx⟩:=w;have e1:wt=ty:=e1;subst e1;obtain⟨g1,_⟩:=wN hU hw (⟨c1,c2⟩:SR cv.t cv.x (cs.map (·.1)));obtain⟨v,k1,k2,k3,k4⟩:=Ay hU hT fu g1;have fa:jW P p t (S'.at a).1=some v:=by rw[m3];simp only[jW,bc];exact k1
      obtain⟨vs,g1,g2,g3,_,_,_⟩:=IA F Mm hl;refine⟨(v,false)::vs,by simp only[gN,sD,fa,aK,g1],by rw[aO,aO,g2,k2.wk],by rw[aO,g3],λt' v' e1 e2=>?_,λv' w e1 e2=>?_,λt' gj w qo v' l'' e1 e2 e3=>?_⟩
      .cases e1
      .cases e1;cases e2;exact k2
      .cases e1
    .cases h
   .cases h
  .cases h
 |[],_::_,l,h=>by cases h
 | .tmp _::_,[],l,h=>by cases h
 | .cell _ _::_,[],l,h=>by cases h
omit hU hT in
def JF(Mm:MR U q c0 c M p): ∀{l:List (Sh×jD)} {bo:List jD} {j:Nat} {d:List (V U)},Po U M l bo j=some d->
    ∃m,fO U l bo d=some m/\(∀i x,m[i]?=some x->∃e,c (j+i)=some e/\CY U c p e x)
 |[],[],j,d,h=>by
  simp only[Po,aA]at h;subst h;exact⟨[],rfl,λi x h=>by simp at h⟩
 |(s,rr)::l,r::bo,j,d,h=>by
  have next: ∀{x0:BC U.D} {m:List (BC U.D)} {e:Ce},(∀i x,m[i]?=some x->∃e,c (j+1+i)=some e/\CY U c p e x)->c j=some e->CY U c p e x0->∀i x,(x0::m)[i]?=some x->∃e,c (j+i)=some e/\CY U c p e x:=by
   intro x0 m e g2 he k1 i x hx;cases i with
   |zero=>
    simp only[aU,aA]at hx;subst hx;exact⟨e,he,k1⟩
   |succ i=>
    rw[aT]at hx;have:=g2 i x hx
    rwa [show j+1+i=j+(i+1) by omega]at this
  unfold Po at h;split at h
  .rename_i SH rs d' hf hd;obtain⟨e,he,id,cs,hid,bc,hcs,ll⟩:=Mm.bx j _ hf;obtain⟨m,g1,g2⟩:=JF Mm hd;split at h
   .rename_i t v;cases hb:v.t.beq t&&leR r rs with
    |false=>rw[hb]at h;cases h
    |true=>
     rw[hb]at h;simp only[aI,aA]at h;subst h;simp only[aC]at hb;exact⟨.bx (.val v) r::m,by simp only[fO,g1],next g2 he ⟨id,cs,hid,bc,hcs,HZ hb.2 ll⟩⟩
   .rename_i f caps f' cp;cases hb:Nat.beq f f'&&yG caps cp with
    |false=>rw[hb]at h;cases h
    |true=>
     rw[hb]at h;simp only[aI,aA]at h;subst h;simp only[aC,cR,aD]at hb;have e2:=wP hb.2;rw[<-hb.1,<-e2]at hcs;exact⟨.bx (.cl f caps) []::m,by simp only[fO,g1],next g2 he ⟨id,cs,hid,bc,hcs,λ_ _ h=>by cases h⟩⟩
   .cases h
  .rename_i et x d' hf hd;obtain⟨e,he,bh⟩:=Mm.bx j _ hf;obtain⟨m,g1,g2⟩:=JF Mm hd;split at h
   .rename_i t;cases hb:et.beq t with
    |false=>rw[hb]at h;cases h
    |true=>
     rw[hb]at h;simp only[aI,aA]at h;subst h;exact⟨.row et x::m,by simp only[fO,g1],next g2 he bh⟩
   .cases h
  .cases h
 |[],_::_,j,d,h=>by cases h
 |_::_,[],j,d,h=>by cases h
end
end Go.TV
namespace Go.TV
open Go.AI Go.PI
section
variable{P:Program}{U:hY}{T:TP U.D}{c c0:Cx}{q p:PSt}{M:TM U.D}{S:TS U.D}{S':PS}
def VY: ∀{l:List (Nat×Sh×jD)} {d rest:List (V U)} {S0:TS U.D},aBb U l d=some (S0,rest)->∀k,dY k (l.map (·.1))=false->lV S0 k=(.no,[])
 |[],d,rest,S0,h,k,_=>by simp only[aBb,aA,aB]at h;rw[<-h.1];rfl
 |(t,s,r)::l,d,rest,S0,h,k,hk=>by
  unfold aBb at h;split at h
  .rename_i x d' hx;split at h
   .rename_i S1 tq hS;simp only[aA,aB]at h;obtain⟨rfl,rfl⟩:=h;simp only[aO,dY,Bool.or_eq_false_iff]at hk;rw[EF (λe=>by rw[e,Nat.beq_refl]at hk;cases hk.1)]
    exact VY hS k hk.2
   .cases h
  .cases h
def Pb: ∀(ps:List (Sh×Bool)) (i k:Nat),dY k ((cutOf.psL ps i).map (·.1))=(decide (i<=k)&&decide (k<i+ps.length))
 |[],i,k=>by simp[cutOf.psL,dY]
 |(s,o)::ps,i,k=>by
  simp only[cutOf.psL,aO,dY,Pb ps (i+1) k,aM,cR];rw[Bool.eq_iff_iff];simp only[Bool.or_eq_true,aC,aD];omega
def Qr: ∀(ps:List (Sh×jD)) (i k:Nat),dY k ((cutOf.bxL ps i).map (·.1))=(decide (i<=k)&&decide (k<i+ps.length))
 |[],i,k=>by simp[cutOf.bxL,dY]
 |(s,o)::ps,i,k=>by
  simp only[cutOf.bxL,aO,dY,Qr ps (i+1) k,aM,cR];rw[Bool.eq_iff_iff];simp only[Bool.or_eq_true,aC,aD];omega
def aJU{k:Nat}{s:Sh}{rr:jD}{l:List (Nat×Sh×jD)}(qr: ∀t,s≠ .row t){d2:List (V U)}:CL U ((k,s,rr)::l) d2=(match Ra U s d2 with|some (x,d')=>(match CL U l d' with|some (M,tq)=>some ((k,.bx x rr)::M,tq)|none=>none)|none=>none):=by
 cases s with
 |row t=>exact(qr t rfl).elim
 |_=>cases d2<;>first|rfl|(simp only[CL])
def VZ: ∀{l:List (Nat×Sh×jD)} {d rest:List (V U)} {M0:List (Nat×BC U.D)},CL U l d=some (M0,rest)->∀k,dG M0 k=none->dY k (l.map (·.1))=false
 |[],d,rest,M0,h,k,_=>rfl
 |(t,s,r)::l,d,rest,M0,h,k,hk=>by
  have fin: ∀{b:BC U.D} {M1:List (Nat×BC U.D)} {d':List (V U)},M0=(t,b)::M1->CL U l d'=some (M1,rest)->dY k (((t,s,r)::l).map (·.1))=false:=by
   intro b M1 d' e h1;subst e;rw[gP]at hk;by_cases e1:k=t
   .rw[bI e1]at hk;cases hk
   .rw[bH e1]at hk;simp only[aO,dY,VZ h1 k hk,Bool.or_false];exact aAR λe=>e1 e.symm
  have other:(∀t',s≠ .row t')->dY k (((t,s,r)::l).map (·.1))=false:=by
   intro qr;rw[aJU qr]at h;split at h
   .rename_i x d' _;split at h
    .rename_i M1 tq h1;simp only[aA,aB]at h;obtain⟨e1,e2⟩:=h;subst e2;exact fin e1.symm h1
    .cases h
   .cases h
  cases s with
  |row t'=>
   cases d with
   |nil=>cases h
   |cons v d=>
    obtain⟨vt,vx⟩:=v;cases vt with
    |sl e=>
     simp only[CL]at h;cases hb:e.beq t' with
     |false=>rw[hb]at h;cases h
     |true=>
      rw[hb]at h;simp only[aI]at h;split at h
      .rename_i M1 d' h1;simp only[aA,aB]at h;obtain⟨e1,e2⟩:=h;subst e2;exact fin e1.symm h1
      .cases h
    |_=>cases h
  |_=>exact other λ_ e=>by cases e
def rA{n:Nat}: ∀{l:List (Sh×jD)} {rs:List jD} {d:List (V U)} {m:List (BC U.D)},fO U l rs d=some m->Ef n l=true->∀(i f:Nat) (caps:List Nat) (r:jD),m[i]?=some (.bx (.cl f caps) r)->vS caps n=true
 |[],[],[],m,h,_,i,f,caps,r,hm=>by simp only[fO,aA]at h;subst h;simp at hm
 |(.val t,rr)::l,r::rs,v::d,m,h,ho,i,f,caps,r',hm=>by
  simp only[fO]at h;split at h
  .rename_i m' h1;cases h;cases i with
   |zero=>simp at hm
   |succ i=>rw[aT]at hm;exact rA h1 ho i f caps r' hm
  .cases h
 |(.cl f0 caps0,rr)::l,r::rs,d,m,h,ho,i,f,caps,r',hm=>by
  simp only[fO]at h;simp only[Ef,aC]at ho;split at h
  .rename_i m' h1;cases h;cases i with
   |zero=>
    simp only[aU,aA,BC.bx.injEq,SV.cl.injEq]at hm;rw[<-hm.1.2];exact ho.1
   |succ i=>rw[aT]at hm;exact rA h1 ho.2 i f caps r' hm
  .cases h
 |[],_::_,_,_,h,_,_,_,_,_,_=>by simp[fO]at h
 |[],[],_::_,_,h,_,_,_,_,_,_=>by simp[fO]at h
 |(s,rr)::l,[],d,m,h,_,_,_,_,_,_=>by cases s<;>simp[fO]at h
 |(.val t,rr)::l,r::rs,[],m,h,_,_,_,_,_,_=>by simp[fO]at h
 |(.tup _,_)::_,_::_,_,_,h,_,_,_,_,_,_=>by simp[fO]at h
 |(.nl,_)::_,_::_,_,_,h,_,_,_,_,_,_=>by simp[fO]at h
 |(.lc _ _ _,_)::_,_::_,_,_,h,_,_,_,_,_,_=>by simp[fO]at h
 |(.ep _,_)::_,_::_,_,_,h,_,_,_,_,_,_=>by simp[fO]at h
 |(.rw _,_)::_,_::_,_,_,h,_,_,_,_,_,_=>by simp[fO]at h
 |(.nf,_)::_,_::_,_,_,h,_,_,_,_,_,_=>by simp[fO]at h
 |(.row t,rr)::l,r::rs,⟨.sl e,x⟩::d,m,h,ho,i,f,caps,r',hm=>by
  simp only[fO]at h;split at h
  .rename_i m' h1;cases h;cases i with
   |zero=>simp at hm
   |succ i=>rw[aT]at hm;exact rA h1 ho i f caps r' hm
  .cases h
 |(.row t,rr)::l,r::rs,[],m,h,_,_,_,_,_,_=>by simp[fO]at h
 |(.row t,rr)::l,r::rs,⟨.int _,x⟩::d,m,h,_,_,_,_,_,_=>by simp[fO]at h
 |(.row t,rr)::l,r::rs,⟨.bool,x⟩::d,m,h,_,_,_,_,_,_=>by simp[fO]at h
 |(.row t,rr)::l,r::rs,⟨.str,x⟩::d,m,h,_,_,_,_,_,_=>by simp[fO]at h
 |(.row t,rr)::l,r::rs,⟨.rc _,x⟩::d,m,h,_,_,_,_,_,_=>by simp[fO]at h
 |(.no,_)::_,_::_,_,_,h,_,_,_,_,_,_=>by simp[fO]at h
def wE: ∀{l:List (Sh×jD)} {rs:List jD} {d:List (V U)} {m:List (BC U.D)},fO U l rs d=some m->∀(i:Nat),m[i]?=some .gone->False
 |l,rs,d,m,h,i,hm=>by
  unfold fO at h;split at h
  .simp only[aA]at h;subst h;simp at hm
  .split at h
   .rename_i m' h1;cases h;cases i with
    |zero=>simp at hm
    |succ i=>rw[aT]at hm;exact wE h1 i hm
   .cases h
  .split at h
   .rename_i m' h1;cases h;cases i with
    |zero=>simp at hm
    |succ i=>rw[aT]at hm;exact wE h1 i hm
   .cases h
  .split at h
   .rename_i m' h1;cases h;cases i with
    |zero=>simp at hm
    |succ i=>rw[aT]at hm;exact wE h1 i hm
   .cases h
  .cases h
def G5{n:Nat}: ∀{l:List PV},(∀x∈l,below n x=true)->jL n l=true
 |[],_=>rfl
 |x::l,h=>by
  show(below n x&&jL n l)=true;rw[h x (aH ..),G5 λy hy=>h y (aG _ hy)];rfl
def aFJ{n:Nat}{x:PV}(h:gd (wk x)=true):below n x=true:=by
 cases x with
 |agg cs=>simp[wk,gd]at h
 |tup cs=>simp[wk,gd]at h
 |ptr i o=>simp[wk,gd]at h
 |rs i o l=>simp[wk,gd]at h
 |mp i=>simp[wk,gd]at h
 |fn f a b=>simp[wk,gd]at h
 |_=>rfl
def E3{n:Nat}: ∀{caps:List Nat} {ps:List PV},yH c caps ps->(∀k e id,k∈caps->c k=some e->e.id=some id->id<n)->jL n ps=true
 |[],[],_,_=>rfl
 |k::ks,x::ps,⟨⟨e,id,h1,h2,h3⟩,h4⟩,hb=>by
  simp only[jL,E3 h4 (λk' e id hk=>hb k' e id (aG _ hk)),bE]
  rw[h3];simp only[below,gW,aD];exact hb k e id (aH ..) h1 h2
 |[],_::_,h,_=>h.elim
 |_::_,[],h,_=>h.elim
def B0{n:Nat}: ∀{l:List Nat},vS l n=true->∀k∈l,k<n
 |x::l,h,k,hk=>by
  simp only[vS,aC,gW,aD]at h;rcases List.mem_cons.1 hk with rfl|hk
  .exact h.1
  .exact B0 h.2 k hk
def Qm{c':Cx}: ∀{caps:List Nat} {ps:List PV},yH c caps ps->(∀k e,k∈caps->c k=some e->c' k=some e)->yH c' caps ps
 |[],[],_,_=>trivial
 |k::ks,x::ps,⟨⟨e,id,h1,h2,h3⟩,h4⟩,hb=>⟨⟨e,id,hb k e (aH ..) h1,h2,h3⟩,Qm h4 λk' e hk=>hb k' e (aG _ hk)⟩
 |[],_::_,h,_=>h.elim
 |_::_,[],h,_=>h.elim
def Xa{O:Fs}{s:QJ}{d:List (V U)}{args:List (PV×Bool)}{cc:Cx}{S0:TS U.D}{M0:TM U.D}(bw:aKP O s=true)(hf:Nat.beq s.f O.n=true)(hin:FA U s d p cc args S0 M0):
    s.bx=[]/\s.bo=[]/\s.rs=[.str]/\s.own=false/\∃a b o1 o2,d=[⟨.int .i64,a⟩,⟨.int .i64,b⟩]/\args=[(.v (.int .i64 a),o1),(.v (.int .i64 b),o2)]:=by
 obtain⟨f,ps,bx,bo,rs,own⟩:=s;unfold aKP at bw;rw[hf,aI]at bw;split at bw
 .rename_i e1 e2 e3 e4 e5;simp only at e1 e2 e3 e4 e5;subst e1;subst e2;subst e3;subst e4;subst e5;refine⟨rfl,rfl,rfl,rfl,?_⟩;have cf:=hin.start;have hu: ∀(t:Ty) (x:Den U.D t) (l:List (V U)),Ra U (.val (.int .i64)) (⟨t,x⟩::l)=bif t.beq (.int .i64)then some (.val ⟨t,x⟩,l)else none:=λ_ _ _=>rfl
  simp only[HL,cutOf,cutOf.psL,cutOf.bxL,aBb]at cf
  match d,cf,hin with
  |[],cf,_=>cases cf
  |[⟨t,x⟩],cf,_=>
   rw[hu]at cf;cases h1:t.beq (.int .i64)with
   |false=>rw[h1]at cf;cases cf
   |true=>rw[h1]at cf;cases cf
  |⟨t,x⟩::⟨u,y⟩::r,cf,hin=>
   rw[hu]at cf;cases h1:t.beq (.int .i64)with
   |false=>rw[h1]at cf;cases cf
   |true=>
    rw[h1,aI]at cf;simp only[hu]at cf;cases h2:u.beq (.int .i64)with
    |false=>rw[h2]at cf;cases cf
    |true=>
     have e1:=Ty.beq_eq h1;have e2:=Ty.beq_eq h2;subst e1;subst e2;rw[h2,aI]at cf;cases r with
     |cons z r=>cases cf
     |nil=>
      simp only[CL,aA,aB]at cf;obtain⟨g1,g2⟩:=cf
      match args,hin.len,hin.args with
      |[(p1,o1),(p2,o2)],_,ha=>
       have a1:=(ha 0 _ rfl).1;have a2:=(ha 1 _ rfl).1;rw[<-g1]at a1 a2;refine⟨x,y,o1,o2,rfl,?_⟩;have b1:p1= .v (.int .i64 x):=iQ a1;have b2:p2= .v (.int .i64 y):=iQ a2;rw[b1,b2]
 .cases bw
def Pq{O:Fs}{s:QJ}{d:List (V U)}{args:List (PV×Bool)}{cc:Cx}{S0:TS U.D}{M0:TM U.D}(bw:aKP O s=true)(hn:Nat.beq s.f O.n=false)(hf:Nat.beq s.f O.m=true)(hin:FA U s d p cc args S0 M0):
    s.bx=[]/\s.bo=[]/\s.rs=[.bool]/\s.own=false/\d=[]/\args=[]:=by
 obtain⟨f,ps,bx,bo,rs,own⟩:=s;unfold aKP at bw;rw[hn,aJ,hf,aI]at bw;split at bw
 .rename_i e1 e2 e3 e4 e5;simp only at e1 e2 e3 e4 e5;subst e1;subst e2;subst e3;subst e4;subst e5;refine⟨rfl,rfl,rfl,rfl,?_,?_⟩
  .have cf:=hin.start;simp only[HL,cutOf,cutOf.psL,cutOf.bxL,aBb]at cf;cases d with
   |nil=>rfl
   |cons x d=>simp only[CL]at cf;cases cf
  .exact List.length_eq_zero_iff.1 hin.len
 .cases bw
variable(hU:iE U)(hT:rT P U T)
include hU hT
omit hU hT in
def aCm{own:Bool}{a:List (V U)}(h: ∀v,a≠ [v]): ∃rs0,CO U own a=(.tup a,rs0)/\(rs0=[]∨∃v b,a=[v,⟨.bool,b⟩]/\own=true/\b=true/\rs0=[(0,true)]):=by
 unfold CO;split
 .rename_i v;exact(h v rfl).elim
 .rename_i v b;refine⟨_,rfl,?_⟩;cases own with
  |false=>exact .inl rfl
  |true=>
   cases b with
   |false=>exact .inl rfl
   |true=>exact .inr ⟨v,true,rfl,rfl,rfl,rfl⟩
 .exact⟨[],rfl,.inl rfl⟩
def OC{tc:nF U.D}{pc:gT}(ih:CallOK U T tc pc){L:Nat}{s:QJ}{code:TC}{rs:List ResultVar}(hb1:s.bx.length<=100)(hb2:Ef s.bx.length s.bx=true){d out:List (V U)}
    (h:oF U (cutOf s) (λS M=>fK U T tc L code S M (aEX U T s rs)) d=some out) {p:PSt} {cc:Cx} {args:List (PV×Bool)} {S0:TS U.D} {M0:TM U.D} (hin:FA U s d p cc args S0 M0):
    ∃pv own p',DC P pc L code.pc rs args p=some (pv,own,p')/\YJ U s out p cc pv own p':=by
 simp only[oF,hin.start]at h;have cf:=hin.start;unfold HL at cf;split at cf
 .rename_i Sa da hSa;split at cf
  .rename_i Ma hMa;simp only[aA,aB]at cf;obtain⟨e1,e2⟩:=cf;subst e1;subst e2;have gr: ∀k e,cc k=some e->k<s.bx.length:=λk e hk=>by
    rcases Nat.lt_or_ge k s.bx.length with h|h
    .exact h
    .rw[hin.dom k h]at hk;cases hk
   have F0:lW U cc Sa (AU args 0 .none):=by
    intro k;rw[P5];by_cases hk:k<args.length
    .rw[bI ⟨Nat.zero_le _,by omega⟩,Nat.sub_zero,aV hk]
     exact hin.args k _ (aV hk)
    .rw[bH (by omega)]
     have:lV Sa k=(.no,[]):=VY hSa k (by
      show dY k ((cutOf.psL s.ps 0).map (·.1))=false;rw[Pb];have:=hin.len;simp;omega)
     rw[this];exact⟨trivial,bV _ _⟩
   have M0':MR U p cc cc ⟨Ma,[]⟩ (a2X p):=by
    refine⟨λk hk=>?_,λk b hk=>?_,hin.lt,hin.inj,aS _,λk e h1 _=>h1,λk e id h1 h2 h3=>?_,λid _ _=>rfl,λid hi=>(by cases hi),λid hi=>(by cases hi)⟩
    .have:=VZ hMa k hk;rw[show(cutOf s).bx=cutOf.bxL s.bx 0 from rfl,Qr]at this
     refine hin.dom k ?_;simp at this;omega
    .obtain⟨e,h1,h2⟩:=hin.bx k b hk;exact⟨e,h1,xS h2 λ_ _=>rfl⟩
    .have:=gr k e h1;omega
   obtain⟨fl,c1,S1,M1,S1',p1,h1,h2,h3,h4,h5⟩:=aE2 hU hT ih L code (List (V U)) (aEX U T s rs) out Sa ⟨Ma,[]⟩ (AU args 0 .none) (a2X p) cc F0 M0' h;have ku:(∀id,fl≠ .exit id)/\∃a b,FQ U T S1 M1 rs s.rs=some a/\Po U M1 s.bx s.bo 0=some b/\Kk U S1 rs s.own s.rs a=true/\out=a++b:=by
    have key: ∀(r:Option (List (V U))),r=(match FQ U T S1 M1 rs s.rs,Po U M1 s.bx s.bo 0 with|some a,some b=>bif Kk U S1 rs s.own s.rs a then some (a++b)else none|_,_=>none)->r=some out->∃a b,FQ U T S1 M1 rs s.rs=some a/\Po U M1 s.bx s.bo 0=some b/\Kk U S1 rs s.own s.rs a=true/\out=a++b:=by
     intro r e1 e2;rw[e1]at e2;split at e2
     .rename_i a b ha bu;cases hw:Kk U S1 rs s.own s.rs a with
      |false=>rw[hw]at e2;cases e2
      |true=>rw[hw]at e2;cases e2;exact⟨a,b,ha,bu,hw,rfl⟩
     .cases e2
    cases fl with
    |exit id=>cases h1
    |normal=>exact⟨λ_ e=>(by cases e),key _ rfl h1⟩
    |ret=>exact⟨λ_ e=>(by cases e),key _ rfl h1⟩
   obtain⟨bm,a,b,ha,bu,hw,rfl⟩:=ku;obtain⟨vs,r1,r2,r3,r4,r5,r6⟩:=IA hU hT h3 h4 ha;obtain⟨m,o1,o2⟩:=JF h4 bu;simp only[Nat.zero_add]at o2;have hal:a.length=s.rs.length:=by rw[<-r3,List.length_map]
   have htake:(a++b).take s.rs.length=a:=by rw[<-hal];exact List.take_left
   have gh:(a++b).drop s.rs.length=b:=by rw[<-hal];exact List.drop_left
   have kw:qB U cc (CO U s.own a) ((eH vs).1,(eH vs).2)/\below p.next (eH vs).1=true:=by
    have hlen:vs.length=a.length:=by have:=congrArg List.length r2;simpa using this
    have htup:(∀v,a≠ [v])->(qB U cc (CO U s.own a) ((eH vs).1,(eH vs).2)/\below p.next (eH vs).1=true):=by
     intro hn1;obtain⟨rs0,e1,hrs0⟩:=aCm (own:=s.own) hn1;have e2: ∃fg,eH vs=(.tup (wks (vs.map (·.1))),fg)/\∀w w' l,vs=w::w'::l->fg=((w.2||kM w.1)&& !JU w.1&&aEd w.1):=by
      cases vs with
      |nil=>exact⟨false,rfl,λ_ _ _ h=>by cases h⟩
      |cons w vs=>cases vs with
       |cons w' vs=>exact⟨_,rfl,λ_ _ _ h=>by cases h;rfl⟩
       |nil=>
        cases a with
        |nil=>simp at hlen
        |cons x a=>cases a with
         |nil=>exact(hn1 x rfl).elim
         |cons y a=>simp at hlen
     obtain⟨fg,e2,ti⟩:=e2;have e3:wks (vs.map (·.1))=a.map λv=>dD U v.t v.x:=by rw[mJ,List.map_map];exact r2
     rw[e1,e2];refine⟨⟨⟨_,rfl,e3⟩,?_⟩,?_⟩
     .rcases hrs0 with rfl|⟨v,b,rfl,ho,rfl,rfl⟩
      .exact bV _ _
      ·
       obtain⟨w,w',rfl⟩: ∃w w',vs=[w,w']:=by
        match vs,hlen with
        |[w,w'],_=>exact⟨w,w',rfl⟩
       have hF:aDv U S1 rs=true:=by
        cases hf:aDv U S1 rs with
        |true=>rfl
        |false=>simp[Kk,ho,hf,bI2]at hw
       have kj:a4o s.rs=true:=by
        simp only[Kk,ho,hF,aI,Bool.or_eq_true,aC]at hw;rcases hw with⟨h6,_⟩|h6
        .rw[<-r3]at h6;exact absurd (show Ps [v.t,Ty.bool]=true from h6) (by simp[Ps])
        .exact h6
       obtain⟨t,gj,ln,cf⟩: ∃t gj,rs= .tmp t::gj/\qA (lV S1 t).2=true:=by
        unfold aDv at hF;split at hF
        .exact⟨_,_,rfl,hF⟩
        .cases hF
       obtain⟨mf,lk⟩:=r6 t gj w [w'] v _ ln rfl rfl;have cy: ∃e,v.t= .sl e:=by
        rw[<-r3]at kj;cases gw:v.t with
        |sl e=>exact⟨e,rfl⟩
        |_=>rw[aO,gw]at kj;cases kj
       obtain⟨e,cy⟩:=cy;have nc:=oO lk (by rw[cy];rfl)
       have hN:aEd w.1=true:=by
        obtain⟨vt,vx⟩:=v;have cy:vt= .sl e:=cy;subst cy;obtain⟨_,hl⟩:=tF lk;rcases hl with⟨_,h8⟩|⟨_,h8⟩
        .rcases h8 with h8|h8|h8<;>rw[h8]<;>rfl
        .rw[h8];rfl
       have ti:=ti w w' [] rfl;rcases(h3 t).2 0 true (rZ cf)with⟨g1,_⟩|⟨_,_,g1,g2⟩
       .rw[<-mf,nc]at g1;cases g1
       .rw[<-mf]at g1 g2;have hfg1:fg=true:=by rw[ti,g1,g2 rfl,hN];rfl
        intro o st hi;simp only[List.mem_singleton,aB]at hi;refine .inr ⟨hi.1,rfl,by rw[hfg1];rfl,λ_=>?_⟩
        rw[e3];show JU (.tup (dD U v.t v.x::_))=false;have hg:gd (dD U v.t v.x)=true:=by
         obtain⟨vt,vx⟩:=v;have cy:vt= .sl e:=cy;subst cy;exact eR _ _
        have:=BL hg;rw[aLl];generalize dD U v.t v.x=y at this;cases y with
        |sl z es=>cases es with
         |nil=>cases this
         |cons _ _=>rfl
        |_=>rfl
     show jL p.next _=true
     rw[e3,fU];intro x hx;obtain⟨v,_,rfl⟩:=List.mem_map.1 hx;exact P9 hU _ _ _
    cases a with
    |nil=>exact htup λv e=>by cases e
    |cons v a=>
     cases a with
     |cons y a=>exact htup λv e=>by cases e
     |nil=>
      cases vs with
      |nil=>simp at hlen
      |cons w vs=>
       cases vs with
       |cons y vs=>simp at hlen
       |nil=>
        have hv:=r5 v w rfl rfl;refine⟨⟨aPf hU hv,?_⟩,?_⟩
        .cases ho:s.own with
         |false=>exact bV _ _
         |true=>
          have hB:a4o s.rs=false:=by rw[<-r3];cases gw:v.t<;>simp[a4o,gw]
          have hw1:aWU U S1 rs=true/\Ps s.rs=true:=by
           cases hf:aDv U S1 rs with
           |true=>
            simp only[Kk,ho,hf,aI,hB,Bool.or_false,aC]at hw;exact⟨hw.2,hw.1⟩
           |false=>simp[Kk,ho,hf,hB]at hw
          obtain⟨hw1,hw2⟩:=hw1;have ln: ∃t,rs=[.tmp t]/\qA (lV S1 t).2=true:=by
           unfold aWU at hw1;split at hw1
           .exact⟨_,rfl,hw1⟩
           .cases hw1
          obtain⟨t,rfl,hst2⟩:=ln;have mf:=r4 t w rfl rfl;have cy:lU v.t=false:=by
           have hw3:Ps [v.t]=true:=by rw[<-r3]at hw2;exact hw2
           cases gw:v.t with
           |sl t=>rfl
           |_=>rw[gw]at hw3;cases hw3
          have nc:=oO hv cy;rcases(h3 t).2 0 true (rZ hst2)with⟨g1,_⟩|⟨_,_,g1,g2⟩
          .rw[<-mf,nc]at g1;cases g1
          .rw[<-mf]at g1 g2;intro o st hi;have hi:(o,st)∈RP true:=hi;simp only[RP,List.mem_singleton,aB]at hi;refine .inr ⟨hi.1,?_,?_,λ_=>?_⟩
           .show isAgg (wk w.1)=false;rw[hv.wk,<-hv.wk];cases hh:w.1 with
            |agg cs=>rw[hh]at nc;cases nc
            |sl z es=>cases es<;>rfl
            |_=>rfl
           .show(((w.2||kM w.1)&& !JU w.1)||kM (wk w.1))=true;rw[g1,g2 rfl];rfl
           .exact aEe w.1
        .show below p.next (wk w.1)=true
         rw[hv.wk];exact P9 hU _ _ _
   obtain⟨hslr,hbel⟩:=kw;have hmlen:m.length=s.bx.length:=uP o1;have hold: ∀id,id∈(p1.dirty.filter λid=>Nat.blt id p.next)↔id∈p1.dirty/\id<p.next:=λid=>by
    rw[List.mem_filter];simp only[gW,aD]
   have hidx: ∀k e id,cc k=some e->e.id=some id->∃x,m[k]?=some x/\c1 k=some e/\CY U c1 p1 e x:=by
    intro k e id hk hid;have bi:=gr k e hk;obtain⟨e',g1,g2⟩:=o2 k m[k] (aV (by omega))
    have:=h4.bor k e' g1 (by omega)
    rw[hk]at this;cases this;exact⟨_,aV (by omega),g1,g2⟩
   have px: ∀id,id<p.next->p1.get id=p1.mem.get id:=λid hi=>by
    have:Nat.blt id p1.next=true:=by rw[gW,aD];exact Nat.lt_of_lt_of_le hi h5
    simp only[PSt.get,this,aI]
   have we:(p1.dirty.filter λid=>Nat.blt id p.next).all (vN p.next p1.mem)=true:=by
    rw[bJ];intro id hi;obtain⟨hd,bi⟩:=(hold id).1 hi;obtain⟨k,e,g1,g2⟩:=h4.dirty id hd bi;obtain⟨x,g3,g4,g5⟩:=hidx k e id g1 g2;cases x with
    |gone=>exact(wE o1 k g3).elim
    |row t l=>
     obtain⟨_,hz,⟨g6,_⟩|⟨bv,g6,g7⟩⟩:=g5
     .rw[g2]at g6;cases g6
     rw[g2]at g6;cases g6;rw[px id bi]at g7;simp only[vN,g7,sV];exact G5 λy hy=>by
      obtain⟨y',nt,hx⟩:=List.mem_flatMap.1 hy;obtain⟨a,_,rfl⟩:=List.mem_map.1 nt;exact EH (bJ.1 (tR hU t a) y hx)
    |bx sv rr=>
    obtain⟨bv,cs,g6,g7,g8,_⟩:=g5;rw[g2]at g6;cases g6;have g5:=g7;have g6:=g8;rw[px id bi]at g5;simp only[vN,g5,sV,bJ];intro y hy;cases sv with
    |val v=>
     obtain⟨k1,k2,k3⟩:=g6;exact aFJ ((⟨k1,k2⟩:SR v.t v.x (cs.map (·.1))).gd hU (List.mem_map.2 ⟨y,hy,rfl⟩))
    |cl f caps=>
     obtain⟨pv,bb,e1,ps,e2,e3⟩:=g6;rw[e1,List.mem_singleton]at hy;rw[hy,e2];show(jL p.next []&&jL p.next ps)=true
     rw[E3 e3 λk' e' bv jb h6 h7=>hin.lt k' e' bv (h4.bor k' e' h6 (by have:=B0 (rA o1 hb2 k f caps rr g3) k' jb;omega)) h7]
     rfl
    |nf=>
     obtain⟨bb,e1⟩:=g6;rw[e1,List.mem_singleton]at hy;rw[hy];rfl
    |_=>exact g6.elim
   have js:PI.settle p (eH vs).1 p1=⟨(p1.dirty.filter λid=>Nat.blt id p.next).foldr (aFL p1.mem) p.mem,p.next,(p1.dirty.filter λid=>Nat.blt id p.next).foldr FK p.dirty,(p1.wr.filter λid=>Nat.blt id p.next).foldr FK p.wr⟩:=by
    unfold PI.settle;rw[hbel,we];rfl
   have hfm:=BN (mem:=p.mem) (q:=p1.mem) (old:=p1.dirty.filter λid=>Nat.blt id p.next) (λid hi e=>by
    have:=bJ.1 we id hi;simp only[vN,e]at this;cases this)
   have bc: ∀id,id<p.next->(PI.settle p (eH vs).1 p1).get id=if id∈(p1.dirty.filter λid=>Nat.blt id p.next)then p1.get id else p.get id:=by
    intro id hi;rw[js];have hbl:Nat.blt id p.next=true:=by rw[gW,aD];exact hi
    show(bif Nat.blt id p.next then _ else none)=_
    rw[hbl,aI,hfm id,px id hi];by_cases h6:id∈(p1.dirty.filter λid=>Nat.blt id p.next)
    .rw[bI h6,bI h6]
    .rw[bH h6,bH h6];simp only[PSt.get,hbl,aI]
   have wc: ∀id,id<p.next->(PI.settle p (eH vs).1 p1).get id=p1.get id:=by
    intro id hi;rw[bc id hi];by_cases h6:id∈(p1.dirty.filter λid=>Nat.blt id p.next)
    .rw[bI h6]
    .rw[bH h6];exact(h4.old id hi λhd=>h6 ((hold id).2 ⟨hd,hi⟩)).symm
   refine⟨(eH vs).1,(eH vs).2,PI.settle p (eH vs).1 p1,?_,?_⟩
   .have:DC P pc L code.pc rs args p=some ((eH vs).1,(eH vs).2,PI.settle p (eH vs).1 p1):=by
     simp only[DC,h2];cases fl with
     |exit id=>exact(bm id rfl).elim
     |normal=>simp only[r1]
     |ret=>simp only[r1]
    exact this
   .refine⟨by rw[htake];exact hslr,⟨m,by rw[gh];exact o1,λj x hj=>?_⟩,by rw[js],λid hi dn=>?_,λid hi dn=>?_,λid hi=>?_,λid hi=>?_,λid hi=>?_⟩
    .obtain⟨e,g1,g2⟩:=o2 j x hj;have wa:j<m.length:=by
      rcases Nat.lt_or_ge j m.length with h|h
      .exact h
      .rw[List.getElem?_eq_none h]at hj;cases hj
     have hcj:=h4.bor j e g1 (by omega)
     refine⟨e,hcj,?_⟩;cases x with
     |gone=>trivial
     |row t l=>
      obtain⟨k1,k2,k3⟩:=g2;refine⟨k1,k2,?_⟩;rcases k3 with k3|⟨id,k3,k4⟩
      .exact .inl k3
      .exact .inr ⟨id,k3,by rw[wc id (hin.lt j e id hcj k3)];exact k4⟩
     |bx sv rr=>
     obtain⟨id,cs,g2,g3,g4,g5⟩:=g2;refine⟨id,cs,g2,by rw[wc id (hin.lt j e id hcj g2)];exact g3,?_,g5⟩
     cases sv with
     |cl f caps=>
      obtain⟨pv,bb,e1,ps,e2,e3⟩:=g4;exact⟨pv,bb,e1,ps,e2,Qm e3 λk' e' jb h6=>h4.bor k' e' h6 (by have:=B0 (rA o1 hb2 j f caps rr hj) k' jb;omega)⟩
     |_=>exact g4
    .rw[bc id hi,bH];intro h6;obtain⟨hd,bi⟩:=(hold id).1 h6;obtain⟨k,e,g1,g2⟩:=h4.dirty id hd bi;exact dn k e g1 g2
    .rw[js]at dn;have dn:id∉(p1.dirty.filter λid=>Nat.blt id p.next).foldr FK p.dirty:=dn
     rw[fE]at dn;rw[bc id hi,bH λh6=>dn (.inl h6)]
    .rw[js]at hi;have hi:id∈(p1.dirty.filter λid=>Nat.blt id p.next).foldr FK p.dirty:=hi
     rw[fE]at hi;rcases hi with h6|h6
     .obtain⟨hd,bi⟩:=(hold id).1 h6;exact .inr (h4.dirty id hd bi)
     .exact .inl h6
    .rw[js];show id∈(p1.dirty.filter λid=>Nat.blt id p.next).foldr FK p.dirty
     rw[fE];exact .inr hi
    .rw[js]at hi;have hi:id∈(p1.wr.filter λid=>Nat.blt id p.next).foldr FK p.wr:=hi
     rw[fE]at hi;rcases hi with h6|h6
     .rw[List.mem_filter,gW,aD]at h6;exact .inr ((h4.wr id h6.1).2 h6.2)
     .exact .inl h6
  .cases cf
 .cases cf
def Qo{G:aM7}{GP:aHr}(hG: ∀i s code rs,T.sig i=some s->G i=some (code,rs)->GP s.f=some (code.pc,rs))(hA: ∀i s,T.sig i=some s->BY P s.f s.ps.length=true)(L:Nat): ∀n,CallOK U T (vJ U T G L n) (pC P T.orc GP L n):=by
 intro n;induction n with
 |zero=>intro inst s d out hs h;cases h
 |succ n ih=>
  intro inst s d out hs h p cc args S0 M0 hin;simp only[vJ,hs]at h;split at h
  .rename_i s' code rs ja hg;cases ja;cases hb:aKP T.orc s&&Nat.ble s.bx.length 100&&Ef s.bx.length s.bx with
   |false=>rw[hb]at h;cases h
   |true=>
    rw[hb]at h;simp only[aC,Nat.ble_eq]at hb;obtain⟨⟨hb0,hb1⟩,hb2⟩:=hb;rw[aI]at h;split at h
    .rename_i x hx;simp only[aA]at h;subst h;unfold aKI at hx;cases hf:Nat.beq s.f T.orc.n with
     |false=>
      rw[hf,aJ]at hx;cases hm:Nat.beq s.f T.orc.m with
      |false=>rw[hm]at hx;cases hx
      |true=>
       obtain⟨k1,k2,k3,k4,rfl,rfl⟩:=Pq hb0 hf hm hin;rw[hm,aI]at hx;cases hx;refine⟨.v (.bool true),false,p,?_,?_⟩
       .simp only[pC,aKJ,hf,hm,aI,aJ,bDn]
       .refine⟨?_,⟨[],?_,λj x hj=>(by cases hj)⟩,rfl,λ_ _ _=>rfl,λ_ _ _=>rfl,λid h=> .inl h,λid h=>h,λid h=> .inl h⟩
        .rw[k3,k4];exact⟨fI _,bV _ _⟩
        .rw[k3,k1,k2];rfl
     |true=>
      obtain⟨k1,k2,k3,k4,a,b,o1,o2,rfl,rfl⟩:=Xa hb0 hf hin;rw[hf,aI]at hx;simp only at hx;rw[aF]at hx;obtain⟨x,hx,rfl⟩:=hx;refine⟨.str x,false,p,?_,?_⟩
      .simp only[pC,aKJ,hf,aI,hx,aK,bDn]
      .refine⟨?_,⟨[],?_,λj x hj=>(by cases hj)⟩,rfl,λ_ _ _=>rfl,λ_ _ _=>rfl,λid h=> .inl h,λid h=>h,λid h=> .inl h⟩
       .rw[k3,k4];exact⟨Fk _,bV _ _⟩
       .rw[k3,k1,k2];rfl
    rename_i bz;have dn:aKJ T.orc s.f args=none/\aOS T.orc s.f args=true:=by
     unfold aKJ aOS;cases hf:Nat.beq s.f T.orc.n with
     |false=>
      cases hm:Nat.beq s.f T.orc.m with
      |false=>exact⟨rfl,rfl⟩
      |true=>
       obtain⟨k1,k2,k3,k4,rfl,rfl⟩:=Pq hb0 hf hm hin;unfold aKI at bz;rw[hf,aJ,hm,aI]at bz;cases bz
     |true=>
      obtain⟨k1,k2,k3,k4,a,b,o1,o2,rfl,rfl⟩:=Xa hb0 hf hin;unfold aKI at bz;rw[hf,aI]at bz;exact⟨bz,rfl⟩
    have lg:BY P s.f args.length=true:=by rw[hin.len];exact hA _ _ hs
    have hGP:=hG inst s code rs hs hg;obtain⟨pv,own,p',g1,g2⟩:=OC hU hT ih hb1 hb2 h hin;exact⟨pv,own,p',by simp only[pC,dn.1,dn.2,lg,bD,Bool.or_self,aJ,hGP,g1],g2⟩
  .cases h
end
end Go.TV
namespace Go.TV
open Go.AI Go.PI
inductive aHq where
 |n
 |r (tk:List Nat) (fz:List (Nat×Nat)) (cl:List (Nat×Nat×List Nat))
 |s (a b:aHq)
 |c (a b:aHq)
 |b (a:aHq)
 |l (ct:Cut) (a:aHq)
 |o (a:aHq)
 |d (ct:Cut) (a:aHq)
 |i (ts:List Nat) (a:aHq)
def a8F(i:Nat):List (Nat×Nat)->List Bl
 |[]=>[]
 |x::xs=>bif Nat.beq x.1 i then .freeze x.2::a8F i xs else a8F i xs
def Gs(tk:List Nat)(fz:List (Nat×Nat))(i:Nat):List Bl:=a8F i fz++ [.op i (dY i tk)]
def ZP(ops:Array Oper)(tk:List Nat)(fz:List (Nat×Nat)):Nat->List Nat->List Bl
 |0,l=>l.flatMap (Gs tk fz)
 |f+1,a::i::s::l=>bif aOK ops a i s then .app a i s::ZP ops tk fz f l else Gs tk fz a++ZP ops tk fz f (i::s::l)
 |_+1,l=>l.flatMap (Gs tk fz)
def aFA:List (Nat×Nat×List Nat)->Nat->Nat×List Nat
 |[],_=>(0,[])
 |x::l,i=>bif Nat.beq x.1 i then x.2 else aFA l i
def aR7(cl:List (Nat×Nat×List Nat)):Bl->TStep
 | .op i take=> .op i take (aFA cl i).1 (aFA cl i).2
 | .app a i s=> .app a i s
 | .freeze t=> .freeze t
def aKr(tk:List Nat)(fz:List (Nat×Nat))(cl:List (Nat×Nat×List Nat))(id:Nat)(ops:Array Oper):Bool->TC
 |true=> .region id ops true (eD ops.toList []) ((ZP ops tk fz ops.size (pX ops (eD ops.toList []))).map (aR7 cl))
 |false=> .region id ops false [] ((ZP ops tk fz ops.size (List.range ops.size)).map (aR7 cl))
def qR:Code->TC
 | .skip=> .skip
 | .label l=> .label l
 | .region id ops draw=>aKr [] [] [] id ops draw
 | .seq a b=> .seq (qR a) (qR b)
 | .cond x a b=> .cond x (qR a) (qR b)
 | .block id a=> .block id (qR a)
 | .exit id=> .exit id
 | .ret=> .ret
 | .scope a=> .scope (qR a)
 |c=> .other c
def Xs:List Nat->TC->TC
 |[],c=>c
 |t::ts,c=> .ice t (Xs ts c)
def gL:aHq->Code->TC
 | .n,c=>qR c
 | .d ct x,c=> .cut ct (gL x c)
 | .i ts x,c=>Xs ts (gL x c)
 | .r tk fz cl,c=>match c with| .region id ops draw=>aKr tk fz cl id ops draw|c=> .other c
 | .s x y,c=>match c with| .seq a b=> .seq (gL x a) (gL y b)|c=> .other c
 | .c x y,c=>match c with| .cond v a b=> .cond v (gL x a) (gL y b)|c=> .other c
 | .b x,c=>match c with| .block id a=> .block id (gL x a)|c=> .other c
 | .l ct x,c=>match c with| .loop a=> .loop ct (gL x a)|c=> .other c
 | .o x,c=>match c with| .scope a=> .scope (gL x a)|c=> .other c
def qC(a b:List Bl):gJ (a++b)=gJ a++gJ b:=by
 induction a with
 |nil=>rfl
 |cons x a ih=>cases x<;>simp[gJ,ih]
def ZQ(i:Nat)(l:List (Nat×Nat)):gJ (a8F i l)=[]:=by
 induction l with
 |nil=>rfl
 |cons x l ih=>simp only[a8F];cases Nat.beq x.1 i<;>simp[gJ,ih]
def Cj(tk:List Nat)(fz:List (Nat×Nat))(i:Nat):gJ (Gs tk fz i)=[i]:=by
 unfold Gs;rw[qC,ZQ];rfl
def uF(tk:List Nat)(fz:List (Nat×Nat))(l:List Nat):gJ (l.flatMap (Gs tk fz))=l:=by
 induction l with
 |nil=>rfl
 |cons i l ih=>rw[aN,qC,Cj,ih];rfl
def DH(ops:Array Oper)(tk:List Nat)(fz:List (Nat×Nat)): ∀(f:Nat) (l:List Nat),gJ (ZP ops tk fz f l)=l:=by
 intro f;induction f with
 |zero=>intro l;exact uF tk fz l
 |succ f ih=>
  intro l
  match l with
  |[]=>rfl
  |[a]=>exact uF tk fz [a]
  |[a,i]=>exact uF tk fz [a,i]
  |a::i::s::l=>
   simp only[ZP];cases aOK ops a i s with
   |true=>simp only[aI,gJ,ih]
   |false=>simp only[aJ];rw[qC,Cj,ih];rfl
def aBA(cl:List (Nat×Nat×List Nat))(l:List Bl):(l.map (aR7 cl)).map TStep.un=l:=by
 induction l with
 |nil=>rfl
 |cons x l ih=>rw[aO,aO,ih];cases x<;>rfl
def WF(tk:List Nat)(fz:List (Nat×Nat))(cl:List (Nat×Nat×List Nat))(id:Nat)(ops:Array Oper)(draw:Bool):eM (aKr tk fz cl id ops draw).pc= .region id ops draw/\qP (aKr tk fz cl id ops draw).pc:=by
 cases draw with
 |true=>
  refine⟨rfl,?_⟩;show eD ops.toList []=eD ops.toList []/\gJ _=_;rw[aBA];exact⟨rfl,DH _ _ _ _ _⟩
 |false=>
  refine⟨rfl,?_⟩;show gJ _=_;rw[aBA];exact DH _ _ _ _ _
def aBq: ∀c:Code,eM (qR c).pc=c/\qP (qR c).pc:=by
 intro c;induction c with
 |region id ops draw=>exact WF _ _ _ _ _ _
 |seq a b ff jp=>exact⟨by simp only[qR,TC.pc,eM,ff.1,jp.1],ff.2,jp.2⟩
 |cond x a b ff jp=>exact⟨by simp only[qR,TC.pc,eM,ff.1,jp.1],ff.2,jp.2⟩
 |block id a ih=>exact⟨by simp only[qR,TC.pc,eM,ih.1],ih.2⟩
 |scope a ih=>exact⟨by simp only[qR,TC.pc,eM,ih.1],ih.2⟩
 |_=>exact⟨rfl,trivial⟩
def PQ(ts:List Nat)(c:TC):eM (Xs ts c).pc=eM c.pc/\(qP c.pc->qP (Xs ts c).pc):=by
 induction ts with
 |nil=>exact⟨rfl,id⟩
 |cons t ts ih=>exact⟨ih.1,ih.2⟩
def Dn: ∀(s:aHq) (c:Code),eM (gL s c).pc=c/\qP (gL s c).pc:=by
 intro s;induction s with
 |n=>exact aBq
 |r tk fz cl=>intro c;cases c<;>first|exact WF _ _ _ _ _ _|exact⟨rfl,trivial⟩
 |s x y nq qy=>intro c;cases c<;>first|exact⟨by simp only[gL,TC.pc,eM,(nq _).1,(qy _).1],(nq _).2,(qy _).2⟩|exact⟨rfl,trivial⟩
 |c x y nq qy=>intro c;cases c<;>first|exact⟨by simp only[gL,TC.pc,eM,(nq _).1,(qy _).1],(nq _).2,(qy _).2⟩|exact⟨rfl,trivial⟩
 |b x ih=>intro c;cases c<;>first|exact⟨by simp only[gL,TC.pc,eM,(ih _).1],(ih _).2⟩|exact⟨rfl,trivial⟩
 |l ct x ih=>intro c;cases c<;>first|exact⟨by simp only[gL,TC.pc,eM,(ih _).1],(ih _).2⟩|exact⟨rfl,trivial⟩
 |o x ih=>intro c;cases c<;>first|exact⟨by simp only[gL,TC.pc,eM,(ih _).1],(ih _).2⟩|exact⟨rfl,trivial⟩
 |d ct x ih=>intro c;exact⟨(ih c).1,(ih c).2⟩
 |i ts x ih=>intro c;exact⟨by simp only[gL,(PQ ts _).1,(ih c).1],(PQ ts _).2 (ih c).2⟩
structure cH where
 sig:QJ
 sk:aHq
def lI(P:Program)(f:Nat):Code:=match P.funcs[f]? with|some fn=>fn.body.getD .skip|none=> .skip
def Au(P:Program)(f:Nat):List ResultVar:=match P.funcs[f]? with|some fn=>fn.results.toList|none=>[]
def rP:List (Nat×cH)->Nat->Option cH
 |[],_=>none
 |x::l,i=>bif Nat.beq x.1 i then some x.2 else rP l i
def AT:List (Nat×cH)->Nat->Option cH
 |[],_=>none
 |x::l,f=>bif Nat.beq x.2.sig.f f then some x.2 else AT l f
def zF(l:List (Nat×cH))(i:Nat):Option QJ:=(rP l i).map (·.sig)
def Dy(P:Program)(l:List (Nat×cH)):aM7:=λi=>match rP l i with
 |some x=>some (gL x.sk (lI P x.sig.f),Au P x.sig.f)
 |none=>none
def uM(P:Program)(l:List (Nat×cH)):aHr:=λf=>match AT l f with
 |some x=>some ((gL x.sk (lI P f)).pc,Au P f)
 |none=>none
def bDr(P:Program)(l:List (Nat×cH))(x:cH):Prop:= ∃y,AT l x.sig.f=some y/\(gL y.sk (lI P x.sig.f)).pc=(gL x.sk (lI P x.sig.f)).pc
def HQ{P:Program}{l:List (Nat×cH)}(h: ∀i x,rP l i=some x->bDr P l x): ∀i s code rs,zF l i=some s->Dy P l i=some (code,rs)->uM P l s.f=some (code.pc,rs):=by
 intro i s code rs h1 h2;unfold zF at h1;unfold Dy at h2;cases hx:rP l i with
 |none=>rw[hx]at h1;cases h1
 |some x=>
  rw[hx]at h1 h2;simp only[aK,aA,aB]at h1 h2;obtain⟨y,g1,g2⟩:=h i x hx;subst h1;obtain⟨rfl,rfl⟩:=h2;simp only[uM,g1,g2]
def By{P C:Program}(h:C.funcs.toList.all (kE P)=true){l:List (Nat×cH)}(hb: ∀f x,AT l f=some x->∃fn c,C.funcs[f]?=some fn/\fn.body=some c):Mu P C (uM C l):=by
 intro f c rs hf;unfold uM at hf;split at hf<;>try cases hf
 rename_i x hx;obtain⟨fn,cd,h1,h2⟩:=hb f x hx;have e1:lI C f=cd:=by simp only[lI,h1,h2,Option.getD_some]
 refine⟨fn,h1,by rw[h2,(Dn _ _).1,e1],by simp only[Au,h1],(Dn _ _).2,?_⟩
 rw[bJ]at h;have:=h fn (by have:=Array.mem_of_getElem? h1;simpa using this)
 simp only[kE,h2,aC]at this;rw[(Dn _ _).1,e1];exact this.1
section
variable{U:hY}{T:TP U.D}{W:Type}{c:nF U.D}{L:Nat}
def OB{f g:TS U.D->TM U.D->TK U.D W->Option W}(h: ∀S M K,f S M K=g S M K)(K:TK U.D W):Du U f K=Du U g K:=by
 funext fl S M;cases fl<;>first|exact h S M K|rfl
def bBd: ∀(code:TC) (S:TS U.D) (M:TM U.D) (K:TK U.D W),oG U T c (Dx U T c L) (Ex U T c L) code S M K=fK U T c L code S M K:=by
 intro code;induction code with
 |seq a b ff jp=>intro S M K;simp only[oG,fK];rw[ff,OB jp]
 |cond x a b ff jp=>intro S M K;simp only[oG,fK,ff,jp]
 |block id a ih=>intro S M K;simp only[oG,fK,ih]
 |scope a ih=>intro S M K;simp only[oG,fK,ih]
 |ice t a ih=>intro S M K;simp only[oG,fK,ih]
 |_=>intro S M K;rfl
end
def Lp{N:Type}(F:Nat->Nat->Option N)(r:N):Prop:= ∃α,∀L n,α<=L->α<=n->F L n=some r
section
variable{N W:Type}{r:W}
def jH{x:W}:Lp (λ_ _=>some x) x:=⟨0,λ_ _ _ _=>rfl⟩
end
end Go.TV
