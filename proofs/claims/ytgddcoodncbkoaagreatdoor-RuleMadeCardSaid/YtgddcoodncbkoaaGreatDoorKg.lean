import Derived.Test.YtgddcoodncbkoaaGreatDoorKf
set_option linter.unusedVariables false
set_option linter.unusedSimpArgs false
set_option linter.constructorNameAsVariable false
set_option linter.defProp false
namespace Go.TV
open Go.AI Go.PI
def gd:PV->Bool
 | .v _| .str _| .emp=>true
 | .sl _ (_::_)=>true
 |_=>false
def dP(U:iR):(t:Ty)->Den U.D t->PV
 | .int k,n=> .v (.int k n)
 | .bool,b=> .v (.bool b)
 | .str,s=> .str s
 | .sl t,l=>eD (dN U t) (List.map (dP U t) l)
 | .rc n,x=> .agg (U.en n x)
def en{U:iR}(v:V U):PV:=dP U v.t v.x
def NO(U:iR)(t:Ty):List PV:=(jK U t).flatMap aM1
def aR0(l:List PV)(i:Nat):Bool:=match l[i]? with|some .nil=>true|_=>false
def bMd:PV->Bool
 | .v _| .str _=>true
 |_=>false
structure iM(U:iR):Prop where
 eqc: ∀n f x,U.eq n=some f->(U.en n x).all bMd=true
 ty: ∀n x,(U.un n x).map (λv=>v.t)=U.fs n
 un_of: ∀n l x,U.of n l=some x->U.un n x=l
 en: ∀n x,U.en n x=(U.un n x).flatMap λv=>(dP U v.t v.x).cells
 len: ∀n x,(U.en n x).length=U.sz n
 sz: ∀n,U.sz n=eX U (U.fs n)
 gd: ∀n x,(U.en n x).all gd=true
 pos: ∀n,1<=U.sz n
 zero: ∀n,U.un n (U.zero n)=(U.fs n).map λt=>⟨t,pM U t⟩
 lt: ∀n,U.lt n=(U.fs n).flatMap (jK U)
 zc: ∀n,wks ((U.lt n).flatMap aM1)=U.en n (U.zero n)
 nz: ∀n,(zV U (.rc n)).all (λx=>aR0 ((U.lt n).flatMap aM1) x.1)=true
 ltl: ∀n,(U.lt n).length=U.sz n
def a3d{x:PV}(h:gd x=true):x.pur=true:=by cases x<;>first|rfl|simp[gd]at h
def aF9{x:PV}(h:gd x=true):wk x=x:=by
 cases x with
 |sl z es=>cases es with
  |nil=>simp[gd]at h
  |cons e es=>rfl
 |_=>first|rfl|simp[gd]at h
def oV{x:PV}(h:gd x=true):x.cells=[x]:=by cases x<;>first|rfl|simp[gd]at h
def Bp{x:PV}(h:gd x=true):Kw x=false:=by
 cases x with
 |sl z es=>cases es with
  |nil=>simp[gd]at h
  |cons e es=>rfl
 |_=>first|rfl|simp[gd]at h
def Ez{x:PV}{n:Nat}(h:gd x=true):below n x=true:=by cases x<;>first|rfl|simp[gd]at h
def eZ(z:Nat)(l:List PV):gd (eD z l)=true:=by cases l<;>rfl
def mI(l:List PV):wks l=l.map wk:=by induction l with
 |nil=>rfl
 |cons x l ih=>simp only[wks,ih,aO]
def KP{l:List PV}(h:l.all gd=true):wks l=l:=by
 rw[mI];induction l with
 |nil=>rfl
 |cons x l ih=>
  simp only[aP,aC]at h;rw[aO,aF9 h.1,ih h.2]
section
variable{U:iR}(hU:iM U)
include hU
def tF(t:Ty)(x:Den U.D t):(dP U t x).cells.all gd=true:=by
 cases t with
 |int k=>rfl
 |bool=>rfl
 |str=>rfl
 |sl t=>simp only[dP,oV (eZ _ _),aP,eZ,List.all_nil,Bool.and_self]
 |rc n=>exact hU.gd n x
def jC(t:Ty)(x:Den U.D t):(dP U t x).cells.length=dN U t:=by
 cases t with
 |int k=>rfl
 |bool=>rfl
 |str=>rfl
 |sl t=>simp only[dP,oV (eZ _ _),dN,aM,aX]
 |rc n=>exact hU.len n x
def XT(t:Ty)(x:Den U.D t):wk (dP U t x)=dP U t x:=by
 cases t with
 |int k=>rfl
 |bool=>rfl
 |str=>rfl
 |sl t=>exact aF9 (eZ _ _)
 |rc n=>simp only[dP,wk,KP (hU.gd n x)]
def pZ(t:Ty):1<=dN U t:=by
 cases t with
 |rc n=>exact hU.pos n
 |_=>exact aS _
def P4(n:Nat)(t:Ty)(x:Den U.D t):below n (dP U t x)=true:=by
 cases t with
 |int k=>rfl
 |bool=>rfl
 |str=>rfl
 |sl t=>exact Ez (eZ _ _)
 |rc m=>
  show jN n (U.en m x)=true;rw[fY];intro c hc;exact Ez (bJ.1 (hU.gd m x) c hc)
end
section
variable{U:iR}{p:PV}
def Q9{x:Value}(h:wk p= .v x):p= .v x:=by
 cases p with
 |v y=>exact h
 |sl z es=>cases es<;>simp[wk]at h
 |_=>simp[wk]at h
def IP{x:List UInt8}(h:wk p= .str x):p= .str x:=by
 cases p with
 |str y=>exact h
 |sl z es=>cases es<;>simp[wk]at h
 |_=>simp[wk]at h
def Rb{x:List PV}(h:wk p= .agg x): ∃cs,p= .agg cs/\wks cs=x:=by
 cases p with
 |agg y=>simp only[wk,PV.agg.injEq]at h;exact⟨y,rfl,h⟩
 |sl z es=>cases es<;>simp[wk]at h
 |_=>simp[wk]at h
def aVk(h:wk p= .emp):p= .emp∨p= .nil∨∃z,p= .sl z []:=by
 cases p with
 |emp=>exact .inl rfl
 |nil=>exact .inr (.inl rfl)
 |sl z es=>cases es with
  |nil=>exact .inr (.inr ⟨z,rfl⟩)
  |cons e es=>simp[wk]at h
 |_=>simp[wk]at h
def aQ1{z:Nat}{e:PV}{es:List PV}(h:wk p= .sl z (e::es)):p= .sl z (e::es):=by
 cases p with
 |sl z es=>cases es with
  |nil=>simp[wk]at h
  |cons e es=>exact h
 |_=>simp[wk]at h
def aC4{z:Nat}{es:List PV}(h:wk p=eD z es):(es=[]/\(p= .emp∨p= .nil∨∃z,p= .sl z []))∨(es≠ []/\p= .sl z es):=by
 cases es with
 |nil=>exact .inl ⟨rfl,aVk h⟩
 |cons e es=>exact .inr ⟨by simp,aQ1 h⟩
def aGs{z:Nat}{es:List PV}(h:wk p=eD z es)(hz: ∀z',p= .sl z' []->z'=z):oW z p=some es:=by
 rcases aC4 h with⟨rfl,rfl|rfl|⟨z',rfl⟩⟩|⟨_,rfl⟩
 .rfl
 .rfl
 .have:=hz z' rfl;subst this;simp[oW]
 .simp[oW]
end
section
variable(U:iR)
def NP(ts:List Ty)(cs:List PV):Prop:= ∀(j z:Nat),cs[j]?=some (.sl z [])->∃e,ts[j]?=some (.sl e)/\z=dN U e
structure VR(t:Ty)(x:Den U.D t)(p:PV):Prop where
 wk:PI.wk p=dP U t x
 z:NP U (jK U t) p.cells
structure Ce where
 id:Option Nat
 n:Nat
 z:Nat
abbrev Cx:=Nat->Option Ce
def wN(c:Cx):List Nat->List PV->Prop
 |[],[]=>True
 |k::ks,p::ps=>(∃e id,c k=some e/\e.id=some id/\p= .ptr id 0)/\wN c ks ps
 |_,_=>False
def tN(c:Cx):SV U.D->PV->Prop
 | .val v,p=>VR U v.t v.x p
 | .tup l,p=> ∃ps,p= .tup ps/\ps=l.map λv=>dP U v.t v.x
 | .nl,p=>p= .nil
 | .lc k off _,p=> ∃e id,c k=some e/\e.id=some id/\p= .ptr id off
 | .ep v,p=> ∃es i off e,p= .pin es i off/\es[i]?=some e/\(e.cells.drop off).take (dN U v.t)=(dP U v.t v.x).cells
 | .rw k,p=> ∃e,c k=some e/\((e.id=none/\e.n=0/\(p= .sl e.z []∨p= .emp))∨∃id,e.id=some id/\1<=e.n/\p= .rs id 0 e.n)
 | .rp k i off _,p=> ∃e id,c k=some e/\e.id=some id/\0<=i/\i<(e.n:Int)/\p= .ptr id (i.toNat*e.z+off)
 | .cl f caps,p=> ∃ps,p= .fn f [] ps/\wN c caps ps
 | .nf,p=>p= .v .nilFunc
 | .zr l,p=>p= .agg l
 | .no,_=>True
def isAgg:PV->Bool
 | .agg _=>true
 |_=>false
def aCQ(rs:jF)(p:PV)(ow:Bool):Prop:=
 ∀o s,(o,s)∈rs->(isAgg p=true/\p.cells[o]?=some .nil)∨(o=0/\isAgg p=false/\(ow||kS p)=true/\(s=true->Kw p=false))
def qB(c:Cx)(x:X U)(y:PV×Bool):Prop:=tN U c x.1 y.1/\aCQ x.2 y.1 y.2
def lS(c:Cx)(S:TS U.D)(S':PS):Prop:= ∀t,qB U c (lQ S t) (S'.at t)
def yH(c:Cx):SV U.D->List (PV×Bool)->Prop
 | .val v,cs=>wks (cs.map (·.1))=(dP U v.t v.x).cells/\NP U (jK U v.t) (cs.map (·.1))/\∀x∈cs,x.1≠ .nil
 | .cl f caps,cs=> ∃p b,cs=[(p,b)]/\tN U c (.cl f caps) p
 | .nf,cs=> ∃b,cs=[(.v .nilFunc,b)]
 |_,_=>False
def bIH(rs:jF)(cs:List (PV×Bool)):Prop:= ∀o s,(o,s)∈rs->∃x,cs[o]?=some (x,true)/\(s=true->Kw x=false)
def CX(c:Cx)(p:PSt)(e:Ce):BC U.D->Prop
 | .bx s r=> ∃id cs,e.id=some id/\p.get id=some (.box cs)/\yH U c s cs/\bIH r cs
 | .row t l=>e.n=l.length/\e.z=dN U t/\((e.id=none/\l=[])∨∃id,e.id=some id/\p.get id=some (.row e.z (lO t) ((l.map (dP U t)).flatMap PV.cells)))
 | .gone=>True
structure MR(q:PSt)(c0 c:Cx)(M:TM U.D)(p:PSt):Prop where
 dom: ∀k,dQ M.bx k=none->c k=none
 bx: ∀k b,dQ M.bx k=some b->∃e,c k=some e/\CX U c p e b
 lt: ∀k e id,c k=some e->e.id=some id->id<p.next
 inj: ∀k k' e e' id,c k=some e->c k'=some e'->e.id=some id->e'.id=some id->k=k'
 next:q.next<=p.next
 bor: ∀k e,c k=some e->k<100->c0 k=some e
 loc: ∀k e id,c k=some e->100<=k->e.id=some id->q.next<=id
 old: ∀id,id<q.next->id∉p.dirty->p.get id=q.get id
 dirty: ∀id,id∈p.dirty->id<q.next->∃k e,c0 k=some e/\e.id=some id
 wr: ∀id,id∈p.wr->id<p.next/\(id<q.next->∃k e,c0 k=some e/\e.id=some id)
def WR(c:Cx)(M:TM U.D)(p:PSt):Prop:= ∀id,id∈p.wr->∀k e,c k=some e->e.id=some id->eA k M.wr=true
def leC(c c':Cx):Prop:= ∀k e,c k=some e->c' k=some e
end
end Go.TV
namespace Go.TV
open Go.AI Go.PI
def bJK(P:Program)(U:iR)(T:TP U.D)(id:TypeId):Ty->Prop
 | .int k=>P.underlying id=some (.int k)
 | .bool=>P.underlying id=some .bool
 | .str=>P.underlying id=some .string
 | .sl t=> ∃e,P.underlying id=some (.slice e)/\T.T.ty e=some t/\T.el id=some e
 | .rc n=>T.T.arr id=false->∃fs,P.underlying id=some (.struct fs)/\fs.size=(U.fs n).length/\∀i f,fs[i]?=some f->T.T.ty f.type=(U.fs n)[i]?/\f.offset=kF U n i
def aBV(U:iR):List Ty->Nat->List (Nat×Nat)
 |[],_=>[]
 |t::ts,o=>(o,dN U t)::aBV U ts (o+dN U t)
structure rN(P:Program)(U:iR)(T:TP U.D):Prop where
 ag: ∀id t,T.T.ty id=some t->jU P id=some (lO t)
 sz: ∀id t,T.T.ty id=some t->iE P id=some (dN U t)
 un: ∀id t,T.T.ty id=some t->bJK P U T id t
 zc: ∀id t,T.T.ty id=some t->zeroCells P id=some (NO U t)
 fn: ∀id,T.T.fn id=true->jU P id=some false/\iE P id=some 1/\zeroCells P id=some [.v .nilFunc]
 inf: ∀id t,T.T.ty id=some t->∃info z,P.info? id=some info/\info.size=dN U t/\info.bytes=T.T.by' id/\1<=info.bytes/\info.zero=some z/\z.cells.size=info.size/\ofVs z.cells.toList=NO U t/\z.cells.toList.all bQ=true
 bd: ∀id n,T.T.ty id=some (.rc n)->T.T.arr id=false->∃fs pl,P.underlying id=some (.struct fs)/\cN P (fs.mapM λf=>do pure (f.offset,<-Go.sizeOf f.type))=some pl/\pl.toList=aBV U (U.fs n) 0
 arr: ∀id n,T.T.ty id=some (.rc n)->T.T.arr id=true->∃len e te,P.underlying id=some (.array len e)/\iE P e=some (dN U te)/\U.fs n=List.replicate len te
 eq: ∀id n f,T.T.ty id=some (.rc n)->U.eq n=some f->∀(x y:U.D n) (a b:Operand),
  lB P .eql id a b (.agg (U.en n x)) (.agg (U.en n y))=some (.v (.bool (f x y)))/\lB P .neq id a b (.agg (U.en n x)) (.agg (U.en n y))=some (.v (.bool (!f x y)))
section
variable{U:iR}{c c':Cx}{S:TS U.D}{S':PS}
def aBD{T:TP U.D}{id:TypeId}{t:Ty}(h:NZ T.T id=some t):T.T.ty id=some t/\T.T.arr id=false:=by
 unfold NZ at h;cases ha:T.T.arr id with
 |true=>rw[ha]at h;cases h
 |false=>rw[ha]at h;exact⟨h,rfl⟩
def LQ(h:leC c c'): ∀{ks:List Nat} {ps:List PV},wN c ks ps->wN c' ks ps
 |[],[],_=>trivial
 |k::ks,p::ps,⟨⟨e,id,h1,h2,h3⟩,h4⟩=>⟨⟨e,id,h k e h1,h2,h3⟩,LQ h h4⟩
 |[],_::_,hh=>hh.elim
 |_::_,[],hh=>hh.elim
def aDh(h:leC c c'){x:SV U.D}{p:PV}(r:tN U c x p):tN U c' x p:=by
 cases x with
 |val v=>exact r
 |tup l=>exact r
 |nl=>exact r
 |lc k off q=>obtain⟨e,id,h1,h2,h3⟩:=r;exact⟨e,id,h k e h1,h2,h3⟩
 |ep v=>exact r
 |rw k=>obtain⟨e,h1,h2⟩:=r;exact⟨e,h k e h1,h2⟩
 |rp k i off q=>obtain⟨e,id,h1,h2,h3⟩:=r;exact⟨e,id,h k e h1,h2,h3⟩
 |cl f caps=>obtain⟨ps,h1,h2⟩:=r;exact⟨ps,h1,LQ h h2⟩
 |nf=>exact r
 |zr l=>exact r
 |no=>trivial
def aWN(h:leC c c'){x:X U}{p:PV×Bool}(r:qB U c x p):qB U c' x p:=⟨aDh h r.1,r.2⟩
def Sr(h:leC c c')(F:lS U c S S'):lS U c' S S':=λt=>aWN h (F t)
def leC.refl(c:Cx):leC c c:=λ_ _ h=>h
def leC.trans{c'':Cx}(h:leC c c')(h':leC c' c''):leC c c'':=λk e hh=>h' k e (h k e hh)
def cB(p:PV)(ow:Bool):aCQ [] p ow:=λo s h=>by cases h
def aNO{rs:jF}{p:PV}{ow ow':Bool}(h:aCQ rs p ow)(ha:isAgg p=true):aCQ rs p ow':=λo s hm=>by
 rcases h o s hm with h1|⟨_,h2,_⟩
 .exact .inl h1
 .rw[ha]at h2;cases h2
def aDx{rs:jF}{p:PV}{ow ow':Bool}(h:aCQ rs p ow)(ho:ow=true->(ow'||kS p)=true):aCQ rs p ow':=λo s hm=>by
 rcases h o s hm with h1|⟨h1,h2,h3,h4⟩
 .exact .inl h1
 .refine .inr ⟨h1,h2,?_,h4⟩;cases ow with
  |true=>exact ho rfl
  |false=>simp only[Bool.false_or]at h3;rw[h3,Bool.or_true]
def aNp{v:V U}{p:PV}(h:VR U v.t v.x p)(hr:lO v.t=true):isAgg p=true:=by
 obtain⟨t,x⟩:=v;cases t with
 |rc n=>obtain⟨cs,rfl,_⟩:=Rb h.wk;rfl
 |_=>cases hr
def oH{v:V U}{p:PV}(h:VR U v.t v.x p)(hr:lO v.t=false):isAgg p=false:=by
 obtain⟨t,x⟩:=v;cases t with
 |rc n=>cases hr
 |int k=>rw[Q9 h.wk];rfl
 |bool=>rw[Q9 h.wk];rfl
 |str=>rw[IP h.wk];rfl
 |sl t=>rcases aC4 h.wk with⟨_,h1|h1|⟨z,h1⟩⟩|⟨_,h1⟩<;>rw[h1]<;>rfl
def uG{x:X U}{p:PV}{ow:Bool}(h:qB U c x (p,ow)):qB U c (sW U x) (p,false):=by
 obtain⟨sv,rs⟩:=x;obtain⟨h1,h2⟩:=h;cases sv with
 |val v=>
  cases hr:lO v.t with
  |true=>simp only[sW,hr,aI];exact⟨h1,aNO h2 (aNp h1 hr)⟩
  |false=>simp only[sW,hr,aJ];exact⟨h1,cB _ _⟩
 |nl=>
  refine⟨h1,λo s hm=>?_⟩
  simp only[sW,List.mem_singleton,aB]at hm;have h3:p= .nil:=h1;exact .inr ⟨hm.1,by rw[h3];rfl,by rw[h3];rfl,λ_=>by rw[h3];rfl⟩
 |_=>exact⟨h1,cB _ _⟩
def qL(S':PS)(t k:Nat)(x:PV×Bool):(S'.set t x).at k=if k=t then x else S'.at k:=by
 unfold PS.set PS.at;simp only;by_cases h:k=t
 .subst h;simp
 .have:Nat.beq k t=false:=by rw[<-Bool.not_eq_true];intro hh;exact h (aE hh)
  rw[this,bH h];rfl
def vK(S:TS U.D)(t k:Nat)(x:X U):lQ ((t,x)::S) k=if k=t then x else lQ S k:=by
 show(bif Nat.beq t k then x else lQ S k)=_;by_cases h:k=t
 .subst h;simp
 .have:Nat.beq t k=false:=by rw[<-Bool.not_eq_true];intro hh;exact h (aE hh).symm
  rw[this,bH h];rfl
def sH(F:lS U c S S'){t:Nat}{x:X U}{y:PV×Bool}(h:qB U c x y):lS U c ((t,x)::S) (S'.set t y):=λk=>by
 rw[vK,qL];by_cases e:k=t
 .rw[bI e,bI e];exact h
 .rw[bH e,bH e];exact F k
def Ak(F:lS U c S S'){d:Option Tmp}{x:X U}{v:PV}{own:Bool}(h:qB U c x (v,own)):lS U c (aBP U S d x) (S'.put d v own):=by
 cases d with
 |none=>exact F
 |some d=>exact sH F h
def rH(F:lS U c S S')(x:Operand):lS U c (uF U S x) (mU S' x):=by
 cases x with
 |tmp t=>exact sH F (uG (ow:=(S'.at t).2) (F t))
 |_=>exact F
def PQ(F:lS U c S S'){t:Nat}{x:X U}(h:qB U c x (S'.at t)):lS U c ((t,x)::S) S':=λk=>by
 rw[vK];by_cases e:k=t
 .rw[bI e,e];exact h
 .rw[bH e];exact F k
def dM(F:lS U c S S')(x:Operand):qB U c (jL U S x) (dE S' x,iO S' x):=by
 cases x with
 |tmp t=>
  refine⟨(F t).1,aDx (F t).2 λh=>?_⟩
  simp only[iO,h,Bool.true_or]
 |const v=>
  have hv: ∀y,VR U y.t y.x (A3 v)->qB U c (.val y,[]) (A3 v,iO S' (.const v)):=λy h=>⟨h,cB _ _⟩
  have h0: ∀(w:Value) (t:Ty) (h:A3 v= .v w),NP U (jK U t) (A3 v).cells:=λw t h j z hz=>by
   rw[h]at hz;cases j<;>simp[PV.cells]at hz
  cases v with
  |bool b=>exact hv ⟨.bool,b⟩ ⟨rfl,h0 _ _ rfl⟩
  |int k n=>exact hv ⟨.int k,n⟩ ⟨rfl,h0 _ _ rfl⟩
  |string s=>exact hv ⟨.str,s.data.toList⟩ ⟨rfl,λj z hz=>by cases j<;>simp[A3,PV.cells]at hz⟩
  |slice b l k=>
   cases b with
   |some b=>exact⟨trivial,cB _ _⟩
   |none=>
    refine⟨rfl,λo s hm=>?_⟩
    simp only[jL,bQg,List.mem_singleton,aB]at hm;exact .inr ⟨hm.1,rfl,rfl,λ_=>rfl⟩
  |nilFunc=>exact⟨rfl,cB _ _⟩
  |agg cs=>cases cs;exact⟨rfl,cB _ _⟩
  |_=>exact⟨trivial,cB _ _⟩
 |func f=>exact⟨⟨[],rfl,trivial⟩,cB _ _⟩
 |global g=>exact⟨trivial,cB _ _⟩
def KX: ∀{l r:List PV},aCU l r=true->l=r:=by
 intro l;induction l with
 |nil=>intro r h;cases r with|nil=>rfl|cons x r=>cases h
 |cons x l ih=>
  intro r h;cases r with
  |nil=>cases x<;>first|cases h|(rename_i v;cases v<;>cases h)
  |cons y r=>
   unfold aCU at h;split at h
   .rename_i heq;cases heq
   .rename_i e1 e2;cases e1;cases e2;simp only[aC,aD]at h;rw[h.1.1,h.1.2,ih h.2]
   .rename_i e1 e2;cases e1;cases e2;simp only[aC,aD]at h;rw[h.1,ih h.2]
   .rename_i e1 e2;cases e1;cases e2;rw[ih h]
   .rename_i e1 e2;cases e1;cases e2;simp only[aC,List.isEmpty_iff]at h;rw[h.1.1,h.1.2,ih h.2]
   .rename_i e1 e2;cases e1;cases e2;rw[ih h]
   .cases h
def lI(hU:iM U){t:Ty}{s:SV U.D}{v:V U}{p:PV}(h:HR U t s=some v)(r:tN U c s p):v.t=t/\VR U v.t v.x p:=by
 cases s with
 |val w=>
  simp only[HR]at h;cases hb:w.t.beq t with
  |false=>rw[hb]at h;cases h
  |true=>rw[hb]at h;cases h;exact⟨Ty.beq_eq hb,r⟩
 |nl=>
  simp only[HR]at h;split at h
  .cases h;have hp:p= .nil:=r;subst hp;exact⟨rfl,rfl,λj z hz=>by cases j<;>simp[PV.cells]at hz⟩
  .cases h
 |zr l=>
  simp only[HR]at h;split at h
  .rename_i n;cases hb:aCU l ((U.lt n).flatMap aM1)with
   |false=>rw[hb]at h;cases h
   |true=>
    rw[hb]at h;cases h;have hp:p= .agg l:=r;subst hp;rw[KX hb];refine⟨rfl,?_,λj z hz=>?_⟩
    .show PV.agg (wks _)= .agg _;rw[hU.zc n]
    .have hm:(PV.sl z [])∈(U.lt n).flatMap aM1:=List.mem_of_getElem? hz;rw[List.mem_flatMap]at hm;obtain⟨t,_,h1⟩:=hm;cases t<;>simp[aM1]at h1
  .cases h
 |_=>cases h
def aCV(hU:iM U){t:Option Ty}{s:SV U.D}{p:PV}(r:tN U c s p):tN U c (bIB U t s) p:=by
 unfold bIB;split
 .split
  .split
   .rename_i v hv;exact(lI hU hv r).2
   .trivial
  .trivial
 .exact r
def oX{D:Nat->Type}{t u:Ty}{x:Den D t}{y:Den D u}(h:TY t u x=some y):(⟨t,x⟩:TV D)=⟨u,y⟩:=by
 unfold TY at h;split at h
 .rename_i e _;subst e;cases h;rfl
 .cases h
end
end Go.TV
namespace Go.TV
open Go.AI Go.PI
section
variable{P:Program}{U:iR}{T:TP U.D}
def kB(l:List PV):(wks l).length=l.length:=by rw[mI,List.length_map]
def rQ(l r:List PV):wks (l++r)=wks l++wks r:=by simp only[mI,List.map_append]
def Dm(l:List PV)(n:Nat):wks (l.drop n)=(wks l).drop n:=by simp only[mI,List.map_drop]
def Dl(l:List PV)(n:Nat):wks (l.take n)=(wks l).take n:=by simp only[mI,List.map_take]
def sG{c:PV}(h:gd (wk c)=true): ∀cs,c≠ .agg cs:=λcs e=>by subst e;simp[wk,gd]at h
def oZ{c:PV}(h: ∀cs,c≠ .agg cs):c.cells=[c]:=by
 cases c with
 |agg cs=>exact(h cs rfl).elim
 |_=>rfl
def aVj{c:PV}(h:gd (wk c)=true):c.one=true:=by
 cases c with
 |agg cs=>simp[wk,gd]at h
 |tup cs=>simp[wk,gd]at h
 |und=>simp[wk,gd]at h
 |_=>rfl
def aQq{l:List PV}(h:(wks l).all gd=true):l.all PV.one=true:=by
 rw[mI,List.all_map,bJ]at h;rw[bJ];exact λx hx=>aVj (h x hx)
def Q8{ts us:List Ty}{cs ds:List PV}(hl:ts.length=cs.length)(h:NP U ts cs)(h':NP U us ds):NP U (ts++us) (cs++ds):=λj z hj=>by
 by_cases bi:j<cs.length
 .rw[List.getElem?_append_left bi]at hj;obtain⟨e,h1,h2⟩:=h j z hj;exact⟨e,by rw[List.getElem?_append_left (by omega)];exact h1,h2⟩
 .rw[List.getElem?_append_right (by omega)]at hj
  obtain⟨e,h1,h2⟩:=h' _ z hj;exact⟨e,by rw[List.getElem?_append_right (by omega),hl];exact h1,h2⟩
def aCX{ts:List Ty}{cs:List PV}(h:NP U ts cs)(o n:Nat):NP U ((ts.drop o).take n) ((cs.drop o).take n):=λj z hj=>by
 rw[List.getElem?_take]at hj⊢;split at hj
 .rename_i hjn;rw[List.getElem?_drop]at hj⊢;rw[bI hjn];exact h _ z hj
 .cases hj
def Dj{ts:List Ty}{cs:List PV}(h:cs.all gd=true):NP U ts cs:=λj z hj=>by
 have:=bJ.1 h _ (List.mem_of_getElem? hj);simp[gd]at this
def aNc(ts:List Ty):NP U ts []:=λj z hj=>by simp at hj
variable(hU:iM U)
include hU
def yC(t:Ty):(jK U t).length=dN U t:=by
 cases t with
 |rc n=>exact hU.ltl n
 |_=>rfl
omit hU in
def IX(ts us:List Ty):eX U (ts++us)=eX U ts+eX U us:=by
 induction ts with
 |nil=>simp[eX]
 |cons t ts ih=>simp only[aY,eX,ih,Nat.add_assoc]
def uN(l:List (V U)):List PV:=l.flatMap λv=>(dP U v.t v.x).cells
omit hU in
def jM(v:V U)(l:List (V U)):uN (v::l)=(dP U v.t v.x).cells++uN l:=rfl
def Qc{l:List (V U)}{i:Nat}{v:V U}(h:l[i]?=some v):
    ((uN l).drop (eX U ((l.map λv=>v.t).take i))).take (dN U v.t)=(dP U v.t v.x).cells:=by
 induction l generalizing i with
 |nil=>simp at h
 |cons w l ih=>
  cases i with
  |zero=>
   simp only[aU,aA]at h;subst h;rw[jM,List.take_zero,eX,List.drop_zero];exact List.take_left' (jC hU _ _)
  |succ i=>
   rw[aT]at h;rw[jM,aO,List.take_succ_cons,eX];rw[<-ih h];congr 1;rw[<-List.drop_drop];congr 1;exact List.drop_left' (jC hU _ _)
def Kq{ts:List Ty}{i:Nat}{t:Ty}(h:ts[i]?=some t):((ts.flatMap (jK U)).drop (eX U (ts.take i))).take (dN U t)=jK U t:=by
 induction ts generalizing i with
 |nil=>simp at h
 |cons w l ih=>
  cases i with
  |zero=>
   simp only[aU,aA]at h;subst h;rw[aN,List.take_zero,eX,List.drop_zero];exact List.take_left' (yC hU _)
  |succ i=>
   rw[aT]at h;rw[aN,List.take_succ_cons,eX];rw[<-ih h];congr 1;rw[<-List.drop_drop];congr 1;exact List.drop_left' (yC hU _)
def Br{n i:Nat}{x:U.D n}{v:V U}(h:(U.un n x)[i]?=some v):((U.en n x).drop (kF U n i)).take (dN U v.t)=(dP U v.t v.x).cells:=by
 rw[hU.en n x,kF,<-hU.ty n x];exact Qc hU h
def EB{n i:Nat}{x:U.D n}{v:V U}(h:(U.un n x)[i]?=some v):(U.fs n)[i]?=some v.t:=by
 rw[<-hU.ty n x,List.getElem?_map,h];rfl
def EC{n i:Nat}{t:Ty}(h:(U.fs n)[i]?=some t):((U.lt n).drop (kF U n i)).take (dN U t)=jK U t:=by
 rw[hU.lt n];exact Kq hU h
structure SR(t:Ty)(x:Den U.D t)(cs:List PV):Prop where
 wk:wks cs=(dP U t x).cells
 z:NP U (jK U t) cs
def SR.len{t:Ty}{x:Den U.D t}{cs:List PV}(h:SR t x cs):cs.length=dN U t:=by
 rw[<-kB,h.wk,jC hU]
def SR.gd{t:Ty}{x:Den U.D t}{cs:List PV}(h:SR t x cs){c:PV}(hc:c∈cs):gd (PI.wk c)=true:=by
 have h1:=tF hU t x;rw[<-h.wk,mI,List.all_map,bJ]at h1;exact h1 c hc
def SR.one{t:Ty}{x:Den U.D t}{cs:List PV}(h:SR t x cs):cs.all PV.one=true:=aQq (by rw[h.wk];exact tF hU t x)
def SR.fld{n i:Nat}{x:U.D n}{cs:List PV}(h:SR (U:=U) (.rc n) x cs){v:V U}(hv:(U.un n x)[i]?=some v):SR v.t v.x ((cs.drop (kF U n i)).take (dN U v.t)):=by
 refine⟨?_,?_⟩
 .rw[Dl,Dm,h.wk];exact Br hU hv
 .have:=aCX h.z (kF U n i) (dN U v.t);rw[show jK U (.rc n)=U.lt n from rfl,EC hU (EB hU hv)]at this
  exact this
omit hU in
def VR.sr{t:Ty}{x:Den U.D t}{p:PV}(h:VR U t x p):SR t x p.cells:=by
 refine⟨?_,h.z⟩;have h1:=h.wk;cases t with
 |rc n=>obtain⟨cs,rfl,h2⟩:=Rb h1;exact h2
 |int k=>rw[Q9 h1];rfl
 |bool=>rw[Q9 h1];rfl
 |str=>rw[IP h1];rfl
 |sl t=>
  have hg:gd (PI.wk p)=true:=by rw[h1];exact eZ _ _
  rw[oZ (sG hg),dP,oV (eZ _ _),wks,wks,h1,dP]
def zQ(hT:rN P U T){id:TypeId}{t:Ty}(ht:T.T.ty id=some t){x:Den U.D t}{cs:List PV}{off:Nat}(h:SR t x ((cs.drop off).take (dN U t))):
    ∃p,qZ P id cs off=some p/\VR U t x p/\p.cells=(cs.drop off).take (dN U t)/\isAgg p=lO t:=by
 have hl:=h.len hU;unfold qZ;rw[hT.ag id t ht];cases hr:lO t with
 |true=>
  simp only[hT.sz id t ht,hl,Nat.beq_refl,aI];refine⟨_,rfl,⟨?_,h.z⟩,rfl,rfl⟩;cases t with
  |rc n=>simp only[PI.wk,h.wk];rfl
  |_=>cases hr
 |false=>
  simp only;have hs:dN U t=1:=by cases t<;>first|rfl|cases hr
  rw[hs]at h hl⊢;have bi:off<cs.length:=by
   rw[List.length_take,List.length_drop]at hl;omega
  have qw:(cs.drop off).take 1=[cs[off]]:=by
   rw[List.drop_eq_getElem_cons bi];rfl
  rw[qw]at h⊢;refine⟨cs[off],by rw[aV bi],?_,?_,?_⟩
  .have hg:=h.gd hU (List.mem_singleton.2 rfl);refine⟨?_,?_⟩
   .have h1:=h.wk;rw[wks,wks]at h1;cases t with
    |rc n=>cases hr
    |int k=>exact List.head_eq_of_cons_eq h1
    |bool=>exact List.head_eq_of_cons_eq h1
    |str=>exact List.head_eq_of_cons_eq h1
    |sl t=>rw[dP,oV (eZ _ _)]at h1;exact List.head_eq_of_cons_eq h1
   .rw[oZ (sG hg)];exact h.z
  .exact oZ (sG (h.gd hU (List.mem_singleton.2 rfl)))
  .have:=sG (h.gd hU (List.mem_singleton.2 rfl));cases hc:cs[off]<;>first|rfl|exact(this _ hc).elim
def vL{p:List Nat}: ∀{v w:V U} {o:Nat} {cs:List PV},Aj U p v=some (w,o)->SR v.t v.x cs->SR w.t w.x ((cs.drop o).take (dN U w.t))/\o+dN U w.t<=dN U v.t:=by
 induction p with
 |nil=>
  intro v w o cs h r;simp only[Aj,aA,aB]at h;obtain⟨rfl,rfl⟩:=h;refine⟨?_,by omega⟩
  rw[List.drop_zero,List.take_of_length_le (by rw[r.len hU];exact aS _)]
  exact r
 |cons i p ih=>
  intro v w o cs h r;unfold Aj at h;split at h
  .rename_i y hy;split at h
   .rename_i z hz;simp only[aA,aB]at h;obtain⟨h1,h2⟩:=h;obtain⟨t,x⟩:=v;unfold KQ at hy;split at hy
    .rename_i n x' heq;cases heq;have nj:Aj U p y=some (w,z.2):=by rw[hz,<-h1]
     obtain⟨g1,g2⟩:=ih nj (r.fld hU hy);have ci:kF U n i+dN U y.t<=U.sz n:=by
      have hr:cs.length=U.sz n:=r.len hU;have:=(r.fld hU hy).len hU;rw[List.length_take,List.length_drop,hr]at this;have hp:=pZ hU y.t;omega
     have ho:o=kF U n i+z.2:=by rw[<-h2];rfl
     subst ho;refine⟨?_,?_⟩
     .rw[List.drop_take,List.drop_drop,List.take_take,Nat.min_eq_left (by omega)]at g1
      exact g1
     .show _<=U.sz n;omega
    .cases hy
   .cases h
  .cases h
end
end Go.TV
namespace Go.TV
open Go.AI Go.PI
section
variable{P:Program}{U:iR}{T:TP U.D}{c:Cx}{W:Type}{r:W}
def oC{N:Type}{a:Option N}{K:N->Option W}(h:ob a K=some r): ∃x,a=some x/\K x=some r:=by
 cases a with
 |none=>cases h
 |some x=>exact⟨x,rfl,h⟩
def fT{b:Bool}{K:Option W}(h:iQ b K=some r):b=true/\K=some r:=by
 cases b with
 |false=>cases h
 |true=>exact⟨rfl,h⟩
def Fa{b:Bool}{A B:Option W}(h:bN b A B=some r):(b=true/\A=some r)∨(b=false/\B=some r):=by
 cases b with
 |false=>exact .inr ⟨rfl,h⟩
 |true=>exact .inl ⟨rfl,h⟩
def aQZ(ts:List Ty)(x:Value):NP U ts (PV.v x).cells:=λj z hz=>by
 cases j<;>simp[PV.cells]at hz
def gM(k:IntKind)(n:Int):VR U (.int k) n (.v (.int k n)):=⟨rfl,aQZ _ _⟩
def fM(b:Bool):VR U .bool b (.v (.bool b)):=⟨rfl,aQZ _ _⟩
def FQ(s:List UInt8):VR U .str s (.str s):=⟨rfl,λj z hz=>by cases j<;>simp[PV.cells]at hz⟩
def jB{k:IntKind}{n:Int}{p:PV}(h:VR U (.int k) n p):p= .v (.int k n):=Q9 h.wk
def of_bool{b:Bool}{p:PV}(h:VR U .bool b p):p= .v (.bool b):=Q9 h.wk
def xZ{s:List UInt8}{p:PV}(h:VR U .str s p):p= .str s:=IP h.wk
def Pp{n:Nat}{x:U.D n}{p:PV}(h:VR U (.rc n) x p): ∃cs,p= .agg cs/\wks cs=U.en n x:=Rb h.wk
def sU{t:Ty}{l:List (Den U.D t)}{p:PV}(h:VR U (.sl t) l p):oW (dN U t) p=some (l.map (dP U t))/\((l=[]/\(p= .emp∨p= .nil∨p= .sl (dN U t) []))∨(l≠ []/\p= .sl (dN U t) (l.map (dP U t)))):=by
 have hz: ∀z',p= .sl z' []->z'=dN U t:=λz' e=>by
  obtain⟨e',h1,h2⟩:=h.z 0 z' (by rw[e];rfl)
  simp only[jK,aU,aA,Ty.sl.injEq]at h1;rw[h2,<-h1]
 have hw:PI.wk p=eD (dN U t) (l.map (dP U t)):=h.wk;refine⟨aGs hw hz,?_⟩;rcases aC4 hw with⟨h1,h2⟩|⟨h1,h2⟩
 .refine .inl ⟨by simpa using h1,?_⟩
  rcases h2 with h2|h2|⟨z,h2⟩
  .exact .inl h2
  .exact .inr (.inl h2)
  .exact .inr (.inr (by rw[h2,hz z h2]))
 .exact .inr ⟨by simpa using h1,h2⟩
def AV(t:Ty)(l:List (Den U.D t)){z:Nat}{es:List PV}(hz:z=dN U t)(he:es=l.map (dP U t)):VR U (.sl t) l (eD z es):=by
 subst hz he;refine⟨aF9 (eZ _ _),λj z hj=>?_⟩
 rw[oV (eZ _ _)]at hj;have:=eZ (dN U t) (l.map (dP U t));cases j with
 |zero=>
  simp only[aU,aA]at hj;rw[hj]at this;simp[gd]at this
 |succ j=>simp at hj
def JW{op:BinOp}{t:TypeId}{x y:Operand}{u w:Value}(hu:bQ u=true)(hw:bQ w=true):lB P op t x y (.v u) (.v w)=(iC P op t x y u w).map A3:=by
 have h1:=DV hu;have h2:=DV hw;simp only[lB,aCP,pY,hu,hw,aI,iC,h1,h2,Bool.and_self]
def eM(s:List UInt8):Value:= .string ⟨s.toArray⟩
def aE0{op:BinOp}{t:TypeId}{x y:Operand}{s u:List UInt8}:lB P op t x y (.str s) (.str u)=(iC P op t x y (eM s) (eM u)).map A3:=by
 simp only[lB,aCP,pY,iC,eM,cX,bQ,Bool.and_self,aI]
def bq(s u:List UInt8):(s==u)=decide (s=u):=by by_cases h:s=u<;>simp[h]
def aOM{op:BinOp}{t:TypeId}{x y:Operand}{k:IntKind}{a b:Int}{K:V U->Option W}(h:bFz U op k a b K=some r):
    ∃v w,K v=some r/\lB P op t x y (.v (.int k a)) (.v (.int k b))=some w/\VR U v.t v.x w:=by
 have go: ∀(v:V U) (w:Value),K v=some r->iC P op t x y (.int k a) (.int k b)=some w->VR U v.t v.x (A3 w)->∃v w,K v=some r/\lB P op t x y (.v (.int k a)) (.v (.int k b))=some w/\VR U v.t v.x w:=
  λv w hk ha hv=>⟨v,A3 w,hk,by rw[JW rfl rfl,ha];rfl,hv⟩
 cases op with
 |eql=>exact go _ _ h bDT (by rw[show(a==b)=decide (a=b) from rfl];exact fM _)
 |neq=>exact go _ _ h bDM (fM _)
 |lss=>exact go _ _ h bDP (fM _)
 |leq=>exact go _ _ h bDQ (fM _)
 |gtr=>exact go _ _ h bDR (fM _)
 |geq=>exact go _ _ h bDS (fM _)
 |add=>exact go _ _ h bDW (gM _ _)
 |sub=>exact go _ _ h bDH (gM _ _)
 |mul=>exact go _ _ h bDO (gM _ _)
 |quo=>
  obtain⟨hb,hk⟩:=fT h;exact go _ _ hk (bDL (by simpa using hb)) (gM _ _)
 |rem=>
  obtain⟨hb,hk⟩:=fT h;exact go _ _ hk (bDK (by simpa using hb)) (gM _ _)
 |and=>exact go _ _ h bDV (gM _ _)
 |or=>exact go _ _ h bLB (gM _ _)
 |xor=>exact go _ _ h bDG (gM _ _)
 |andNot=>exact go _ _ h aFp (gM _ _)
 |_=>cases h
def aWQ{op:BinOp}{t:TypeId}{x y:Operand}{k j:IntKind}{a b:Int}{K:V U->Option W}(h:bPW U op k a b K=some r):
    ∃v w,K v=some r/\lB P op t x y (.v (.int k a)) (.v (.int j b))=some w/\VR U v.t v.x w:=by
 have go: ∀(v:V U) (w:Value),K v=some r->iC P op t x y (.int k a) (.int j b)=some w->VR U v.t v.x (A3 w)->∃v w,K v=some r/\lB P op t x y (.v (.int k a)) (.v (.int j b))=some w/\VR U v.t v.x w:=
  λv w hk ha hv=>⟨v,A3 w,hk,by rw[JW rfl rfl,ha];rfl,hv⟩
 cases op with
 |shl=>
  obtain⟨hb,hk⟩:=fT h;exact go _ _ hk (bDJ (by simpa using hb)) (gM _ _)
 |shr=>
  obtain⟨hb,hk⟩:=fT h;exact go _ _ hk (bDI (by simpa using hb)) (gM _ _)
 |_=>cases h
def pD{op:BinOp}{t:TypeId}{x y:Operand}{s u:List UInt8}{v:Value}(h:cN P (Op.stringOp op ⟨s.toArray⟩ ⟨u.toArray⟩)=some v)(hv:cX v=true)(md:op= .eql∨op= .neq∨op= .lss∨op= .leq∨op= .gtr∨op= .geq∨op= .add):
    iC P op t x y (eM s) (eM u)=some v:=by
 have e:cN P (do eqGuard op t x y (eM s) (eM u);binOp op t (eM s) (eM u))=some v:=by
  rcases md with rfl|rfl|rfl|rfl|rfl|rfl|rfl<;>
   simp only[eM,bM,eqGuard,bD,Bool.not_false,Bool.false_eq_true,if_false,if_true,bS,aL,binOp,h]
 unfold iC dG;rw[show(cX (eM s)&&cX (eM u))=true from rfl,aI,e]
 simp only[hv,aI]
def aNz{op:BinOp}{t:TypeId}{x y:Operand}{a b:List UInt8}{K:V U->Option W}(h:a8q U op a b K=some r):
    ∃v w,K v=some r/\lB P op t x y (.str a) (.str b)=some w/\VR U v.t v.x w:=by
 have go: ∀(v:V U) (w:Value),K v=some r->iC P op t x y (eM a) (eM b)=some w->VR U v.t v.x (A3 w)->∃v w,K v=some r/\lB P op t x y (.str a) (.str b)=some w/\VR U v.t v.x w:=
  λv w hk ha hv=>⟨v,A3 w,hk,by rw[aE0,ha];rfl,hv⟩
 have hl: ∀s:List UInt8,(⟨s.toArray⟩:ByteArray).toList=s:=λs=>by rw[ByteArray.toList_mk]
 cases op with
 |eql=>exact go _ _ h (pD (v:= .bool (decide (a=b))) (by simp only[Op.stringOp,hl,bq];rfl) rfl (by simp)) (fM _)
 |neq=>exact go _ _ h (pD (v:= .bool (!decide (a=b))) (by simp only[Op.stringOp,hl,bq];rfl) rfl (by simp)) (fM _)
 |lss=>exact go _ _ h (pD (v:= .bool (Op.bytesLess a b)) (by simp only[Op.stringOp,hl,bq];rfl) rfl (by simp)) (fM _)
 |leq=>exact go _ _ h (pD (v:= .bool (Op.bytesLess a b||decide (a=b))) (by simp only[Op.stringOp,hl,bq];rfl) rfl (by simp)) (fM _)
 |gtr=>exact go _ _ h (pD (v:= .bool (!(Op.bytesLess a b||decide (a=b)))) (by simp only[Op.stringOp,hl,bq];rfl) rfl (by simp)) (fM _)
 |geq=>exact go _ _ h (pD (v:= .bool (!Op.bytesLess a b)) (by simp only[Op.stringOp,hl,bq];rfl) rfl (by simp)) (fM _)
 |add=>
  obtain⟨hb,hk⟩:=fT h;rw[Nat.ble_eq]at hb;refine go _ _ hk (pD (v:= .string (⟨a.toArray⟩++⟨b.toArray⟩)) ?_ rfl (by simp)) ?_
  .simp only[Op.stringOp];rw[bH]
   .rfl
   .show¬((((⟨a.toArray⟩:ByteArray).data.size+(⟨b.toArray⟩:ByteArray).data.size:Nat):Int)>9223372036854775807);simp only[List.size_toArray];omega
  .show VR U .str _ (.str (((⟨a.toArray⟩:ByteArray)++⟨b.toArray⟩).data.toList));rw[ByteArray.data_append];simp only[Array.toList_append];exact FQ _
 |_=>cases h
def aQg(hU:iM U)(hT:rN P U T){op:BinOp}{t:TypeId}{x y:Operand}{a b:SV U.D}{p p':PV}{K:V U->Option W}(h:a3Y U op (T.T.ty t) a b K=some r)(ra:tN U c a p)(rb:tN U c b p'):
    ∃v w,K v=some r/\lB P op t x y p p'=some w/\VR U v.t v.x w:=by
 unfold a3Y at h;split at h
 .rename_i k n j m;rw[jB ra,jB rb];cases hs:XE op with
  |true=>rw[hs]at h;exact aWQ h
  |false=>
   rw[hs]at h;simp only[aJ]at h;cases hj:decide (k=j)with
   |false=>rw[hj]at h;cases h
   |true=>
    rw[hj]at h;have:=of_decide_eq_true hj;subst this;exact aOM h
 .rename_i n m;rw[of_bool ra,of_bool rb];split at h
  .rename_i _ ht;have hu:P.underlying t=some .bool:=hT.un t .bool ht;exact⟨_,_,h,by rw[JW rfl rfl,bDU hu];rfl,fM _⟩
  .rename_i _ ht;have hu:P.underlying t=some .bool:=hT.un t .bool ht;exact⟨_,_,h,by rw[JW rfl rfl,bDN hu];rfl,fM _⟩
  .cases h
 .rw[xZ ra,xZ rb];exact aNz h
 .rename_i n x1 m y1;split at h
  .rename_i i ht;split at h
   .rename_i f x2 y2 hf h1 h2;have e1:=oX h1;have e2:=oX h2;have ra':VR U (.rc i) x2 p:=by have:=ra;unfold tN at this;rw[e1]at this;exact this
    have rb':VR U (.rc i) y2 p':=by have:=rb;unfold tN at this;rw[e2]at this;exact this
    obtain⟨cs,rfl,hc⟩:=Pp ra';obtain⟨ds,rfl,hd⟩:=Pp rb';have jv: ∀{cs:List PV} {x:U.D i},wks cs=U.en i x->cs=U.en i x:=by
     intro cs x hx;have h3:=hU.eqc i f x hf;rw[<-hx]at h3;rw[<-hx];clear hx;induction cs with
     |nil=>rfl
     |cons c cs ih=>
      simp only[wks,aP,aC]at h3;rw[wks,<-ih h3.2];congr 1;have h4:=h3.1;cases hc:wk c<;>rw[hc]at h4<;>first|exact Q9 hc|exact IP hc|cases h4
    have he:=hT.eq t i f ht hf x2 y2 x y;rw[<-jv hc,<-jv hd]at he;split at h
    .exact⟨_,_,h,he.1,fM _⟩
    .exact⟨_,_,h,he.2,fM _⟩
    .cases h
   .cases h
  .cases h
 .rename_i e l;have hp:p'= .nil:=rb;subst hp;obtain⟨_,hl⟩:=sU ra;have key: ∀(op:BinOp),l.isEmpty=false->(∃e',T.T.ty t=some (.sl e'))->lB P op t x y p .nil=a0E op p:=by
   intro op bp ⟨e',ht⟩;obtain⟨fc,hu,_⟩:=hT.un t _ ht;rcases hl with⟨rfl,_⟩|⟨_,rfl⟩
   .cases bp
   .simp only[lB,aCP,pY,hu]
  have cr:l.isEmpty=false->∃z es,p= .sl z es:=λbp=>by
   rcases hl with⟨rfl,_⟩|⟨_,h1⟩
   .cases bp
   .exact⟨_,_,h1⟩
  split at h
  .rename_i ht;obtain⟨bp,hk⟩:=fT h;simp only[Bool.not_eq_true']at bp;obtain⟨z,es,rfl⟩:=cr bp;exact⟨_,_,hk,by rw[key _ bp ⟨_,ht⟩];rfl,fM _⟩
  .rename_i ht;obtain⟨bp,hk⟩:=fT h;simp only[Bool.not_eq_true']at bp;obtain⟨z,es,rfl⟩:=cr bp;exact⟨_,_,hk,by rw[key _ bp ⟨_,ht⟩];rfl,fM _⟩
  .cases h
 .cases h
end
end Go.TV
namespace Go.TV
open Go.AI Go.PI
section
variable{P:Program}{U:iR}{T:TP U.D}{c:Cx}{W:Type}{r:W}
def aV1{op:UnOp}{a:SV U.D}{p:PV}{K:V U->Option W}(h:bJJ U op a K=some r)(ra:tN U c a p): ∃v w,K v=some r/\bDa P op p=some w/\VR U v.t v.x w:=by
 unfold bJJ at h;split at h
 .rw[of_bool ra];exact⟨_,_,h,rfl,fM _⟩
 .rename_i k n;rw[jB ra];refine⟨_,.v (.int k (k.wrap (0-n))),h,?_,gM _ _⟩;cases k<;>rfl
 .cases h
def HP: ∀{l:List Int} {s:List UInt8},Ff l=some s->jY (l.map λn=>PV.v (.int .u8 n))=some s
 |[],s,h=>by simp only[Ff,aA]at h;subst h;rfl
 |n::l,s,h=>by
  unfold Ff at h;split at h
  .rename_i s' hs;cases h;simp only[aO,jY,HP hs,aK]
  .cases h
def aGT(hT:rN P U T){sq:Bool}{s d:TypeId}{a:SV U.D}{p:PV}{K:V U->Option W}(h:aGU U sq (T.T.ty s) (T.T.ty d) a K=some r)(ra:tN U c a p):
    ∃v w,K v=some r/\VR U v.t v.x w/\(wQ P s d p=some w∨(sq=true/\wQ P s d p=none/\Be P s d p=some w)):=by
 unfold aGU at h;split at h
 .rename_i k1 j k n hs hd;rw[jB ra];have h1:P.underlying s=some (.int k1):=hT.un s _ hs;have h2:P.underlying d=some (.int j):=hT.un d _ hd;refine⟨_,.v (.int j (j.wrap n)),h,gM _ _,.inl ?_⟩;have:=a1b (k:=k) (a:=n) h1 h2;simp only[aHi,bQ,aI]at this;simp only[wQ,pY,bQ,aI,this];rfl
 .rename_i x hs hd;rw[xZ ra];have h1:P.underlying s=some .string:=hT.un s _ hs;have h2:P.underlying d=some .string:=hT.un d _ hd;refine⟨_,.str x,h,FQ _,.inl ?_⟩;simp only[wQ,pY,dG,convert,bM,bV,h1,h2,aL,bS,cX,aI];rfl
 .rename_i l hs hd;cases sq with
  |false=>cases h
  |true=>
   obtain⟨x,hx,hk⟩:=oC h;obtain⟨e,h1,he,_⟩:=hT.un s _ hs;have h2:P.underlying d=some .string:=hT.un d _ hd;have h3:P.underlying e=some (.int .u8):=hT.un e _ he;obtain⟨so,hl⟩:=sU ra;refine⟨_,.str x,hk,FQ _,.inr ⟨rfl,?_,?_⟩⟩
   .have:pY p=none:=by
     rcases hl with⟨_,rfl|rfl|rfl⟩|⟨_,rfl⟩<;>rfl
    simp only[wQ,this]
   .have gi:oW 1 p=some (l.map λn=>PV.v (.int .u8 n)):=so
    simp only[Be,h1,h2,h3,gi,HP hx,aK]
 .cases h
def aEX{w:Bool}{a b:X U}{p q:PV}{o1 o2:Bool}{K:X U->Option W}(h:aEY U w a b K=some r)(ra:qB U c a (p,o1))(rb:qB U c b (q,o2)):
    ∃x,K x=some r/\qB U c x (bif w then p else q,false):=by
 unfold aEY at h;split at h
 .rename_i t x u y ea eb;split at h
  .rename_i y' hy;have e:=oX hy;have h1:=ra.1;have h2:=rb.1;rw[ea]at h1;rw[eb,e]at h2;refine⟨_,h,?_,cB _ _⟩;cases w with
   |true=>exact h1
   |false=>exact h2
  .cases h
 .rcases Fa h with⟨rfl,hk⟩|⟨rfl,hk⟩
  .exact⟨_,hk,uG ra⟩
  .exact⟨_,hk,uG rb⟩
def aOD(hT:rN P U T){t:TypeId}{x:SV U.D}{p:PV}{K:X U->Option W}(h:a1B U (T.T.ty t) x K=some r)(ra:tN U c x p):
    ∃y w,K y=some r/\CR P t p=some w/\qB U c y (w,false):=by
 unfold a1B at h;split at h
 .rename_i e e' l ht;cases he:e.beq e' with
  |false=>rw[he]at h;cases h
  |true=>
   rw[he]at h;obtain⟨fc,hu,_⟩:=hT.un t _ ht;obtain⟨_,hl⟩:=sU ra;refine⟨_,i64 (l.length:Int),h,?_,gM _ _,cB _ _⟩;simp only[CR,hu];rcases hl with⟨rfl,rfl|rfl|rfl⟩|⟨_,rfl⟩<;>simp
 .rename_i l ht;have hu:P.underlying t=some .string:=hT.un t _ ht;rw[xZ ra];refine⟨_,i64 (l.length:Int),h,?_,gM _ _,cB _ _⟩;simp only[CR,hu]
 .rename_i e ht;have hp:p= .nil:=ra;subst hp;obtain⟨fc,hu,_⟩:=hT.un t _ ht;exact⟨_,i64 0,h,by simp only[CR,hu],gM _ _,cB _ _⟩
 .cases h
def aFr{mx:Bool}{ts:Array TypeId}{ty:TypeId}{a b:SV U.D}{p q:PV}{K:X U->Option W}(h:bIJ U mx a b K=some r)(ra:tN U c a p)(rb:tN U c b q):
    ∃y w,K y=some r/\nZ P mx ts ty [p,q]=some w/\qB U c y (w,false):=by
 unfold bIJ at h;split at h
 .rename_i x y;rw[jB ra,jB rb];refine⟨_,_,h,?_,gM _ _,cB _ _⟩;cases mx with
  |true=>
   simp only[nZ,Rh,pY,bQ,aI,dG,Builtin.max_,List.foldlM_cons,List.foldlM_nil,Builtin.max2,bM,bS,aL,cX];by_cases gb:x<y
   .simp[gb];rfl
   .simp[gb];rfl
  |false=>
   simp only[nZ,Rh,pY,bQ,aI,aJ,dG,Builtin.min_,List.foldlM_cons,List.foldlM_nil,Builtin.min2,bM,bS,aL,cX];by_cases gb:y<x
   .simp[gb];rfl
   .simp[gb];rfl
 .cases h
def oB{x:Option (SV U.D)}{y:Option PV}{i:Option Int}(h:aE6 U x=some i)(hr: ∀a,x=some a->∃b,y=some b/\tN U c a b)(hn:x=none->y=none):
    (i=none/\y=none)∨∃n k,i=some n/\y=some (.v (.int k n)):=by
 unfold aE6 at h;split at h
 .cases h;exact .inl ⟨rfl,hn rfl⟩
 .rename_i k n;cases h;obtain⟨b,h1,h2⟩:=hr _ rfl;exact .inr ⟨n,k,rfl,by rw[h1,jB h2]⟩
 .cases h
def jA{S:TS U.D}{S':PS}(F:lS U c S S')(x:Option Operand):(∀a,(x.map λx=>(jL U S x).1)=some a->∃b,x.map (dE S')=some b/\tN U c a b)/\((x.map λx=>(jL U S x).1)=none->x.map (dE S')=none):=by
 cases x with
 |none=>exact⟨λa h=>(by cases h),λ_=>rfl⟩
 |some x=>exact⟨λa h=>by cases h;exact⟨_,rfl,(dM F x).1⟩,λh=>by cases h⟩
def DE{N:Type}{l s:List N}{lo hi:Int}(h:slc l lo hi=some s):0<=lo/\lo<=hi/\hi<=(l.length:Int)/\s=(l.take hi.toNat).drop lo.toNat:=by
 unfold slc at h;cases hb:decide (0<=lo)&&decide (lo<=hi)&&decide (hi<=(l.length:Int))with
 |false=>rw[hb]at h;cases h
 |true=>
  rw[hb]at h;simp only[aI,aA]at h;simp only[aC,aD]at hb;exact⟨hb.1.1,hb.1.2,hb.2,h.symm⟩
def P3(s:List UInt8)(l h:Nat):((⟨s.toArray⟩:ByteArray).extract l h).data.toList=(s.take h).drop l:=by
 rw[ByteArray.data_extract];simp only[Array.toList_extract,List.extract_eq_take_drop];rw[List.drop_take]
def aWM(hT:rN P U T){S:TS U.D}{S':PS}(F:lS U c S S'){p:PSt}{t:TypeId}{x:SV U.D}{a:PV}{lo hi mx:Option Operand}{K:X U->Option W}(h:bJW U S (T.T.ty t) x lo hi mx K=some r)(ra:tN U c x a):
    ∃y w own,K y=some r/\lA P p t a (lo.map (dE S')) (hi.map (dE S')) (mx.map (dE S'))=some (w,own)/\qB U c y (w,own):=by
 unfold bJW at h;split at h
 .rename_i s l hh ht hl kb hm;have h1:=oB hl (jA F lo).1 (jA F lo).2;have h2:=oB kb (jA F hi).1 (jA F hi).2;have h3:=oB hm (jA F mx).1 (jA F mx).2;obtain⟨q,hq,hk⟩:=oC h;obtain⟨b1,b2,b3,rfl⟩:=DE hq;have hu:P.underlying t=some .string:=hT.un t _ ht;rw[xZ ra];rcases h3 with⟨_,h3⟩|⟨_,_,h3,_⟩
  .refine⟨_,.str ((s.take (hh.getD (s.length:Int)).toNat).drop (l.getD 0).toNat),false,hk,?_,FQ _,cB _ _⟩;have key: ∀(lv hv:Option Value),(lv=none/\l=none∨∃n k,l=some n/\lv=some (.int k n))->(hv=none/\hh=none∨∃n k,hh=some n/\hv=some (.int k n))->
          dG P (Instr.sliceAt t (.string ⟨s.toArray⟩) lv hv none)=some (.string ((⟨s.toArray⟩:ByteArray).extract (l.getD 0).toNat (hh.getD (s.length:Int)).toNat)):=by
    intro lv hv hlv hhv;have ci:(⟨s.toArray⟩:ByteArray).size=s.length:=by show s.toArray.size=_;simp
    have e:cN P (Instr.sliceBounds false s.length s.length lv hv none)=some ((l.getD 0).toNat,(hh.getD (s.length:Int)).toNat,s.length):=by
     rcases hlv with⟨rfl,rfl⟩|⟨n,k,rfl,rfl⟩<;>rcases hhv with⟨rfl,rfl⟩|⟨m,j,rfl,rfl⟩
     .simp[Instr.sliceBounds,bM,bS]
     .simp only[Option.getD_none,Option.getD_some]at b1 b2 b3;simp[Instr.sliceBounds,Instr.sliceBound,asIntOf,bM,bS,b2,b3]
     .simp only[Option.getD_none,Option.getD_some]at b1 b2 b3;simp[Instr.sliceBounds,Instr.sliceBound,asIntOf,bM,bS,b1,b2]
     .simp only[Option.getD_some]at b1 b2 b3;have b0:0<=m:=by omega
      have b4:(m.toNat:Int)=m:=by omega
      simp[Instr.sliceBounds,Instr.sliceBound,asIntOf,bM,bS,b0,b1,b2,b3,b4]
    simp only[dG,Instr.sliceAt,Instr.slice,bM,bV,hu,aL,Option.isSome_none,Bool.false_eq_true,if_false,bS,ci,e,cX,bQ,aI]
   have hv1: ∃lv,RX (lo.map (dE S'))=some lv/\(lv=none/\l=none∨∃n k,l=some n/\lv=some (.int k n)):=by
    rcases h1 with⟨rfl,e⟩|⟨n,k,rfl,e⟩
    .exact⟨none,by rw[e];rfl,.inl ⟨rfl,rfl⟩⟩
    .exact⟨some (.int k n),by rw[e];rfl,.inr ⟨n,k,rfl,rfl⟩⟩
   have hv2: ∃hv,RX (hi.map (dE S'))=some hv/\(hv=none/\hh=none∨∃n k,hh=some n/\hv=some (.int k n)):=by
    rcases h2 with⟨rfl,e⟩|⟨n,k,rfl,e⟩
    .exact⟨none,by rw[e];rfl,.inl ⟨rfl,rfl⟩⟩
    .exact⟨some (.int k n),by rw[e];rfl,.inr ⟨n,k,rfl,rfl⟩⟩
   obtain⟨lv,e1,g1⟩:=hv1;obtain⟨hv,e2,g2⟩:=hv2;simp only[lA,hu,e1,e2,h3,key lv hv g1 g2,aK,A3,P3]
  .cases h3
 .rename_i e e' s l hh ht hl kb hm;have h1:=oB hl (jA F lo).1 (jA F lo).2;have h2:=oB kb (jA F hi).1 (jA F hi).2;have h3:=oB hm (jA F mx).1 (jA F mx).2;cases he:e.beq e' with
  |false=>rw[he]at h;cases h
  |true=>
   rw[he]at h;have:=Ty.beq_eq he;subst this;obtain⟨q,hq,hk⟩:=oC h;obtain⟨b1,b2,b3,rfl⟩:=DE hq;obtain⟨fc,hu,gq,_⟩:=hT.un t _ ht;have ci:=hT.sz fc e gq;have i1:nF (lo.map (dE S'))=some l:=by rcases h1 with⟨rfl,e⟩|⟨n,k,rfl,e⟩<;>rw[e]<;>rfl
   have i2:nF (hi.map (dE S'))=some hh:=by rcases h2 with⟨rfl,e⟩|⟨n,k,rfl,e⟩<;>rw[e]<;>rfl
   have i3:nF (mx.map (dE S'))=some none:=by rcases h3 with⟨_,e⟩|⟨n,k,e,_⟩;rw[e];rfl;cases e
   obtain⟨_,rq⟩:=sU ra;refine⟨_,eD (dN U e) (((s.map (dP U e)).take (hh.getD (s.length:Int)).toNat).drop (l.getD 0).toNat),false,hk,?_,AV _ _ rfl (by rw[List.map_drop,List.map_take]),cB _ _⟩
   rcases rq with⟨rfl,h4⟩|⟨_,rfl⟩
   .have b2:l.getD 0<=hh.getD 0:=b2;have b3:hh.getD 0<=0:=b3;have c1:(decide (0<=l.getD 0)&&decide (l.getD 0<=hh.getD 0)&&decide (hh.getD 0<=0))=true:=by
     simp only[aC,aD];exact⟨⟨b1,b2⟩,b3⟩
    rcases h4 with rfl|rfl|rfl
    .simp only[lA,hu,ci,i1,i2,i3,c1,aI];simp[eD]
    .simp only[lA,hu,ci,i1,i2,i3,c1,aI];simp[eD]
    .simp only[lA,hu,ci,i1,i2,i3,Nat.beq_refl,Bool.true_and];rw[show(decide (0<=l.getD 0)&&decide (l.getD 0<=hh.getD ((([]:List PV).length:Nat):Int))&&decide (hh.getD ((([]:List PV).length:Nat):Int)<=((([]:List PV).length:Nat):Int)))=true from c1];simp[eD]
   .have c1:(Nat.beq (dN U e) (dN U e)&&decide (0<=l.getD 0)&&decide (l.getD 0<=hh.getD (s.length:Int))&&decide (hh.getD (s.length:Int)<=(s.length:Int)))=true:=by
     simp only[Nat.beq_refl,Bool.true_and,aC,aD];exact⟨⟨b1,b2⟩,b3⟩
    simp only[lA,hu,ci,i1,i2,i3,List.length_map];rw[c1];rfl
 .rename_i e e' s l hh m ht hl kb hm;have h1:=oB hl (jA F lo).1 (jA F lo).2;have h2:=oB kb (jA F hi).1 (jA F hi).2;have h3:=oB hm (jA F mx).1 (jA F mx).2;cases he:e.beq e' with
  |false=>rw[he]at h;cases h
  |true=>
   rw[he]at h;have:=Ty.beq_eq he;subst this;rw[aI]at h;obtain⟨fc,hu,gq,_⟩:=hT.un t _ ht;have ci:=hT.sz fc e gq;have i1:nF (lo.map (dE S'))=some l:=by rcases h1 with⟨rfl,e⟩|⟨n,k,rfl,e⟩<;>rw[e]<;>rfl
   have i2:nF (hi.map (dE S'))=some (some hh):=by rcases h2 with⟨e,_⟩|⟨n,k,e0,e⟩;cases e;rw[e];cases e0;rfl
   have i3:nF (mx.map (dE S'))=some (some m):=by rcases h3 with⟨e,_⟩|⟨n,k,e0,e⟩;cases e;rw[e];cases e0;rfl
   obtain⟨_,rq⟩:=sU ra;cases hk0:bFy mx with
   |true=>
    rw[hk0,aI]at h;have hc:=(fT h).1
    replace h:=(fT h).2
    simp only[aC,aD,List.isEmpty_iff]at hc;obtain⟨⟨⟨rfl,hl0⟩,rfl⟩,rfl⟩:=hc;refine⟨_,.emp,true,h,?_,AV (U:=U) e [] (es:=[]) rfl rfl,?_⟩
    .rcases rq with⟨_,h4⟩|⟨h4,_⟩
     .rcases h4 with rfl|rfl|rfl
      all_goals simp[lA,hu,ci,i1,i2,i3,hl0]
     .exact absurd rfl h4
    .intro o s' qk;simp only[List.mem_singleton,aB]at qk;exact .inr ⟨qk.1,rfl,rfl,λ_=>rfl⟩
   |false=>
   rw[hk0,aJ]at h;obtain⟨hc,h⟩:=fT h;simp only[aC,aD]at hc;obtain⟨q,hq,hk⟩:=oC h;obtain⟨b1,b2,b3,rfl⟩:=DE hq;rcases rq with⟨rfl,_⟩|⟨_,rfl⟩
   .simp only[aX]at b3;omega
   .refine⟨_,eD (dN U e) (((s.map (dP U e)).take hh.toNat).drop (l.getD 0).toNat),true,hk,?_,AV _ _ rfl (by rw[List.map_drop,List.map_take]),?_⟩
    .have c1:(Nat.beq (dN U e) (dN U e)&&decide (0<=l.getD 0)&&decide (l.getD 0<(some hh).getD (s.length:Int))&&decide ((some hh).getD (s.length:Int)<=(s.length:Int))&&(some hh).isSome&&decide ((some hh).getD (s.length:Int)=m))=true:=by
      simp only[Nat.beq_refl,Bool.true_and,aC,aD,Option.getD_some,Option.isSome_some,and_true];exact⟨⟨⟨b1,hc.2⟩,b3⟩,hc.1⟩
     simp only[lA,hu,ci,i1,i2,i3,List.length_map];rw[c1];rfl
    .intro o s' qk;simp only[List.mem_singleton,aB]at qk;refine .inr ⟨qk.1,?_,rfl,λ_=>?_⟩
     .have:=eZ (dN U e) (((s.map (dP U e)).take hh.toNat).drop (l.getD 0).toNat);cases hc:eD (dN U e) (((s.map (dP U e)).take hh.toNat).drop (l.getD 0).toNat)<;>first|rfl|(rw[hc]at this;cases this)
     .exact Bp (eZ _ _)
 .cases h
end
end Go.TV
namespace Go.TV
open Go.AI Go.PI
section
variable{P:Program}{U:iR}{T:TP U.D}{c:Cx}{W:Type}{r:W}(hU:iM U)(hT:rN P U T)
def Ko{o n:Nat}: ∀{rs:jF} {x:Nat×Bool},x∈P6 o n rs->(x.1+o,x.2)∈rs/\x.1<n
 |[],x,h=>by cases h
 |y::rs,x,h=>by
  unfold P6 at h;cases hb:Nat.ble o y.1&&Nat.blt y.1 (o+n)with
  |false=>
   rw[hb]at h;obtain⟨h1,h2⟩:=Ko h;exact⟨aG _ h1,h2⟩
  |true=>
   rw[hb]at h;simp only[aC,Nat.ble_eq,iF,aD]at hb;rcases List.mem_cons.1 h with rfl|h
   .refine⟨?_,by simp only;omega⟩
    have:y.1-o+o=y.1:=by omega
    simp only[this];exact aH ..
   .obtain⟨h1,h2⟩:=Ko h;exact⟨aG _ h1,h2⟩
def DB{id:TypeId}{n f:Nat}{w:Ty}(hT:rN P U T)(ht:NZ T.T id=some (.rc n))(hw:(U.fs n)[f]?=some w):
    ∃fs fd,P.underlying id=some (.struct fs)/\fs[f]?=some fd/\T.T.ty fd.type=some w/\fd.offset=kF U n f:=by
 obtain⟨ht,ha⟩:=aBD ht;obtain⟨fs,hu,ci,hf⟩:=hT.un id _ ht ha;have bi:f<(U.fs n).length:=by
  rcases Nat.lt_or_ge f (U.fs n).length with h|h
  .exact h
  .rw[List.getElem?_eq_none h]at hw;cases hw
 have gh:f<fs.size:=by rw[ci];exact bi
 have si:fs[f]?=some fs[f]:=Array.getElem?_eq_getElem gh;obtain⟨h1,h2⟩:=hf f _ si;exact⟨fs,fs[f],hu,si,by rw[h1,hw],h2⟩
def aDw{rs:jF}{cs:List PV}{o n:Nat}{ow:Bool}{q:PV}(h:aCQ rs (.agg cs) ow)(hq:q.cells=(cs.drop o).take n):aCQ (P6 o n rs) q false:=λi s hi=>by
 obtain⟨h1,h2⟩:=Ko hi;rcases h _ _ h1 with⟨_,h3⟩|⟨_,h3,_⟩
 .have h4:q.cells[i]?=some .nil:=by
   rw[hq,List.getElem?_take,bI h2,List.getElem?_drop,Nat.add_comm];exact h3
  cases jb:isAgg q with
  |true=>exact .inl ⟨rfl,h4⟩
  |false=>
   have:q.cells=[q]:=oZ λds e=>by rw[e]at jb;cases jb
   rw[this]at h4;cases i with
   |zero=>
    simp only[aU,aA]at h4;subst h4;exact .inr ⟨rfl,rfl,rfl,λ_=>rfl⟩
   |succ i=>simp at h4
 .cases h3
include hU hT
def aGj{t:TypeId}{n f:Nat}{v w:V U}{rs:jF}{p:PV}{ow:Bool}(ht:NZ T.T t=some (.rc n))(hv:v.t.beq (.rc n)=true)(hw:KQ U v f=some w)(ra:qB U c (.val v,rs) (p,ow)):
    ∃q,DW P t p f=some q/\qB U c (.val w,P6 (kF U n f) (dN U w.t) rs) (q,false):=by
 obtain⟨t',x⟩:=v;have:=Ty.beq_eq hv;subst this;obtain⟨cs,rfl,hcs⟩:=Pp ra.1;have hsr:SR (U:=U) (.rc n) x cs:=(VR.sr ra.1);have qb:(U.un n x)[f]?=some w:=hw;obtain⟨fs,fd,hu,si,fh,jq⟩:=DB hT ht (EB hU qb);obtain⟨q,h1,h2,h3,h4⟩:=zQ hU hT fh (hsr.fld hU qb);refine⟨q,?_,h2,aDw ra.2 h3⟩;simp only[DW,hu,si,jq];exact h1
def qJ{t:TypeId}{n f:Nat}(ht:NZ T.T t=some (.rc n))(hf:f<(U.fs n).length):
    (∀id off,iN P t (.ptr id off) f=some (.ptr id (off+kF U n f)))/\(∀es i off,iN P t (.pin es i off) f=some (.pin es i (off+kF U n f))):=by
 obtain⟨w,hw⟩: ∃w,(U.fs n)[f]?=some w:=⟨_,aV hf⟩;obtain⟨fs,fd,hu,si,fh,jq⟩:=DB hT ht hw;have hz:Nat.beq (dN U w) 0=false:=by
  rw[dJ,bC];have:=pZ hU w;omega
 constructor
 .intro id off;simp only[iN,hu,si,hT.sz _ _ fh,hz,aJ,jq]
 .intro es i off;simp only[iN,hu,si,hT.sz _ _ fh,hz,aJ,jq]
def KU{t:TypeId}{n f:Nat}{v w:V U}{p:PV}(ht:NZ T.T t=some (.rc n))(hv:v.t.beq (.rc n)=true)(hw:KQ U v f=some w)(ra:tN U c (.ep v) p):
    ∃q,iN P t p f=some q/\tN U c (.ep w) q:=by
 obtain⟨es,i,off,e,rfl,he,hcs⟩:=ra;obtain⟨t',x⟩:=v;have:=Ty.beq_eq hv;subst this;have qb:(U.un n x)[f]?=some w:=hw;have bi:f<(U.fs n).length:=by
  have:=EB hU qb;rcases Nat.lt_or_ge f (U.fs n).length with h|h
  .exact h
  .rw[List.getElem?_eq_none h]at this;cases this
 refine⟨_,(qJ hU hT ht bi).2 _ _ _,_,_,_,_,rfl,he,?_⟩;have hfc:=Br hU qb;have ta:(e.cells.drop off).take (U.sz n)=U.en n x:=hcs;rw[<-hfc,<-ta];have hle:kF U n f+dN U w.t<=U.sz n:=by
  have h1:((U.en n x).drop (kF U n f)).take (dN U w.t)=(dP U w.t w.x).cells:=hfc;have h2:=congrArg List.length h1;rw[List.length_take,List.length_drop,hU.len,jC hU]at h2;have:=pZ hU w.t;omega
 rw[List.drop_take,List.drop_drop,List.take_take,Nat.min_eq_left (by omega)]
omit hU hT in
def xP(te:Ty): ∀j:Nat,eX U (List.replicate j te)=j*dN U te
 |0=>by simp[eX]
 |j+1=>by
  rw[List.replicate_succ,Nat.succ_mul];simp only[eX];rw[xP te j];omega
def Kz{t:TypeId}{n j:Nat}{v w:V U}{p:PV}{k:IntKind}(ht:T.T.ty t=some (.rc n))(ha:T.T.arr t=true)(hv:v.t.beq (.rc n)=true)(hw:KQ U v j=some w)(ra:tN U c (.ep v) p):
    ∃q,gF P t p (.v (.int k (j:Int)))=some q/\tN U c (.ep w) q:=by
 obtain⟨es,i,off,e,rfl,he,hcs⟩:=ra;obtain⟨t',x⟩:=v;have:=Ty.beq_eq hv;subst this;have qb:(U.un n x)[j]?=some w:=hw;have bi:j<(U.fs n).length:=by
  have:=EB hU qb;rcases Nat.lt_or_ge j (U.fs n).length with h|h
  .exact h
  .rw[List.getElem?_eq_none h]at this;cases this
 obtain⟨len,el,te,hu,hz,hf⟩:=hT.arr t n ht ha;have hj:j<len:=by rw[hf,List.length_replicate]at bi;exact bi
 have hin:dO (j:Int) len=true:=by simp only[dO,aC,aD];omega
 have ho:kF U n j=j*dN U te:=by rw[kF,hf,List.take_replicate,Nat.min_eq_left (by omega)];exact xP _ _
 refine⟨.pin es i (off+Int.toNat (j:Int)*dN U te),by simp only[gF,hu,hz,hin,aI],_,_,_,_,rfl,he,?_⟩
 have hfc:=Br hU qb;have ta:(e.cells.drop off).take (U.sz n)=U.en n x:=hcs;rw[<-hfc,<-ta];have hle:kF U n j+dN U w.t<=U.sz n:=by
  have h1:((U.en n x).drop (kF U n j)).take (dN U w.t)=(dP U w.t w.x).cells:=hfc;have h2:=congrArg List.length h1;rw[List.length_take,List.length_drop,hU.len,jC hU]at h2;have:=pZ hU w.t;omega
 rw[List.drop_take,List.drop_drop,List.take_take,Nat.min_eq_left (by omega),Int.toNat_natCast,ho]
omit hU hT in
def Ai{N:Type}{l:List N}{n:Int}{y:N}(h:cI l n=some y):0<=n/\l[n.toNat]?=some y/\n.toNat<l.length:=by
 unfold cI at h;cases hb:decide (0<=n)with
 |false=>rw[hb]at h;cases h
 |true=>
  rw[hb]at h;refine⟨of_decide_eq_true hb,h,?_⟩;rcases Nat.lt_or_ge n.toNat l.length with h1|h1
  .exact h1
  .rw[aI,List.getElem?_eq_none h1]at h;cases h
def Ky{t:TypeId}{e e':Ty}{l:List (Den U.D e')}{y:Den U.D e'}{k:IntKind}{n:Int}{p:PV}(ht:T.T.ty t=some (.sl e))(he:e.beq e'=true)(hy:cI l n=some y)(ra:tN U c (.val ⟨.sl e',l⟩) p):
    ∃q,gF P t p (.v (.int k n))=some q/\tN U c (.ep ⟨e',y⟩) q:=by
 have:=Ty.beq_eq he;subst this;obtain⟨h0,h1,h2⟩:=Ai hy;obtain⟨fc,hu,gq,_⟩:=hT.un t _ ht;obtain⟨_,hl⟩:=sU ra;rcases hl with⟨hl,_⟩|⟨_,rfl⟩
 .have hl:l=[]:=hl;subst hl;simp at h2
 .refine⟨.pin (l.map (dP U e)) n.toNat 0,?_,_,_,_,_,rfl,by rw[List.getElem?_map,h1];rfl,?_⟩
  .have c1:(Nat.beq (dN U e) (dN U e)&&dO n (l.map (dP U e)).length)=true:=by
    simp only[Nat.beq_refl,Bool.true_and,dO,List.length_map,aC,aD];exact⟨h0,by omega⟩
   simp only[gF,hu,hT.sz _ _ gq,c1,aI]
  .rw[List.drop_zero,List.take_of_length_le (by rw[jC hU];exact aS _)]
omit hU in
def aFQ{t:TypeId}{s:List UInt8}{b:UInt8}{k:IntKind}{n:Int}{p:PV}(ht:T.T.ty t=some .str)(hy:cI s n=some b)(ra:tN U c (.val ⟨.str,s⟩) p):
    Bd P t p (.v (.int k n))=some (.v (.int .u8 (b.toNat:Int))):=by
 obtain⟨h0,h1,h2⟩:=Ai hy;have hu:P.underlying t=some .string:=hT.un t _ ht;rw[xZ ra];have ci:(⟨s.toArray⟩:ByteArray)[n.toNat]?=some b:=by
  have h3:s[n.toNat]'h2=b:=by rw[aV h2]at h1;exact Option.some.inj h1
  show(if h:n.toNat<(⟨s.toArray⟩:ByteArray).size then some _ else none)=_
  rw[dif_pos (show n.toNat<(⟨s.toArray⟩:ByteArray).size by show n.toNat<s.toArray.size;simpa using h2)]
  congr 1
 simp only[Bd,hu,pY,bQ,aI,dG,Instr.index,asIntOf,bM,bS,aL,bV,h0,if_true,ci,cX];rfl
end
end Go.TV
namespace Go.TV
open Go.AI Go.PI
section
variable{P:Program}{U:iR}{T:TP U.D}{c:Cx}{W:Type}{r:W}
def OS: ∀(x a b e:List PV),b.length=x.length->Ba (a++b++e) a.length x=a++x++e
 |[],a,b,e,h=>by
  have:b=[]:=List.length_eq_zero_iff.1 h;subst this;simp[Ba]
 |y::x,a,b,e,h=>by
  cases b with
  |nil=>simp at h
  |cons z b=>
   have h1:(a++(z::b)++e).set a.length y=(a++ [y])++b++e:=by
    rw[aQ,List.set_append_right _ _ (aS _)];simp
   have h2:=OS x (a++ [y]) b e (by simpa using h)
   rw[Ba,h1];simp only[aZ,aM,aX]at h2;rw[h2];simp
def aBQ: ∀(ss:List (List PV)) (i:Nat) (s x:List PV),ss[i]?=some s->s.length=x.length->Ba ss.flatten (ss.take i).flatten.length x=(ss.set i x).flatten:=by
 intro ss i s x h hl;have h1:i<ss.length:=by
  rcases Nat.lt_or_ge i ss.length with h1|h1
  .exact h1
  .rw[List.getElem?_eq_none h1]at h;cases h
 have hs:ss[i]=s:=by rw[aV h1]at h;exact Option.some.inj h
 have e1:ss.flatten=(ss.take i).flatten++s++(ss.drop (i+1)).flatten:=by
  have h3:ss=ss.take i++(ss[i]::ss.drop (i+1)):=by rw[<-List.drop_eq_getElem_cons h1,List.take_append_drop]
  conv=>lhs;rw[h3]
  rw[List.flatten_append,List.flatten_cons,hs,aQ]
 have e2:(ss.set i x).flatten=(ss.take i).flatten++x++(ss.drop (i+1)).flatten:=by
  rw[List.set_eq_take_append_cons_drop,bI h1,List.flatten_append,List.flatten_cons,aQ]
 rw[e1,e2];exact OS x _ s _ hl
def CP(U:iR):List (V U×Bool)->List (List PV)->Prop
 |[],[]=>True
 |y::l,s::ss=>(SR y.1.t y.1.x s/\(y.2=true->∀o b,(o,b)∈zV U y.1.t->s[o]?=some .nil))/\CP U l ss
 |_,_=>False
def OG: ∀{l:List (V U×Bool)} {ss:List (List PV)} {i:Nat} {y:V U×Bool},CP U l ss->l[i]?=some y->∃s,ss[i]?=some s/\SR y.1.t y.1.x s
 |[],[],i,y,_,h=>by simp at h
 |z::l,s::ss,0,y,h,e=>by simp only[aU,aA]at e;subst e;exact⟨s,rfl,h.1.1⟩
 |z::l,s::ss,i+1,y,h,e=>by rw[aT]at e;obtain⟨s',h1,h2⟩:=OG h.2 e;exact⟨s',by rw[aT];exact h1,h2⟩
 |[],_::_,_,_,h,_=>h.elim
 |_::_,[],_,_,h,_=>h.elim
def OF: ∀{l:List (V U×Bool)} {ss:List (List PV)} {i:Nat} {y:V U×Bool} {s:List PV},CP U l ss->(SR y.1.t y.1.x s/\(y.2=true->∀o b,(o,b)∈zV U y.1.t->s[o]?=some .nil))->CP U (setF U l i y) (ss.set i s)
 |[],[],i,y,s,h,_=>by simp[setF,CP]
 |z::l,s'::ss,0,y,s,h,e=>⟨e,h.2⟩
 |z::l,s'::ss,i+1,y,s,h,e=>⟨h.1,OF h.2 e⟩
 |[],_::_,_,_,_,h,_=>h.elim
 |_::_,[],_,_,_,h,_=>h.elim
def DG: ∀{l:List (V U×Bool)} {i:Nat} {y z:V U×Bool},l[i]?=some z->y.1.t=z.1.t->(setF U l i y).map (λx=>x.1.t)=l.map λx=>x.1.t
 |[],i,y,z,h,_=>by simp at h
 |w::l,0,y,z,h,e=>by simp only[aU,aA]at h;subst h;simp[setF,e]
 |w::l,i+1,y,z,h,e=>by rw[aT]at h;simp only[setF,aO,DG h e]
def Xl: ∀(ts:List Ty) (i o:Nat) (t:Ty),ts[i]?=some t->(aBV U ts o)[i]?=some (o+eX U (ts.take i),dN U t)
 |[],i,o,t,h=>by simp at h
 |u::ts,0,o,t,h=>by simp only[aU,aA]at h;subst h;simp[aBV,eX]
 |u::ts,i+1,o,t,h=>by
  rw[aT]at h;rw[aBV,aT,Xl ts i _ t h,List.take_succ_cons,eX,Nat.add_assoc]
variable(hU:iM U)(hT:rN P U T)
include hU
def Q5(t:Ty):wks (NO U t)=(dP U t (pM U t)).cells:=by
 cases t with
 |rc n=>exact hU.zc n
 |int k=>rfl
 |bool=>rfl
 |str=>rfl
 |sl t=>rfl
omit hU in
def aNb(ts:List Ty): ∀c∈ts.flatMap aM1,∀z es,c≠ .sl z es:=by
 intro c hc z es e;rw[List.mem_flatMap]at hc;obtain⟨t,_,h⟩:=hc;cases t<;>simp[aM1,e]at h
def Q6(t:Ty):SR t (pM U t) (NO U t):=⟨Q5 hU t,λj z hj=>(aNb _ _ (List.mem_of_getElem? hj) z [] rfl).elim⟩
def NN(t:Ty): ∀o b,(o,b)∈zV U t->(NO U t)[o]?=some .nil:=by
 intro o b h;cases t with
 |rc n=>
  have h1:=bJ.1 (hU.nz n) _ h;unfold aR0 at h1;split at h1
  .rename_i e;exact e
  .cases h1
 |sl t=>
  simp only[zV,List.mem_singleton,aB]at h;rw[h.1];rfl
 |_=>cases h
def NM: ∀(ts:List Ty),CP U (A4 U ts) (ts.map (NO U))
 |[]=>trivial
 |t::ts=>⟨⟨Q6 hU t,λ_=>NN hU t⟩,NM ts⟩
omit hU in
def NK: ∀(ts:List Ty),(A4 U ts).map (λx=>x.1.t)=ts
 |[]=>rfl
 |t::ts=>by rw[A4,aO,NK ts]
def aBo(n:Nat):((U.fs n).map (NO U)).flatten=NO U (.rc n):=by
 show _=(U.lt n).flatMap aM1;rw[hU.lt n];induction U.fs n with
 |nil=>rfl
 |cons t ts ih=>rw[aO,List.flatten_cons,ih,aN,List.flatMap_append];rfl
def xR: ∀{l:List (V U×Bool)} {ss:List (List PV)},CP U l ss->∀i,((ss.take i).flatten).length=eX U ((l.map λx=>x.1.t).take i)
 |[],[],_,i=>by simp[eX]
 |y::l,s::ss,h,0=>by simp[eX]
 |y::l,s::ss,h,i+1=>by
  rw[List.take_succ_cons,List.flatten_cons,aZ,xR h.2 i,h.1.1.len hU,aO,List.take_succ_cons];rfl
 |[],_::_,h,_=>h.elim
 |_::_,[],h,_=>h.elim
def Qm{S:TS U.D}{S':PS}(F:lS U c S S'){ts:List Ty}{place:Nat->Option (Nat×Nat)}(hp: ∀i t,ts[i]?=some t->place i=some (eX U (ts.take i),dN U t)):
    ∀(parts:List (Nat×Operand)) (l l':List (V U×Bool)) (ss:List (List PV)),CP U l ss->l.map (λx=>x.1.t)=ts->aCn U S l parts=some l'->
      ∃ss',zO place ss.flatten (parts.map λ(i,x)=>(i,dE S' x))=some ss'.flatten/\CP U l' ss'/\l'.map (λx=>x.1.t)=ts
 |[],l,l',ss,hs,ht,h=>by
  simp only[aCn,aA]at h;subst h;exact⟨ss,rfl,hs,ht⟩
 |(i,x)::rest,l,l',ss,hs,ht,h=>by
  unfold aCn at h;split at h
  .rename_i y hy;split at h
   .rename_i v hv;obtain⟨gp,ku⟩:=lI hU hv (dM F x).1;obtain⟨s,hsi,hsr⟩:=OG hs hy;have hsr':=VR.sr ku;have hlen:s.length=(dE S' x).cells.length:=by rw[hsr.len hU,hsr'.len hU,gp]
    have hti:ts[i]?=some y.1.t:=by rw[<-ht,List.getElem?_map,hy];rfl
    have jq:(ss.take i).flatten.length=eX U (ts.take i):=by rw[xR hU hs,ht]
    have jj:CP U (setF U l i (v,match(jL U S x).1 with| .nl=>true|_=>false)) (ss.set i (dE S' x).cells):=by
     refine OF hs ⟨hsr',λhn o b ho=>?_⟩
     split at hn
     .rename_i e;have h1:=(dM F x).1;rw[e]at h1 hv;have hp:dE S' x= .nil:=h1;simp only[HR]at hv;split at hv
      .cases hv;simp only[zV,List.mem_singleton,aB]at ho;rw[hp,ho.1];rfl
      .cases hv
     .cases hn
    obtain⟨ss',g1,g2,g3⟩:=Qm F hp rest _ l' _ jj (by rw[DG hy gp];exact ht) h
    refine⟨ss',?_,g2,g3⟩;rw[aO];simp only[zO,hp i _ hti];have hle:eX U (ts.take i)+dN U y.1.t<=ss.flatten.length:=by
     have h1:=xR hU hs (i+1);have h2:(ss.take (i+1)).flatten.length<=ss.flatten.length:=by
      conv=>rhs;rw[<-List.take_append_drop (i+1) ss]
      rw[List.flatten_append,aZ];omega
     have h3:eX U (ts.take (i+1))=eX U (ts.take i)+dN U y.1.t:=by
      have bi:i<ts.length:=by
       rcases Nat.lt_or_ge i ts.length with h|h
       .exact h
       .rw[List.getElem?_eq_none h]at hti;cases hti
      rw[List.take_succ_eq_append_getElem bi,IX];have:ts[i]=y.1.t:=by rw[aV bi]at hti;exact Option.some.inj hti
      rw[this];simp[eX]
     rw[ht]at h1;omega
    have c1:(Nat.beq (dE S' x).cells.length (dN U y.1.t)&&Nat.ble (eX U (ts.take i)+dN U y.1.t) ss.flatten.length&&(dE S' x).cells.all PV.one)=true:=by
     rw[hsr'.one hU,<-hlen,hsr.len hU,Nat.beq_refl,Bool.true_and,bE,Nat.ble_eq];exact hle
    rw[c1,aI,<-jq,aBQ ss i s _ hsi hlen];exact g1
   .cases h
  .cases h
def aDp: ∀{l:List (V U×Bool)} {ss:List (List PV)},CP U l ss->wks ss.flatten=uN (aGa l)/\NP U ((l.map λx=>x.1.t).flatMap (jK U)) ss.flatten
 |[],[],_=>⟨rfl,aNc _⟩
 |y::l,s::ss,h=>by
  obtain⟨h1,h2⟩:=aDp h.2;refine⟨?_,?_⟩
  .rw[List.flatten_cons,rQ,h1,h.1.1.wk,aGa,jM]
  .rw[List.flatten_cons,aO,aN];exact Q8 (by rw[yC hU,h.1.1.len hU]) h.1.1.z h2
 |[],_::_,h=>h.elim
 |_::_,[],h=>h.elim
omit hU in
def aFv{o:Nat}: ∀{rs:jF} {x:Nat×Bool},x∈a8A o rs->∃j,x.1=j+o/\(j,x.2)∈rs
 |[],x,h=>by cases h
 |y::rs,x,h=>by
  unfold a8A at h;rcases List.mem_cons.1 h with rfl|h
  .exact⟨y.1,rfl,aH ..⟩
  .obtain⟨j,h1,h2⟩:=aFv h;exact⟨j,h1,aG _ h2⟩
def WE: ∀{l:List (V U×Bool)} {ss:List (List PV)} {o:Nat},CP U l ss->∀i b,(i,b)∈aFo U l o->∃j,i=j+o/\ss.flatten[j]?=some .nil
 |[],[],o,_,i,b,h=>by cases h
 |y::l,s::ss,o,hs,i,b,h=>by
  unfold aFo at h;rcases List.mem_append.1 h with h1|h1
  .split at h1
   .rename_i hy;obtain⟨j,e1,e2⟩:=aFv h1;have:=hs.1.2 hy j b e2;have bi:j<s.length:=by
     rcases Nat.lt_or_ge j s.length with h2|h2
     .exact h2
     .rw[List.getElem?_eq_none h2]at this;cases this
    exact⟨j,e1,by rw[List.flatten_cons,List.getElem?_append_left bi];exact this⟩
   .cases h1
  .obtain⟨j,e1,e2⟩:=WE hs.2 i b h1;refine⟨s.length+j,by rw[hs.1.1.len hU];omega,?_⟩
   rw[List.flatten_cons,List.getElem?_append_right (by omega),Nat.add_sub_cancel_left];exact e2
 |[],_::_,_,h,_,_,_=>h.elim
 |_::_,[],_,h,_,_,_=>h.elim
include hT
def aG4{S:TS U.D}{S':PS}(F:lS U c S S'){t:TypeId}{n:Nat}{parts:List (Nat×Operand)}{l:List (V U×Bool)}{x:U.D n}(ht:T.T.ty t=some (.rc n))(hl:aCn U S (A4 U (U.fs n)) parts=some l)(hx:U.of n (aGa l)=some x):
    ∃w,xV P t (parts.map λ(i,x)=>(i,dE S' x))=some w/\qB U c (.val ⟨.rc n,x⟩,aFo U l 0) (w,false):=by
 obtain⟨place,qy,hpb⟩: ∃place:Nat->Option (Nat×Nat),(∀i t',(U.fs n)[i]?=some t'->place i=some (eX U ((U.fs n).take i),dN U t'))/\∀ps,xV P t ps=(zO place (NO U (.rc n)) ps).map .agg:=by
  cases tg:T.T.arr t with
  |false=>
   obtain⟨fs,pl,hu,de,hpp⟩:=hT.bd t n ht tg;refine⟨λi=>pl[i]?,λi t' hi=>?_,λps=>by simp only[xV,hT.zc t _ ht,hu,de]⟩
   have:=Xl (U:=U) (U.fs n) i 0 t' hi;rw[<-hpp,Array.getElem?_toList,Nat.zero_add]at this;exact this
  |true=>
   obtain⟨len,e,te,hu,hz,hf⟩:=hT.arr t n ht tg;refine⟨λi=>some (i*dN U te,dN U te),λi t' hi=>?_,λps=>by simp only[xV,hT.zc t _ ht,hu,hz]⟩
   rw[hf,List.getElem?_replicate]at hi;split at hi
   .rename_i hi2;obtain rfl:=Option.some.inj hi;rw[hf,List.take_replicate,Nat.min_eq_left (by omega),xP]
   .cases hi
 obtain⟨ss',g1,g2,g3⟩:=Qm hU F qy parts _ _ _ (NM hU (U.fs n)) (NK _) hl;rw[aBo hU n]at g1;obtain⟨g4,g5⟩:=aDp hU g2;have qd:=hU.un_of n _ x hx;refine⟨.agg ss'.flatten,?_,⟨?_,?_⟩,?_⟩
 .rw[hpb,g1,aK]
 .show PV.agg (wks ss'.flatten)= .agg (U.en n x);rw[g4,hU.en n x,qd];rfl
 .show NP U (U.lt n) ss'.flatten;rw[hU.lt n,<-g3];exact g5
 .intro i b hi;obtain⟨j,e1,e2⟩:=WE hU g2 i b hi;exact .inl ⟨rfl,by rw[e1];exact e2⟩
omit hT hU in
def Ra{c:PV}(h:gd (wk c)=true):c.pur=true:=by
 cases c with
 |agg cs=>simp[wk,gd]at h
 |tup cs=>simp[wk,gd]at h
 |und=>simp[wk,gd]at h
 |_=>first|rfl|simp[wk,gd]at h
omit hT in
def tO{t:Ty}{x:Den U.D t}{p:PV}(h:VR U t x p):PI.shape (lO t) (dN U t) p=true:=by
 have hs:=VR.sr h;have hp: ∀c∈p.cells,c.pur=true:=λc hc=>Ra (hs.gd hU hc)
 cases hr:lO t with
 |true=>
  cases t with
  |rc n=>
   obtain⟨cs,rfl,_⟩:=Pp h;simp only[PI.shape,Bool.true_and,aC,dJ,aD,bJ];exact⟨hs.len hU,hp⟩
  |_=>cases hr
 |false=>
  have ha:isAgg p=false:=oH (v:=⟨t,x⟩) h hr;have hc:p.cells=[p]:=oZ λds e=>by rw[e]at ha;cases ha
  have hz:dN U t=1:=by cases t<;>first|rfl|cases hr
  have:=hp p (by rw[hc];exact List.mem_singleton.2 rfl)
  rw[hz];cases p<;>first|(cases ha;done)|simpa [PI.shape]using this
omit hU hT in
def OE{N:Type}: ∀(l:List N) (i:Nat) (x:N),aNH l i x=l.set i x
 |[],_,_=>by cases ‹Nat› <;>rfl
 |y::l,0,x=>rfl
 |y::l,i+1,x=>by rw[aNH,OE l i x];rfl
omit hT in
def aG5{S:TS U.D}{S':PS}(F:lS U c S S'){e:Ty}: ∀(parts:List (Nat×Operand)) (l l':List (Den U.D e)),aCm U S e l parts=some l'->
    oL (lO e) (dN U e) (l.map (dP U e)) (parts.map λ(i,x)=>(i,dE S' x))=some (l'.map (dP U e))
 |[],l,l',h=>by simp only[aCm,aA]at h;subst h;rfl
 |(i,x)::rest,l,l',h=>by
  unfold aCm at h;split at h
  .rename_i v hv;split at h
   .rename_i w hw;cases hb:Nat.blt i l.length with
    |false=>rw[hb]at h;cases h
    |true=>
     rw[hb]at h;obtain⟨gp,ku⟩:=lI hU hv (dM F x).1;have e1:=oX hw;have hvr':VR U e w (dE S' x):=by
      have:VR U (⟨v.t,v.x⟩:TV U.D).t (⟨v.t,v.x⟩:TV U.D).x (dE S' x):=ku;rw[e1]at this;exact this
     have g:=aG5 F rest _ _ h;rw[aO];simp only[oL,List.length_map,hb,tO hU hvr',Bool.and_self,aI];rw[hvr'.wk,<-List.map_set,<-OE];exact g
   .cases h
  .cases h
omit hU hT in
def OO{N:Type}(f:N->PV)(x:N)(y:PV)(h:y=f x): ∀n,nE y n=(wH x n).map f
 |0=>rfl
 |n+1=>by rw[nE,wH,aO,OO f x y h n,h]
def Gz{S:TS U.D}{S':PS}(F:lS U c S S'){p:PSt}{o:Oper}{t:TypeId}{e:Ty}{len:Nat}{parts:Array (Nat×Operand)}{l:List (Den U.D e)}(ho:o.op= .buildSlice t len parts)(ht:T.T.ty t=some (.sl e))(hb:Nat.ble (len*dN U e) 1000000=true)(hl:aCm U S e (wH (pM U e) len) parts.toList=some l):
    ∃w,fH P p S' o=some (w,true,p)/\qB U c (.val ⟨.sl e,l⟩,[(0,true)]) (w,true):=by
 obtain⟨fc,hu,gq,_⟩:=hT.un t _ ht;refine⟨eD (dN U e) (l.map (dP U e)),?_,AV _ _ rfl rfl,?_⟩
 .have ni:(NO U e).length=dN U e:=(Q6 hU e).len hU;have c1:(Nat.ble (len*dN U e) 1000000&&Nat.beq (NO U e).length (dN U e)&&Nat.ble 1 (dN U e)&&(lO e||Nat.beq (dN U e) 1))=true:=by
   rw[hb,ni,Nat.beq_refl];have h1:Nat.ble 1 (dN U e)=true:=by rw[Nat.ble_eq];exact pZ hU e
   rw[h1];cases e<;>rfl
  have hz:wk (bif lO e then .agg (NO U e)else(NO U e).headD .und)=dP U e (pM U e):=by
   have:=Q5 hU e;cases e with
   |rc n=>simp only[lO,aI,wk,this];rfl
   |_=>rfl
  have hg:=aG5 hU F parts.toList _ _ hl;rw[<-OO (dP U e) (pM U e) _ hz]at hg;simp only[fH,ho,hu,hT.sz _ _ gq,hT.ag _ _ gq,hT.zc _ _ gq,c1,aI,hg]
 .intro i s hi;simp only[List.mem_singleton,aB]at hi;refine .inr ⟨hi.1,?_,rfl,λ_=>Bp (eZ _ _)⟩
  have:=eZ (dN U e) (l.map (dP U e));cases hc:eD (dN U e) (l.map (dP U e))<;>first|rfl|(rw[hc]at this;cases this)
end
end Go.TV
namespace Go.TV
open Go.AI Go.PI
section
variable{P:Program}{U:iR}{T:TP U.D}{c c0:Cx}{W:Type}{r:W}{q p:PSt}{M:TM U.D}
def aCp{k t:Nat}(h:k≠t):Nat.beq k t=false:=by rw[dJ];exact bG h
def kJ(m:List (Nat×BC U.D))(k j:Nat)(y:BC U.D):dQ (qT m k y) j=if j=k then(dQ m k).map λ_=>y else dQ m j:=by
 induction m with
 |nil=>simp[dQ,qT]
 |cons x m ih=>
  obtain⟨a,b⟩:=x;unfold qT;by_cases h:a=k
  .subst h;simp only[Nat.beq_refl,aI];by_cases hj:j=a
   .subst hj;simp[dQ]
   .have hja:Nat.beq a j=false:=aCp λe=>hj e.symm
    simp only[dQ,hja,aJ,bH hj]
  .simp only[aCp h,aJ];by_cases hj:j=k
   .subst hj;have:=ih;rw[bI rfl]at this;simp only[dQ,aCp h,aJ,if_true];exact this
   .rw[bH hj]at ih⊢;simp only[dQ];cases Nat.beq a j with
    |true=>rfl
    |false=>exact ih
def gY(m:List (Nat×BC U.D))(k j:Nat)(y:BC U.D):dQ ((k,y)::m) j=if j=k then some y else dQ m j:=by
 by_cases h:j=k
 .subst h;simp[dQ]
 .have:Nat.beq k j=false:=aCp λe=>h e.symm
  simp only[dQ,this,aJ,bH h]
def wB{p p':PSt}{e:Ce}{b:BC U.D}(h:CX U c p e b)(hg: ∀id,e.id=some id->p'.get id=p.get id):CX U c p' e b:=by
 cases b with
 |bx s r=>obtain⟨id,cs,h1,h2,h3⟩:=h;exact⟨id,cs,h1,by rw[hg id h1];exact h2,h3⟩
 |row t l=>
  obtain⟨h1,h2,h3⟩:=h;refine⟨h1,h2,?_⟩;rcases h3 with h3|⟨id,h3,h4⟩
  .exact .inl h3
  .exact .inr ⟨id,h3,by rw[hg id h3];exact h4⟩
 |gone=>trivial
def aCi{c c':Cx}(h:leC c c'){s:SV U.D}{cs:List (PV×Bool)}(r:yH U c s cs):yH U c' s cs:=by
 cases s with
 |cl f caps=>obtain⟨p,b,h1,h2⟩:=r;exact⟨p,b,h1,aDh h h2⟩
 |_=>exact r
def aHa{c c':Cx}(h:leC c c'){p:PSt}{e:Ce}{b:BC U.D}(r:CX U c p e b):CX U c' p e b:=by
 cases b with
 |bx s rs=>obtain⟨id,cs,h1,h2,h3,h4⟩:=r;exact⟨id,cs,h1,h2,aCi h h3,h4⟩
 |row t l=>exact r
 |gone=>trivial
def MR.write(Mm:MR U q c0 c M p){k:Nat}{b b':BC U.D}{e:Ce}{id:Nat}{p':PSt}{w:List Nat}(hb:dQ M.bx k=some b)(he:c k=some e)(hid:e.id=some id)
    (hn:p'.next=p.next) (hg: ∀j,j≠id->p'.get j=p.get j) (hd: ∀j,j∈p'.dirty↔j=id∨j∈p.dirty) (hw: ∀j,j∈p'.wr->j=id∨j∈p.wr) (hr:CX U c p' e b'):
    MR U q c0 c ⟨qT M.bx k b',w⟩ p' where
 dom j h:=by
  simp only[kJ]at h;by_cases hj:j=k
  .rw[bI hj,hb]at h;cases h
  .rw[bH hj]at h;exact Mm.dom j h
 bx j y h:=by
  simp only[kJ]at h;by_cases hj:j=k
  .subst hj;rw[bI rfl,hb]at h;simp only[aK,aA]at h;subst h;exact⟨e,he,hr⟩
  .rw[bH hj]at h;obtain⟨e',h1,h2⟩:=Mm.bx j y h;exact⟨e',h1,wB h2 λi hi=>hg i λei=>hj (Mm.inj j k e' e id h1 he (by rw[<-ei];exact hi) hid)⟩
 lt j e' i h1 h2:=by rw[hn];exact Mm.lt j e' i h1 h2
 inj:=Mm.inj
 next:=by rw[hn];exact Mm.next
 bor:=Mm.bor
 loc:=Mm.loc
 old i hi ho:=by
  rw[hg i λe1=>ho ((hd i).2 (.inl e1))]
  exact Mm.old i hi λh=>ho ((hd i).2 (.inr h))
 dirty i hi bi:=by
  rcases(hd i).1 hi with rfl|h
  .have hk:k<100:=by
    rcases Nat.lt_or_ge k 100 with h|h
    .exact h
    .have:=Mm.loc k e i he h hid;omega
   exact⟨k,e,Mm.bor k e he hk,hid⟩
  .exact Mm.dirty i h bi
 wr i hi:=by
  rcases hw i hi with rfl|h
  .refine⟨by rw[hn];exact Mm.lt k e i he hid,λbi=>?_⟩
   have hk:k<100:=by
    rcases Nat.lt_or_ge k 100 with h|h
    .exact h
    .have:=Mm.loc k e i he h hid;omega
   exact⟨k,e,Mm.bor k e he hk,hid⟩
  .rw[hn];exact Mm.wr i h
def MR.upd(Mm:MR U q c0 c M p){k:Nat}{b b':BC U.D}{e:Ce}{id:Nat}{o:kN}(hb:dQ M.bx k=some b)(he:c k=some e)(hid:e.id=some id)(hr:CX U c (p.upd id o) e b'):
    MR U q c0 c ⟨qT M.bx k b',k::M.wr⟩ (p.upd id o)/\(WR U c M p->WR U c ⟨qT M.bx k b',k::M.wr⟩ (p.upd id o)):=by
 have bi:=Mm.lt k e id he hid;refine⟨Mm.write hb he hid rfl (λj hj=>by rw[lF bi,bH hj]) (λj=>mL) (λj hj=>mL.1 hj) hr,λhw i hi k' e' h1 h2=>?_⟩
 show(Nat.beq k k'||eA k' M.wr)=true;rcases mL.1 hi with rfl|h
 .rw[Mm.inj k k' e e' i he h1 hid h2,Nat.beq_refl,Bool.true_or]
 .rw[hw i h k' e' h1 h2,Bool.or_true]
def GL: ∀{m:List (Nat×BC U.D)} {k:Nat} {b:BC U.D},dQ m k=some b->qT m k b=m
 |[],k,b,h=>rfl
 |(a,x)::m,k,b,h=>by
  simp only[dQ]at h;unfold qT;cases hb:Nat.beq a k with
  |true=>
   rw[hb]at h;simp only[aI,aA]at h;subst h;rw[<-aE hb];rfl
  |false=>rw[hb]at h;simp only[aJ]at h⊢;rw[GL h]
def PN{p:PSt}{id:Nat}{o:kN}(h:id<p.next)(k:Nat):(p.mark id o).get k=if k=id then some o else p.get k:=by
 have:=lF (o:=o) h k;simp only[PSt.get,PSt.upd,PSt.mark]at this⊢;exact this
def MR.mark(Mm:MR U q c0 c M p){k:Nat}{b b':BC U.D}{e:Ce}{id:Nat}{o:kN}(hb:dQ M.bx k=some b)(he:c k=some e)(hid:e.id=some id)(hr:CX U c (p.mark id o) e b'):
    MR U q c0 c ⟨qT M.bx k b',M.wr⟩ (p.mark id o)/\(WR U c M p->WR U c ⟨qT M.bx k b',M.wr⟩ (p.mark id o)):=by
 have bi:=Mm.lt k e id he hid;exact⟨Mm.write hb he hid rfl (λj hj=>by rw[PN bi,bH hj]) (λj=>mL) (λj hj=> .inr hj) hr,λhw=>hw⟩
def uE{o:Nat}: ∀{rs:jF},Eb o rs=true↔∃s,(o,s)∈rs
 |[]=>by simp[Eb]
 |x::rs=>by
  obtain⟨a,b⟩:=x;simp only[Eb,Bool.or_eq_true,dJ,aD,uE (rs:=rs),List.mem_cons,aB];constructor
  .rintro(rfl|⟨s,h⟩)
   .exact⟨b,.inl ⟨rfl,rfl⟩⟩
   .exact⟨s,.inr h⟩
  .rintro⟨s,⟨rfl,_⟩|h⟩
   .exact .inl rfl
   .exact .inr ⟨s,h⟩
def Xz{o n:Nat}: ∀{rs:jF} {x:Nat×Bool},x∈a3l o n rs->x∈rs/\¬(o<=x.1/\x.1<o+n)
 |[],x,h=>by cases h
 |y::rs,x,h=>by
  unfold a3l at h;cases hb:Nat.ble o y.1&&Nat.blt y.1 (o+n)with
  |true=>
   rw[hb]at h;obtain⟨h1,h2⟩:=Xz h;exact⟨aG _ h1,h2⟩
  |false=>
   rw[hb]at h;rcases List.mem_cons.1 h with rfl|h
   .refine⟨aH ..,λ⟨h1,h2⟩=>?_⟩
    have:(Nat.ble o x.1&&Nat.blt x.1 (o+n))=true:=by
     simp only[aC,Nat.ble_eq,iF,aD];exact⟨h1,h2⟩
    rw[this]at hb;cases hb
   .obtain⟨h1,h2⟩:=Xz h;exact⟨aG _ h1,h2⟩
def tT(P:Program)(take:Bool)(p:PSt)(t:TypeId)(a:PV):Option (PV×Bool×PSt):=
 match jX P p t a with
 |some v=>bif take&&CS v then some (v,(gD p a).2,(gD p a).1)else some (v,false,p)
 |none=>none
variable(hU:iM U)(hT:rN P U T)
include hU
def SR.self(t:Ty)(x:Den U.D t):SR t x (dP U t x).cells:=⟨KP (tF hU t x),Dj (tF hU t x)⟩
def ON{t:Ty}{l:List (Den U.D t)}{i:Nat}{y:Den U.D t}(h:l[i]?=some y):(((l.map (dP U t)).flatMap PV.cells).drop (i*dN U t)).take (dN U t)=(dP U t y).cells:=by
 induction l generalizing i with
 |nil=>simp at h
 |cons x l ih=>
  cases i with
  |zero=>
   simp only[aU,aA]at h;subst h;rw[Nat.zero_mul,List.drop_zero,aO,aN];exact List.take_left' (jC hU _ _)
  |succ i=>
   rw[aT]at h;rw[aO,aN,<-ih h,Nat.succ_mul,Nat.add_comm];congr 1;rw[<-List.drop_drop];congr 1;exact List.drop_left' (jC hU _ _)
include hT
def a1D{take:Bool}{t:TypeId}{a:SV U.D}{p0:PV}{K:X U->TM U.D->Option W}(h:bLJ U T.T take M t a K=some r)(ra:tN U c a p0)(Mm:MR U q c0 c M p):
    ∃x M' v own p',K x M'=some r/\tT P take p t p0=some (v,own,p')/\qB U c x (v,own)/\MR U q c0 c M' p'/\(WR U c M p->WR U c M' p'):=by
 unfold bLJ at h;split at h
 ·
  rename_i v;obtain⟨es,i,off,e,rfl,he,hcs⟩:=ra;split at h
  .rename_i ty fh;cases hb:v.t.beq ty with
   |false=>rw[hb]at h;cases h
   |true=>
    rw[hb]at h;obtain⟨vt,vx⟩:=v;have:=Ty.beq_eq hb;subst this;obtain⟨w,h1,h2,_⟩:=zQ hU hT fh (cs:=e.cells) (off:=off) (x:=vx) (by rw[hcs];exact SR.self hU _ _)
    have hl:jX P p t (.pin es i off)=some w:=by simp only[jX,he];exact h1
    refine⟨_,_,w,false,p,h,?_,⟨h2,cB _ _⟩,Mm,λhw=>hw⟩
    simp only[tT,hl,gD];cases take&&CS w<;>rfl
  .cases h
 ·
  rename_i k off path;obtain⟨e,id,he,hid,rfl⟩:=ra;split at h
  .rename_i cont rs hf;obtain⟨e',fq,bu,cs,dr,bc,hcs,kv⟩:=Mm.bx k _ hf;rw[he]at fq;cases fq;rw[hid]at dr;cases dr;split at h
   ·
    rename_i cv;split at h
    .rename_i ty w o fh hp;cases hb:w.t.beq ty&&Nat.beq o off with
     |false=>rw[hb]at h;cases h
     |true=>
      rw[hb]at h;simp only[aI]at h;simp only[aC,dJ,aD]at hb;obtain⟨li,rfl⟩:=hb;obtain⟨wt,wx⟩:=w;have:=Ty.beq_eq li;subst this;obtain⟨h1,h2,h3⟩:=hcs;have hsr:SR cv.t cv.x (cs.map (·.1)):=⟨h1,h2⟩;obtain⟨g1,g2⟩:=vL hU hp hsr;obtain⟨v,k1,k2,k3,k4⟩:=zQ hU hT fh g1;have hl:jX P p t (.ptr id o)=some v:=by simp only[jX,bc];exact k1
      have bi:=Mm.lt k e id he hid;have qi: ∀fy,(∀i s,(i,s)∈fy->(i,s)∈rs/\i≠o)->∀x b,cs[o]?=some (x,b)->CX U c (p.mark id (.box (cs.set o (x,false)))) e (.bx (.val cv) fy):=by
       intro fy cw x b hx;have qf:o<cs.length:=by
        rcases Nat.lt_or_ge o cs.length with h|h
        .exact h
        .rw[List.getElem?_eq_none h]at hx;cases hx
       have lq:(cs.set o (x,false)).map (·.1)=cs.map (·.1):=by
        rw[List.map_set];apply List.ext_getElem?;intro j;rw[List.getElem?_set];by_cases hj:o=j
        .subst hj;rw[List.length_map,bI rfl,bI qf,List.getElem?_map,hx];rfl
        .rw[bH hj]
       refine⟨id,_,hid,by rw[PN bi,bI rfl],⟨by rw[lq];exact h1,by rw[lq];exact h2,λy hy=>?_⟩,λi s hi=>?_⟩
       .rcases List.mem_or_eq_of_mem_set hy with hy|rfl
        .exact h3 y hy
        .exact h3 (x,b) (List.mem_of_getElem? hx)
       .obtain⟨m1,m2⟩:=cw i s hi;obtain⟨x',lx,fm⟩:=kv i s m1;exact⟨x',by rw[List.getElem?_set,bH (λe=>m2 e.symm)];exact lx,fm⟩
      have hisSl:Cb wt=true->CS v=true:=by
       intro hs;cases wt with
       |sl et=>
        have hv:v≠ .nil:=by
         intro hv;have hc:v.cells=[v]:=by rw[hv];rfl
         rw[k3]at hc;have hm:v∈cs.map (·.1):=List.mem_of_mem_drop (List.mem_of_mem_take (by rw[hc];exact List.mem_singleton.2 rfl))
         obtain⟨y,hy,e1⟩:=List.mem_map.1 hm;exact h3 y hy (by rw[e1];exact hv)
        obtain⟨_,cr⟩:=sU k2;rcases cr with⟨_,h4|h4|h4⟩|⟨_,h4⟩
        .rw[h4];rfl
        .exact(hv h4).elim
        .rw[h4];rfl
        .rw[h4];rfl
       |_=>cases hs
      have hslNo:Cb wt=false->CS v=false:=by
       intro hs;cases wt with
       |sl et=>cases hs
       |int k=>rw[jB k2];rfl
       |bool=>rw[of_bool k2];rfl
       |str=>rw[xZ k2];rfl
       |rc n=>obtain⟨cx,hc,_⟩:=Pp k2;rw[hc];rfl
      cases hc:take&&Cb wt&&Eb o rs with
      |true=>
       rw[hc]at h;simp only[aC]at hc;obtain⟨⟨rfl,cr⟩,hmr⟩:=hc;obtain⟨s,hs⟩:=uE.1 hmr;obtain⟨x,hx,_⟩:=kv o s hs;have hvx:v=x:=by
        have hwt1:lO wt=false:=by cases wt<;>first|rfl|cases cr
        have hc1:v.cells=[v]:=oZ λds e=>by rw[e,hwt1]at k4;cases k4
        have hc2:(cs.map (·.1))[o]?=some x:=by rw[List.getElem?_map,hx];rfl
        have hc3:((cs.map (·.1)).drop o).take 1=[v]:=by
         have:dN U wt=1:=by cases wt<;>first|rfl|cases hwt1
         rw[this]at k3;rw[<-k3,hc1]
        have hc4:=congrArg (·[0]?) hc3;simp only[List.getElem?_take,List.getElem?_drop,aU]at hc4;rw[bI (by omega),Nat.add_zero,hc2]at hc4
        exact(Option.some.inj hc4).symm
       have pe:gD p (.ptr id o)=(p.mark id (.box (cs.set o (x,false))),true):=by simp only[gD,bc,hx]
       obtain⟨m1,m2⟩:=Mm.mark hf he hid (qi (a3l o 1 rs) (λi s hi=>by
        obtain⟨y1,y2⟩:=Xz hi;exact⟨y1,λe=>y2 ⟨by simp only;omega,by simp only;omega⟩⟩) x true hx)
       refine⟨_,_,v,true,_,h,?_,⟨k2,?_⟩,m1,m2⟩
       .simp only[tT,hl,hisSl cr,Bool.and_self,aI,pe]
       .intro i s' hi;obtain⟨y1,y2⟩:=Ko hi;obtain⟨x',lx,fm⟩:=kv _ _ y1;have hi0:i=0:=by simp only at y2;omega
        subst hi0;simp only[Nat.zero_add]at lx;rw[hx]at lx;cases lx;refine .inr ⟨rfl,?_,rfl,λe1=>by rw[hvx];exact fm e1⟩
        rw[k4];cases wt<;>first|rfl|cases cr
      |false=>
       rw[hc]at h;simp only[aJ]at h;cases jy:take&&CS v with
       |false=>
        exact⟨_,_,v,false,p,h,by simp only[tT,hl,jy,aJ],⟨k2,cB _ _⟩,Mm,λhw=>hw⟩
       |true=>
        have hred:tT P take p t (.ptr id o)=some (v,(gD p (.ptr id o)).2,(gD p (.ptr id o)).1):=by simp only[tT,hl,jy,aI]
        simp only[aC]at jy;have cr:Cb wt=true:=by
         cases hh:Cb wt with
         |true=>rfl
         |false=>rw[hslNo hh]at jy;cases jy.2
        have hnm:Eb o rs=false:=by rw[jy.1,cr]at hc;simpa using hc
        refine⟨_,M,v,(gD p (.ptr id o)).2,(gD p (.ptr id o)).1,h,hred,⟨k2,cB _ _⟩,?_⟩;cases hx:cs[o]? with
        |none=>rw[show gD p (.ptr id o)=(p,false) by simp only[gD,bc,hx]];exact⟨Mm,λhw=>hw⟩
        |some y=>
         obtain⟨x,b⟩:=y;cases b with
         |false=>rw[show gD p (.ptr id o)=(p,false) by simp only[gD,bc,hx]];exact⟨Mm,λhw=>hw⟩
         |true=>
          rw[show gD p (.ptr id o)=(p.mark id (.box (cs.set o (x,false))),true) by simp only[gD,bc,hx]]
          have:=Mm.mark hf he hid (qi rs (λi s hi=>⟨hi,λe=>by
           rw[e]at hi;rw[uE.2 ⟨s,hi⟩]at hnm;cases hnm⟩) x true hx)
          rwa [GL hf]at this
    .cases h
   ·
    rename_i f caps;obtain⟨pv,b,rfl,hpv⟩:=hcs;split at h
    .cases hb:T.T.fn t&&Nat.beq off 0 with
     |false=>rw[hb]at h;cases h
     |true=>
      rw[hb]at h;simp only[aC,dJ,aD]at hb;obtain⟨fj,rfl⟩:=hb;obtain⟨ha,_,_⟩:=hT.fn t fj;have hl:jX P p t (.ptr id 0)=some pv:=by simp only[jX,bc,qZ,ha];rfl
      have hpv2:=hpv;obtain⟨ps,e1,_⟩:=hpv2;refine⟨_,_,pv,false,p,h,?_,⟨hpv,cB _ _⟩,Mm,λhw=>hw⟩
      have:CS pv=false:=by rw[e1];rfl
      simp only[tT,hl,this,Bool.and_false,aJ]
    .cases h
   .cases h
  .cases h
 ·
  rename_i k i off path;obtain⟨e,id,he,hid,hi0,hi1,rfl⟩:=ra;split at h
  .rename_i et l hf;obtain⟨e',fq,hn,hz,bh⟩:=Mm.bx k _ hf;rw[he]at fq;cases fq;rcases bh with⟨dg,_⟩|⟨bu,dr,bc⟩
   .rw[hid]at dg;cases dg
   .rw[hid]at dr;cases dr;obtain⟨y,hy,h⟩:=oC h;obtain⟨_,hy1,_⟩:=Ai hy;split at h
    .rename_i ty w o fh hp;cases hb:w.t.beq ty&&Nat.beq o off with
     |false=>rw[hb]at h;cases h
     |true=>
      rw[hb]at h;simp only[aI]at h;simp only[aC,dJ,aD]at hb;obtain⟨li,rfl⟩:=hb;obtain⟨wt,wx⟩:=w;have:=Ty.beq_eq li;subst this;obtain⟨g1,g2⟩:=vL hU hp (SR.self hU et y);have qw:=ON hU hy1;rw[<-qw,List.drop_take,List.drop_drop,List.take_take,Nat.min_eq_left (by simp only at g2⊢;omega)]at g1
      obtain⟨v,k1,k2,k3,k4⟩:=zQ hU hT fh g1;have hl:jX P p t (.ptr id (i.toNat*e.z+o))=some v:=by simp only[jX,bc,hz];exact k1
      refine⟨_,_,v,false,p,h,?_,⟨k2,cB _ _⟩,Mm,λhw=>hw⟩
      have pe:gD p (.ptr id (i.toNat*e.z+o))=(p,false):=by simp only[gD,bc]
      simp only[tT,hl,pe];cases take&&CS v<;>rfl
    .cases h
  .cases h
 .cases h
end
end Go.TV
namespace Go.TV
open Go.AI Go.PI
section
variable{P:Program}{U:iR}{T:TP U.D}{c c0:Cx}{W:Type}{r:W}{q p:PSt}{M:TM U.D}
def aDk{N:Type}(l s:List N)(o o' n m:Nat)(h1:o'+m<=n)(h2:o+n<=l.length):
    l.take (o+o')++s++l.drop (o+o'+m)=l.take o++(((l.drop o).take n).take o'++s++((l.drop o).take n).drop (o'+m))++l.drop (o+n):=by
 have e1:l.take (o+o')=l.take o++((l.drop o).take n).take o':=by
  rw[List.take_add,List.take_take,Nat.min_eq_left (by omega)]
 have e2:l.drop (o+o'+m)=((l.drop o).take n).drop (o'+m)++l.drop (o+n):=by
  rw[List.drop_take,List.drop_drop];have:l.drop (o+n)=(l.drop (o+(o'+m))).drop (n-(o'+m)):=by rw[List.drop_drop];congr 1;omega
  rw[this,List.take_append_drop,Nat.add_assoc]
 rw[e1,e2];simp only[aQ]
def Q7{ts:List Ty}{cs s:List PV}{o n:Nat}(h:NP U ts cs)(hs:NP U ((ts.drop o).take n) s)(hl:s.length=n)(hle:o+n<=cs.length):NP U ts (cs.take o++s++cs.drop (o+n)):=λj z hj=>by
 have bi:(cs.take o).length=o:=by rw[List.length_take];omega
 rw[aQ]at hj;by_cases h1:j<o
 .rw[List.getElem?_append_left (by omega),List.getElem?_take,bI h1]at hj
  exact h j z hj
 .rw[List.getElem?_append_right (by omega),bi]at hj
  by_cases h2:j-o<n
  .rw[List.getElem?_append_left (by omega)]at hj
   obtain⟨e,g1,g2⟩:=hs _ z hj;rw[List.getElem?_take,bI h2,List.getElem?_drop]at g1;exact⟨e,by rw[<-g1];congr 1;omega,g2⟩
  .rw[List.getElem?_append_right (by omega),List.getElem?_drop]at hj
   have:o+n+(j-o-s.length)=j:=by omega
   rw[this]at hj;exact h j z hj
variable(hU:iM U)(hT:rN P U T)
include hU
def T4{l:List (V U)}{i:Nat}{v w:V U}(h:l[i]?=some v)(ht:w.t=v.t):
    uN (l.set i w)=(uN l).take (eX U ((l.map λv=>v.t).take i))++(dP U w.t w.x).cells++(uN l).drop (eX U ((l.map λv=>v.t).take i)+dN U v.t):=by
 induction l generalizing i with
 |nil=>simp at h
 |cons x l ih=>
  cases i with
  |zero=>
   simp only[aU,aA]at h;subst h;rw[List.set_cons_zero,jM,jM,List.take_zero,eX,List.take_zero,aW,Nat.zero_add,List.drop_left' (jC hU _ _)]
  |succ i=>
   rw[aT]at h;rw[List.set_cons_succ,jM,jM,ih h,aO,List.take_succ_cons,eX,Nat.add_assoc];have hl:=jC hU x.t x.x;rw[<-hl,List.take_length_add_append,List.drop_length_add_append];simp only[aQ]
def WD{path:List Nat}: ∀{v w c' old:V U} {o:Nat} {cs s:List PV},aBG U path v w=some c'->Aj U path v=some (old,o)->SR v.t v.x cs->SR w.t w.x s->
    c'.t=v.t/\w.t=old.t/\SR c'.t c'.x (cs.take o++s++cs.drop (o+dN U w.t)):=by
 induction path with
 |nil=>
  intro v w c' old o cs s h hp r rs;simp only[Aj,aA,aB]at hp;obtain⟨rfl,rfl⟩:=hp;unfold aBG at h;cases hb:v.t.beq w.t with
  |false=>rw[hb]at h;cases h
  |true=>
   rw[hb]at h;simp only[aI,aA]at h;subst h;have:=Ty.beq_eq hb;refine⟨this.symm,this.symm,?_⟩;rw[List.take_zero,aW,Nat.zero_add,List.drop_eq_nil_of_le (by rw[r.len hU,this];exact aS _),bA]
   exact rs
 |cons i path ih=>
  intro v w c' old o cs s h hp r rs;obtain⟨vt,vx⟩:=v;unfold aBG at h;split at h
  .rename_i n x heq;cases heq;split at h
   .rename_i y hy;split at h
    .rename_i y' mn;split at h
     .rename_i z hz;cases h;unfold Aj at hp;rw[show KQ U ⟨.rc n,x⟩ i=some y from hy]at hp
      simp only at hp;split at hp
      .rename_i r' cb;simp only[aA,aB]at hp;obtain⟨rfl,rfl⟩:=hp;have dc:Aj U path y=some (r'.1,r'.2):=by rw[cb]
       have hpart:=r.fld hU hy;obtain⟨g1,g2,g3⟩:=ih mn dc hpart rs;obtain⟨g4,g5⟩:=vL hU dc hpart;have qd:=hU.un_of n _ z hz;have du:cs.length=U.sz n:=r.len hU;have de:=hpart.len hU;rw[List.length_take,List.length_drop,du]at de;have hsp:=pZ hU y.t;have hle:kF U n i+dN U y.t<=cs.length:=by omega
       refine⟨rfl,g2,?_⟩;show SR (.rc n) z (cs.take (kF U n i+r'.2)++s++cs.drop (kF U n i+r'.2+dN U w.t));rw[aDk cs s (kF U n i) r'.2 (dN U y.t) (dN U w.t) (by rw[g2];exact g5) hle]
       refine⟨?_,?_⟩
       .rw[rQ,rQ,Dl,Dm,r.wk,g3.wk];show _=U.en n z;rw[hU.en n z,qd];have:=T4 hU hy g1;rw[hU.ty n x]at this;show _=uN _;rw[this];show(U.en n x).take _++_++(U.en n x).drop _=_;rw[hU.en n x];rfl
       .refine Q7 r.z ?_ (by rw[g3.len hU,g1]) hle
        have h5:(((jK U (.rc n)).drop (kF U n i)).take (dN U y.t))=jK U y.t:=EC hU (EB hU hy);have h6:jK U y'.t=jK U y.t:=by rw[g1]
        rw[h5,<-h6];exact g3.z
      .cases hp
     .cases h
    .cases h
   .cases h
  .cases h
omit hU in
def a3j(x:PV)(b:Bool):(fl x b).1=match x with| .nil=> .emp|x=>x:=by cases x<;>rfl
omit hU in
def bGM(x:PV)(b:Bool):wk (fl x b).1=wk x:=by cases x<;>rfl
omit hU in
def yG(x:PV)(b:Bool):(fl x b).1≠ .nil:=by cases x<;>simp[fl]
omit hU in
def SR.fl{t:Ty}{x:Den U.D t}{cs:List PV}(h:SR t x cs)(b:Bool):SR t x ((cs.map λc=>fl c b).map (·.1)):=by
 refine⟨?_,λj z hj=>?_⟩
 .rw[<-h.wk,mI,mI,List.map_map,List.map_map];exact List.map_congr_left λc _=>bGM c b
 .rw[List.map_map,List.getElem?_map,aF]at hj;obtain⟨y,hy,e⟩:=hj;have mn:y= .sl z []:=by
   have e:(PI.fl y b).1= .sl z []:=e;rw[a3j]at e;split at e
   .cases e
   .exact e
  exact h.z j z (by rw[hy,mn])
omit hU in
def aDv{rs:jF}{t:Ty}{x:Den U.D t}{pv:PV}{ow:Bool}(h:aCQ rs pv ow)(hv:VR U t x pv):bIH rs (pv.cells.map λc=>fl c ow):=λo s hi=>by
 rcases h o s hi with⟨h1,h2⟩|⟨rfl,h1,h2,h3⟩
 .exact⟨.emp,by rw[List.getElem?_map,h2];rfl,λ_=>rfl⟩
 .have hc:pv.cells=[pv]:=oZ λds e=>by rw[e]at h1;cases h1
  rw[hc];cases hn:kS pv with
  |true=>
   have:pv= .nil:=by cases pv<;>first|rfl|cases hn
   subst this;exact⟨.emp,rfl,λ_=>rfl⟩
  |false=>
   rw[hn,Bool.or_false]at h2;subst h2;refine⟨pv,?_,h3⟩;have:fl pv true=(pv,true):=by cases pv<;>first|rfl|cases hn
   simp[this]
def aWH(hT:rN P U T){t:TypeId}{a:SV U.D}{x:X U}{p0 p1:PV}{ow:Bool}{K:TM U.D->Option W}(h:stT U T.T M t a x K=some r)(ra:tN U c a p0)(rx:qB U c x (p1,ow))(Mm:MR U q c0 c M p):
    ∃M' p',K M'=some r/\oO P p t p0 p1 ow=some p'/\MR U q c0 c M' p'/\(WR U c M p->WR U c M' p'):=by
 unfold stT at h;split at h
 ·
  rename_i k off path;obtain⟨e,id,he,hid,rfl⟩:=ra;have bi:=Mm.lt k e id he hid;split at h
  .rename_i cont rs hf;obtain⟨e',fq,bu,cs,dr,bc,hcs,kv⟩:=Mm.bx k _ hf;rw[he]at fq;cases fq;rw[hid]at dr;cases dr;split at h
   .rename_i cv;split at h
    .rename_i ty w o fh hp;cases hb:w.t.beq ty&&Nat.beq o off with
     |false=>rw[hb]at h;cases h
     |true=>
      rw[hb]at h;simp only[aI]at h;simp only[aC,dJ,aD]at hb;obtain⟨li,rfl⟩:=hb;have:=Ty.beq_eq li;split at h
      .rename_i v hv;split at h
       .rename_i c' mh;obtain⟨gp,ku⟩:=lI hU hv rx.1;obtain⟨h1,h2,h3⟩:=hcs;have hsr:SR cv.t cv.x (cs.map (·.1)):=⟨h1,h2⟩;have hs:=VR.sr ku;obtain⟨g1,g2,g3⟩:=WD hU mh hp hsr (hs.fl ow);obtain⟨g4,g5⟩:=vL hU hp hsr;have du:cs.length=dN U cv.t:=by have:=hsr.len hU;rwa [List.length_map]at this
        have ci:iE P t=some (dN U ty):=hT.sz t ty fh;have hn:p1.cells.length=dN U ty:=by rw[hs.len hU,gp]
        have hle:o+dN U ty<=cs.length:=by rw[du,<-this];exact g5
        have c1:(Nat.beq p1.cells.length (dN U ty)&&Nat.ble (o+dN U ty) cs.length&&p1.cells.all PV.one)=true:=by
         rw[hs.one hU,hn,Nat.beq_refl,Bool.true_and,bE,Nat.ble_eq];exact hle
        refine⟨_,p.upd id (.box (cs.take o++p1.cells.map (λc=>fl c ow)++cs.drop (o+dN U ty))),h,by simp only[oO,bc,ci,c1,aI],Mm.upd hf he hid ?_⟩
        refine⟨id,_,hid,by rw[lF bi,bI rfl],⟨?_,?_,?_⟩,?_⟩
        .rw[<-g3.wk,gp];simp only[List.map_append,List.map_take,List.map_drop]
        .rw[gp]at g3;have:=g3.z;simp only[List.map_append,List.map_take,List.map_drop];exact this
        .intro y hy;rcases List.mem_append.1 hy with hy|hy
         .rcases List.mem_append.1 hy with hy|hy
          .exact h3 y (List.mem_of_mem_take hy)
          .obtain⟨z,_,rfl⟩:=List.mem_map.1 hy;exact yG z ow
         .exact h3 y (List.mem_of_mem_drop hy)
        .intro i s hi;have htl:(cs.take o).length=o:=by rw[List.length_take];omega
         rcases List.mem_append.1 hi with hi|hi
         .obtain⟨j,e1,e2⟩:=aFv hi;simp only at e1;subst e1;obtain⟨y,hy,hys⟩:=aDv rx.2 ku j s e2;refine⟨y,?_,hys⟩;have hj:j<p1.cells.length:=by
           rcases Nat.lt_or_ge j p1.cells.length with h|h
           .exact h
           .rw[List.getElem?_eq_none (by rw[List.length_map];exact h)]at hy;cases hy
          rw[aQ,List.getElem?_append_right (by omega),htl,Nat.add_sub_cancel,List.getElem?_append_left (by rw[List.length_map];exact hj)]
          exact hy
         .obtain⟨e1,e2⟩:=Xz hi;obtain⟨y,hy,hys⟩:=kv i s e1;refine⟨y,?_,hys⟩;simp only at e2;rw[aQ];by_cases h4:i<o
          .rw[List.getElem?_append_left (by omega),List.getElem?_take,bI h4];exact hy
          .have h5:o+dN U ty<=i:=by omega
           rw[List.getElem?_append_right (by omega),htl,List.getElem?_append_right (by rw[List.length_map];omega),List.length_map,hn,List.getElem?_drop]
           have:o+dN U ty+(i-o-dN U ty)=i:=by omega
           rw[this];exact hy
       .cases h
      .cases h
    .cases h
   ·
    split at h
    .rename_i f caps hx;cases hb:T.T.fn t&&Nat.beq off 0&&stT.isF U cont with
     |false=>rw[hb]at h;cases h
     |true=>
      rw[hb]at h;simp only[aI]at h;simp only[aC,dJ,aD]at hb;obtain⟨⟨fj,rfl⟩,hF⟩:=hb;obtain⟨_,ci,_⟩:=hT.fn t fj;have hx1:tN U c (.cl f caps) p1:=by have:=rx.1;rw[hx]at this;exact this
      obtain⟨ps,jz,fb⟩:=hx1;have hcs1: ∃y,cs=[y]:=by
       cases cont with
       |cl f' co=>obtain⟨pv,b,e1,_⟩:=hcs;exact⟨_,e1⟩
       |nf=>obtain⟨b,e1⟩:=hcs;exact⟨_,e1⟩
       |_=>cases hF
      obtain⟨y,rfl⟩:=hcs1;subst jz;refine⟨_,p.upd id (.box [(.fn f [] ps,ow)]),h,?_,Mm.upd hf he hid ?_⟩
      .simp only[oO,bc,ci];rfl
      .exact⟨id,_,hid,by rw[lF bi,bI rfl],⟨_,_,rfl,ps,rfl,fb⟩,λo s hi=>by cases hi⟩
    .cases h
  .cases h
 ·
  rename_i k i off path;obtain⟨e,id,he,hid,hi0,hi1,rfl⟩:=ra;have bi:=Mm.lt k e id he hid;split at h
  .rename_i et l hf;obtain⟨e',fq,hn,hz,bh⟩:=Mm.bx k _ hf;rw[he]at fq;cases fq;rcases bh with⟨dg,_⟩|⟨bu,dr,bc⟩
   .rw[hid]at dg;cases dg
   .rw[hid]at dr;cases dr;obtain⟨y,hy,h8⟩:=oC h;clear h;have h:=h8;clear h8;obtain⟨_,hy1,hylt⟩:=Ai hy;split at h
    .rename_i ty w o fh hp;cases hb:w.t.beq ty&&Nat.beq o off with
     |false=>rw[hb]at h;cases h
     |true=>
      rw[hb]at h;simp only[aI]at h;simp only[aC,dJ,aD]at hb;obtain⟨li,rfl⟩:=hb;have:=Ty.beq_eq li;split at h
      .rename_i v hv;split at h
       .rename_i c' mh;split at h
        .rename_i z nj;obtain⟨gp,ku⟩:=lI hU hv rx.1;have hs:=VR.sr ku;have hsr:=SR.self hU et y;have hs2:SR v.t v.x (dP U v.t v.x).cells:=SR.self hU v.t v.x;obtain⟨g1,g2,g3⟩:=WD hU mh hp hsr hs2;obtain⟨g4,g5⟩:=vL hU hp hsr;have ec:=oX nj;have ci:iE P t=some (dN U ty):=hT.sz t ty fh;have hpn:p1.cells.length=dN U ty:=by rw[hs.len hU,gp]
         have kd:((l.map (dP U et)).flatMap PV.cells).length=l.length*dN U et:=by
          have:=iL (z:=dN U et) (es:=l.map (dP U et)) (λe' fq=>by obtain⟨a,_,rfl⟩:=List.mem_map.1 fq;exact jC hU _ _)
          rw[List.length_map]at this;exact this
         have hmul:i.toNat*dN U et+dN U et<=l.length*dN U et:=by rw[<-Nat.succ_mul];exact Nat.mul_le_mul_right _ hylt
         have hoz:o+dN U ty<=dN U et:=by rw[<-this];exact g5
         have c1:(Nat.beq p1.cells.length (dN U ty)&&Nat.ble (i.toNat*e.z+o+dN U ty) ((l.map (dP U et)).flatMap PV.cells).length&&p1.cells.all PV.one)=true:=by
          rw[hs.one hU,hpn,Nat.beq_refl,Bool.true_and,bE,Nat.ble_eq,kd,hz];omega
         refine⟨_,p.upd id (.row e.z (lO et) (((l.map (dP U et)).flatMap PV.cells).take (i.toNat*e.z+o)++PI.wks p1.cells++((l.map (dP U et)).flatMap PV.cells).drop (i.toNat*e.z+o+dN U ty))),h,by simp only[oO,bc,ci,c1,aI],Mm.upd hf he hid ?_⟩
         refine⟨by rw[List.length_set];exact hn,hz,.inr ⟨id,hid,?_⟩⟩
         rw[lF bi,bI rfl];congr 2;have hz2:(dP U et z).cells=(dP U et y).cells.take o++PI.wks p1.cells++(dP U et y).cells.drop (o+dN U ty):=by
          have h6:=g3.wk;have e6:(⟨c'.t,c'.x⟩:TV U.D)=⟨et,z⟩:=ec;have h7:(dP U (⟨c'.t,c'.x⟩:TV U.D).t (⟨c'.t,c'.x⟩:TV U.D).x).cells=(dP U et z).cells:=by rw[e6]
          rw[<-h7,<-h6];simp only[rQ,Dl,Dm,gp];rw[KP (tF hU et y),hs.wk];congr 2;exact KP (tF hU v.t v.x)
         have hfs:((l.set i.toNat z).map (dP U et)).flatMap PV.cells=Ba (fG (l.map (dP U et))) (i.toNat*dN U et) (dP U et z).cells:=by
          rw[List.map_set];exact PU (λe' fq=>by obtain⟨a,_,rfl⟩:=List.mem_map.1 fq;exact jC hU _ _) (by rw[List.length_map];exact hylt) (jC hU _ _)
         rw[hfs,Xj _ _ _ (by rw[jC hU];show _<=((l.map (dP U et)).flatMap PV.cells).length;rw[kd];exact hmul),jC hU,hz2,hz]
         show((l.map (dP U et)).flatMap PV.cells).take (i.toNat*dN U et+o)++_++((l.map (dP U et)).flatMap PV.cells).drop (i.toNat*dN U et+o+dN U ty)=_;rw[aDk _ _ (i.toNat*dN U et) o (dN U et) (dN U ty) hoz (by rw[kd];exact hmul),ON hU hy1]
         rfl
        .cases h
       .cases h
      .cases h
    .cases h
  .cases h
 .cases h
end
end Go.TV
namespace Go.TV
open Go.AI Go.PI
section
variable{P:Program}{U:iR}{T:TP U.D}{c c0:Cx}{W:Type}{r:W}{q p:PSt}{M:TM U.D}
def mS(c:Cx)(k:Nat)(e:Ce):Cx:=λj=>if j=k then some e else c j
def kZ{k:Nat}{e:Ce}(h:c k=none):leC c (mS c k e):=λj e' hj=>by
 unfold mS;by_cases e1:j=k
 .subst e1;rw[h]at hj;cases hj
 .rw[bH e1];exact hj
def XH{p:PSt}{o:kN}{id:Nat}(h:id<p.next):(p.new o).get id=p.get id:=by
 rw[lG,bH (by omega)]
def MR.new(Mm:MR U q c0 c M p){k:Nat}(hk:100<=k)(hf:dQ M.bx k=none){o:kN}{b:BC U.D}{n z:Nat}(hr:CX U (mS c k ⟨some p.next,n,z⟩) (p.new o) ⟨some p.next,n,z⟩ b):
    MR U q c0 (mS c k ⟨some p.next,n,z⟩) ⟨(k,b)::M.bx,M.wr⟩ (p.new o)/\(WR U c M p->WR U (mS c k ⟨some p.next,n,z⟩) ⟨(k,b)::M.bx,M.wr⟩ (p.new o)):=by
 have hc:=Mm.dom k hf;refine⟨⟨λj h=>?_,λj y h=>?_,λj e id h1 h2=>?_,λj j' e e' id h1 h2 h3 h4=>?_,Nat.le_succ_of_le Mm.next,λj e h1 h2=>?_,λj e id h1 h2 h3=>?_,λid hi ho=>?_,Mm.dirty,λid hi=>?_⟩,λhw id hi j e h1 h2=>?_⟩
 .rw[gY]at h;by_cases e1:j=k
  .rw[bI e1]at h;cases h
  .rw[bH e1]at h;unfold mS;rw[bH e1];exact Mm.dom j h
 .rw[gY]at h;by_cases e1:j=k
  .rw[bI e1]at h;simp only[aA]at h;subst h;exact⟨_,by unfold mS;rw[bI e1],hr⟩
  .rw[bH e1]at h;obtain⟨e,g1,g2⟩:=Mm.bx j y h;exact⟨e,kZ hc j e g1,wB (aHa (kZ hc) g2) λid hid=>XH (Mm.lt j e id g1 hid)⟩
 .unfold mS at h1;by_cases e1:j=k
  .rw[bI e1]at h1;cases h1;cases h2;exact Nat.lt_succ_self _
  .rw[bH e1]at h1;exact Nat.lt_succ_of_lt (Mm.lt j e id h1 h2)
 .unfold mS at h1 h2;by_cases e1:j=k<;>by_cases e2:j'=k
  .rw[e1,e2]
  .rw[bI e1]at h1;rw[bH e2]at h2;cases h1;cases h3;have:=Mm.lt j' e' _ h2 h4;omega
  .rw[bH e1]at h1;rw[bI e2]at h2;cases h2;cases h4;have:=Mm.lt j e _ h1 h3;omega
  .rw[bH e1]at h1;rw[bH e2]at h2;exact Mm.inj j j' e e' id h1 h2 h3 h4
 .unfold mS at h1;by_cases e1:j=k
  .omega
  .rw[bH e1]at h1;exact Mm.bor j e h1 h2
 .unfold mS at h1;by_cases e1:j=k
  .rw[bI e1]at h1;cases h1;cases h3;exact Mm.next
  .rw[bH e1]at h1;exact Mm.loc j e id h1 h2 h3
 .rw[XH (Nat.lt_of_lt_of_le hi Mm.next)];exact Mm.old id hi ho
 .obtain⟨g1,g2⟩:=Mm.wr id hi;exact⟨Nat.lt_succ_of_lt g1,g2⟩
 .unfold mS at h1;by_cases e1:j=k
  .rw[bI e1]at h1;cases h1;cases h2;have:=(Mm.wr _ hi).1;omega
  .rw[bH e1]at h1;exact hw id hi j e h1 h2
def MR.new0(Mm:MR U q c0 c M p){k:Nat}(hk:100<=k)(hf:dQ M.bx k=none){b:BC U.D}{n z:Nat}(hr:CX U (mS c k ⟨none,n,z⟩) p ⟨none,n,z⟩ b):
    MR U q c0 (mS c k ⟨none,n,z⟩) ⟨(k,b)::M.bx,M.wr⟩ p/\(WR U c M p->WR U (mS c k ⟨none,n,z⟩) ⟨(k,b)::M.bx,M.wr⟩ p):=by
 have hc:=Mm.dom k hf;have un: ∀{j:Nat} {e:Ce} {id:Nat},mS c k ⟨none,n,z⟩ j=some e->e.id=some id->c j=some e:=by
  intro j e id h1 h2;unfold mS at h1;by_cases e1:j=k
  .rw[bI e1]at h1;cases h1;cases h2
  .rw[bH e1]at h1;exact h1
 refine⟨⟨λj h=>?_,λj y h=>?_,λj e id h1 h2=>Mm.lt j e id (un h1 h2) h2,λj j' e e' id h1 h2 h3 h4=>Mm.inj j j' e e' id (un h1 h3) (un h2 h4) h3 h4,Mm.next,λj e h1 h2=>?_,λj e id h1 h2 h3=>Mm.loc j e id (un h1 h3) h2 h3,Mm.old,Mm.dirty,Mm.wr⟩,λhw id hi j e h1 h2=>hw id hi j e (un h1 h2) h2⟩
 .rw[gY]at h;by_cases e1:j=k
  .rw[bI e1]at h;cases h
  .rw[bH e1]at h;unfold mS;rw[bH e1];exact Mm.dom j h
 .rw[gY]at h;by_cases e1:j=k
  .rw[bI e1]at h;simp only[aA]at h;subst h;exact⟨_,by unfold mS;rw[bI e1],hr⟩
  .rw[bH e1]at h;obtain⟨e,g1,g2⟩:=Mm.bx j y h;exact⟨e,kZ hc j e g1,aHa (kZ hc) g2⟩
 .unfold mS at h1;by_cases e1:j=k
  .omega
  .rw[bH e1]at h1;exact Mm.bor j e h1 h2
def MR.gone(Mm:MR U q c0 c M p){k:Nat}{b:BC U.D}(hb:dQ M.bx k=some b)(w:List Nat):MR U q c0 c ⟨qT M.bx k .gone,w⟩ p:=by
 refine⟨λj h=>?_,λj y h=>?_,Mm.lt,Mm.inj,Mm.next,Mm.bor,Mm.loc,Mm.old,Mm.dirty,Mm.wr⟩
 .simp only[kJ]at h;by_cases hj:j=k
  .rw[bI hj,hb]at h;cases h
  .rw[bH hj]at h;exact Mm.dom j h
 .simp only[kJ]at h;by_cases hj:j=k
  .subst hj;rw[bI rfl,hb]at h;simp only[aK,aA]at h;subst h;obtain⟨e,h1,_⟩:=Mm.bx j b hb;exact⟨e,h1,trivial⟩
  .rw[bH hj]at h;exact Mm.bx j y h
variable(hU:iM U)(hT:rN P U T)
def rD{k:Nat}{b:BC U.D}{K:TM U.D->Option W}(h:R2 U M k b K=some r):dQ M.bx k=none/\K ⟨(k,b)::M.bx,M.wr⟩=some r:=by
 unfold R2 at h;split at h
 .rename_i e;exact⟨e,h⟩
 .cases h
include hU hT
def a4d{S':PS}{o:Oper}{d:Option Tmp}{t:TypeId}{K:X U->TM U.D->Option W}(ho:o.op= .alloc t)(h:bO6 U T.T M d t K=some r)(Mm:MR U q c0 c M p):
    ∃c' x M' v p',K x M'=some r/\fH P p S' o=some (v,false,p')/\leC c c'/\qB U c' x (v,false)/\MR U q c0 c' M' p'/\(WR U c M p->WR U c' M' p'):=by
 unfold bO6 at h;split at h
 .rename_i d;split at h
  .rename_i ty fh;obtain⟨hf,hk⟩:=rD h;have hz:=hT.zc t ty fh;have hc:=Mm.dom _ hf;have hsr:=Q6 hU ty;obtain⟨g1,g2⟩:=Mm.new (o:= .box ((NO U ty).map λc=>fl c false)) (n:=0) (z:=0) (b:= .bx (.val ⟨ty,pM U ty⟩) (zV U ty)) (Nat.le_add_right 100 d) hf ⟨p.next,_,rfl,by rw[lG,bI rfl],⟨(hsr.fl false).wk,(hsr.fl false).z,λy hy=>by
          obtain⟨z,_,rfl⟩:=List.mem_map.1 hy;exact yG z false⟩,λi s hi=>⟨.emp,by rw[List.getElem?_map,NN hU ty i s hi];rfl,λ_=>rfl⟩⟩
   exact⟨_,_,_,.ptr p.next 0,_,hk,by simp only[fH,ho,hz],kZ hc,⟨⟨_,_,by unfold mS;rw[bI rfl],rfl,rfl⟩,cB _ _⟩,g1,g2⟩
  .cases fj:T.T.fn t with
   |false=>rw[fj]at h;cases h
   |true=>
    rw[fj]at h;obtain⟨hf,hk⟩:=rD h;obtain⟨_,_,hz⟩:=hT.fn t fj;have hc:=Mm.dom _ hf;obtain⟨g1,g2⟩:=Mm.new (o:= .box [(.v .nilFunc,false)]) (n:=0) (z:=0) (b:= .bx .nf []) (Nat.le_add_right 100 d) hf ⟨p.next,_,rfl,by rw[lG,bI rfl],⟨_,rfl⟩,λi s hi=>by cases hi⟩
    exact⟨_,_,_,.ptr p.next 0,_,hk,by simp only[fH,ho,hz];rfl,kZ hc,⟨⟨_,_,by unfold mS;rw[bI rfl],rfl,rfl⟩,cB _ _⟩,g1,g2⟩
 .cases h
omit hT in
def a3V{S:TS U.D}{S':PS}(F:lS U c S S'){o:Oper}{d:Option Tmp}{t:TypeId}{x:Operand}{K:X U->TM U.D->Option W}(ho:o.op= .box t x)(h:bOZ U T.T M d t (jL U S x) K=some r)(Mm:MR U q c0 c M p):
    ∃c' x M' v p',K x M'=some r/\fH P p S' o=some (v,false,p')/\leC c c'/\qB U c' x (v,false)/\MR U q c0 c' M' p'/\(WR U c M p->WR U c' M' p'):=by
 have rx:=dM F x;unfold bOZ at h;split at h
 .rename_i d;split at h
  .rename_i ty fh;split at h
   .rename_i v hv;obtain⟨hf,hk⟩:=rD h;obtain⟨gp,ku⟩:=lI hU hv rx.1;have hsr:=VR.sr ku;have hc:=Mm.dom _ hf;have kv:=(uG rx).2;obtain⟨g1,g2⟩:=Mm.new (o:= .box ((dE S' x).cells.map λc=>fl c false)) (n:=0) (z:=0) (b:= .bx (.val v) (sW U (jL U S x)).2) (Nat.le_add_right 100 d) hf ⟨p.next,_,rfl,by rw[lG,bI rfl],⟨(hsr.fl false).wk,(hsr.fl false).z,λy hy=>by
            obtain⟨z,_,rfl⟩:=List.mem_map.1 hy;exact yG z false⟩,aDv kv ku⟩
    exact⟨_,_,_,.ptr p.next 0,_,hk,by simp only[fH,ho,hsr.one hU,aI],kZ hc,⟨⟨_,_,by unfold mS;rw[bI rfl],rfl,rfl⟩,cB _ _⟩,g1,g2⟩
   .cases h
  .split at h
   .rename_i f caps hx;obtain⟨hf,hk⟩:=rD h;have h1:=rx.1;rw[hx]at h1;obtain⟨ps,jz,fb⟩:=h1;have hc:=Mm.dom _ hf;obtain⟨g1,g2⟩:=Mm.new (o:= .box [(.fn f [] ps,false)]) (n:=0) (z:=0) (b:= .bx (.cl f caps) []) (Nat.le_add_right 100 d) hf ⟨p.next,_,rfl,by rw[lG,bI rfl],⟨_,_,rfl,ps,rfl,LQ (kZ hc) fb⟩,λi s hi=>by cases hi⟩
    have jz:dE S' x= .fn f [] ps:=jz;exact⟨_,_,_,.ptr p.next 0,_,hk,by simp only[fH,ho,jz];rfl,kZ hc,⟨⟨_,_,by unfold mS;rw[bI rfl],rfl,rfl⟩,cB _ _⟩,g1,g2⟩
   .cases h
 .cases h
omit hT in
def OM(e:Ty): ∀n,jD (wks (NO U e)) n=((wH (pM U e) n).map (dP U e)).flatMap PV.cells
 |0=>rfl
 |n+1=>by rw[jD,wH,aO,aN,OM e n,Q5 hU]
omit hU hT in
def DM{N:Type}(x:N): ∀n,(wH x n).length=n
 |0=>rfl
 |n+1=>by rw[wH,aM,DM x n]
def a1e{S:TS U.D}{S':PS}(F:lS U c S S'){o:Oper}{d:Option Tmp}{t:TypeId}{l k:Operand}{K:X U->TM U.D->Option W}(ho:o.op= .makeSlice t l k)(h:bLC U T.T M d t (bMc l) T.el (jL U S l).1 (jL U S k).1 K=some r)(Mm:MR U q c0 c M p):
    ∃c' x M' v own p',K x M'=some r/\fH P p S' o=some (v,own,p')/\leC c c'/\qB U c' x (v,own)/\MR U q c0 c' M' p'/\(WR U c M p->WR U c' M' p'):=by
 have rl:=(dM F l).1;have rk:=(dM F k).1;unfold bLC at h;split at h
 .rename_i et fc n m fh so hl hk;rw[hl]at rl;rw[hk]at rk;have el:dE S' l= .v (.int .i64 n):=jB rl;have ek:dE S' k= .v (.int .i64 m):=jB rk;clear rl rk hl hk;obtain⟨n',hn'⟩: ∃n':Int,n'=n:=⟨n,rfl⟩;subst hn';obtain⟨m',qk⟩: ∃m':Int,m'=m:=⟨m,rfl⟩;subst qk;obtain⟨hc,h⟩:=fT h;simp only[aC,aD]at hc;obtain⟨⟨⟨hc1,hc2⟩,hc3⟩,hc4⟩:=hc;obtain⟨eid',hu,gq,gi⟩:=hT.un t _ fh;rw[so]at gi;cases gi;obtain⟨info,z,hi,ci,hby,hb1,hz,jc,hzc,hzp⟩:=hT.inf fc et gq;have jb:=hT.ag fc et gq;have jz:=pZ hU et;have c0: ∀(n' m':Int),0<=n'->n'<=m'->m'*(T.T.by' fc:Int)<=1073741824->m'<=1073741824->(decide (0<=n')&&decide (n'<=m')&&decide (m'*(info.bytes:Int)<=1073741824)&&decide (m'<=1073741824)&&z.cells.toList.all bQ&&Nat.beq z.cells.size info.size&&Nat.ble 1 info.size&&(lO et||Nat.beq info.size 1))=true:=by
   intro n' m' hc1 hc2 hc3 hc4;rw[jc,ci,hby,hzp,Nat.beq_refl,(by rw[Nat.ble_eq];exact jz:Nat.ble 1 (dN U et)=true),bF hc1,bF hc2,bF hc3,bF hc4]
   cases et<;>rfl
  have c1:=c0 n' m' hc1 hc2 hc3 hc4;have qz:fH P p S' o=bif decide (n'=0)then some (.sl info.size [],true,p)else bif decide (n'=m')then some (.rs p.next 0 n'.toNat,false,p.new (.row info.size (lO et) (jD (wks (ofVs z.cells.toList)) n'.toNat)))else none:=by
   simp only[fH,ho,hu,el,ek,hi,jb,hz,c1,aI]
  have pg:VR U (.sl et) [] (.sl (dN U et) []):=⟨rfl,λj z' hj=>by
   cases j with
   |zero=>simp only[PV.cells,aU,aA,PV.sl.injEq]at hj;exact⟨et,rfl,hj.1.symm⟩
   |succ j=>simp[PV.cells]at hj⟩
  cases ni:bMc l with
  |true=>
   rw[ni]at h;obtain⟨hn,h⟩:=fT h;have hn:=of_decide_eq_true hn;refine⟨c,_,_,.sl (dN U et) [],true,p,h,?_,leC.refl c,⟨pg,?_⟩,Mm,λhw=>hw⟩
   .rw[qz,bF hn,aI,ci]
   .intro i s hi;simp only[List.mem_singleton,aB]at hi;exact .inr ⟨hi.1,rfl,rfl,λe=>by rw[hi.2]at e;cases e⟩
  |false=>
   rw[ni]at h;obtain⟨hn,h⟩:=fT h;have hn:=of_decide_eq_true hn;cases d with
   |none=>cases h
   |some d=>
    obtain⟨hf,hk⟩:=rD h;have hcn:=Mm.dom _ hf;by_cases h0:n'=0
    .have h00:n'.toNat=0:=by omega
     obtain⟨g1,g2⟩:=Mm.new0 (b:= .row et (wH (pM U et) n'.toNat)) (n:=0) (z:=dN U et) (Nat.le_add_right 100 d) hf ⟨by rw[DM,h00],rfl,.inl ⟨rfl,by rw[h00];rfl⟩⟩
     refine⟨_,_,_,.sl (dN U et) [],true,p,hk,by rw[qz,bF h0,aI,ci],kZ hcn,⟨⟨_,by unfold mS;rw[bI rfl],.inl ⟨rfl,rfl,.inl rfl⟩⟩,cB _ _⟩,g1,g2⟩
    .obtain⟨g1,g2⟩:=Mm.new (o:= .row (dN U et) (lO et) (jD (wks (ofVs z.cells.toList)) n'.toNat)) (b:= .row et (wH (pM U et) n'.toNat)) (n:=n'.toNat) (z:=dN U et) (Nat.le_add_right 100 d) hf ⟨by rw[DM],rfl,.inr ⟨p.next,rfl,by rw[lG,bI rfl,hzc,OM hU]⟩⟩
     refine⟨_,_,_,.rs p.next 0 n'.toNat,false,_,hk,by rw[qz,bG h0,aJ,bF hn,aI,ci],kZ hcn,⟨⟨_,by unfold mS;rw[bI rfl],.inr ⟨_,rfl,by
      have k1:(0:Int)<=n':=hc1;have k2: ¬(n':Int)=0:=h0;simp only;omega,rfl⟩⟩,cB _ _⟩,g1,g2⟩
 .cases h
omit hT in
def sI{n:Nat}: ∀(l:List (U.D n)),oY (U.sz n) l.length ((l.map (dP U (.rc n))).flatMap PV.cells)=l.map (dP U (.rc n))
 |[]=>rfl
 |x::l=>by
  rw[aM,oY,aO,aN];have hl:(dP U (.rc n) x).cells.length=U.sz n:=jC hU (.rc n) x;rw[List.take_left' hl,List.drop_left' hl,sI l];rfl
omit hU hT in
def PY{t:Ty}(h:lO t=false): ∀(l:List (Den U.D t)),(l.map (dP U t)).flatMap PV.cells=l.map (dP U t)
 |[]=>rfl
 |x::l=>by
  rw[aO,aN,PY h l];have:(dP U t x).cells=[dP U t x]:=by
   cases t with
   |rc n=>cases h
   |sl t=>exact oV (eZ _ _)
   |_=>rfl
  rw[this];rfl
omit hU hT in
def PP{p:PSt}{x:PV×Bool}(h: ∀id off len,x.1≠ .rs id off len):bGK p x=some (x,p):=by
 obtain⟨pv,b⟩:=x;cases pv with
 |rs id off len=>exact(h id off len rfl).elim
 |_=>rfl
omit hU hT in
def OC{S0:TS U.D}{S':PS}{t:Nat}(F:lS U c S0 S'):lS U c S0 (S'.set t (S'.at t)):=λk=>by
 rw[qL];by_cases e:k=t
 .rw[bI e,<-e];exact F k
 .rw[bH e];exact F k
omit hT in
def Sq{S:TS U.D}{S':PS}(F:lS U c S S'){t:Nat}{R:TS U.D×TM U.D}(h:a6e U S M t=some R)(Mm:MR U q c0 c M p):
    ∃S'' p',jZ p S' t=some (S'',p')/\lS U c R.1 S''/\MR U q c0 c R.2 p'/\(WR U c M p->WR U c R.2 p'):=by
 have hs:=F t;have same: ∀{x:SV U.D} {r:jF},lQ S t=(x,r)->(∀id off len,(S'.at t).1≠ .rs id off len)->R=((t,(x,r))::S,M)->
      ∃S'' p',jZ p S' t=some (S'',p')/\lS U c R.1 S''/\MR U q c0 c R.2 p'/\(WR U c M p->WR U c R.2 p'):=by
  intro x r hx bp hR;subst hR;refine⟨S'.set t (S'.at t),p,by simp only[jZ,PP bp],?_,Mm,λhw=>hw⟩
  exact OC (PQ F (show qB U c (x,r) (S'.at t) by rw[<-hx];exact hs))
 unfold a6e at h;split at h
 .rename_i k rr hx;split at h
  .rename_i e l hf;simp only[aA]at h;subst h;have h1:=hs.1;rw[hx]at h1;obtain⟨ce,pq,h1⟩:=h1;obtain⟨ce',hce',hn,hz,bh⟩:=Mm.bx k _ hf;rw[pq]at hce';cases hce';rcases h1 with⟨hid,hn0,hp⟩|⟨id,hid,hn1,hp⟩
   .have hl:l=[]:=List.length_eq_zero_iff.1 (by omega)
    subst hl;refine⟨S'.set t (S'.at t),p,by rw[jZ,PP (by rcases hp with hp|hp<;>(rw[hp];intro _ _ _ e;cases e))],?_,Mm.gone hf _,λhw i hi j e' g1 g2=>by
     show(Nat.beq k j||eA j M.wr)=true;rw[hw i hi j e' g1 g2,Bool.or_true]⟩
    refine sH F ⟨?_,cB _ _⟩;show VR U (.sl e) [] (S'.at t).1;rcases hp with hp|hp
    .rw[hp,hz];exact⟨rfl,λj z' hj=>by
      cases j with
      |zero=>simp only[PV.cells,aU,aA,PV.sl.injEq]at hj;exact⟨e,rfl,hj.1.symm⟩
      |succ j=>simp[PV.cells]at hj⟩
    .rw[hp];exact AV e [] (z:=dN U e) (es:=[]) rfl rfl
   .rcases bh with⟨dg,_⟩|⟨bu,dr,bc⟩
    .rw[hid]at dg;cases dg
    .rw[hid]at dr;cases dr;have kd:((l.map (dP U e)).flatMap PV.cells).length=l.length*dN U e:=by
      have:=iL (z:=dN U e) (es:=l.map (dP U e)) (λe' fq=>by obtain⟨a,_,rfl⟩:=List.mem_map.1 fq;exact jC hU _ _)
      rw[List.length_map]at this;exact this
     have hpur:((l.map (dP U e)).flatMap PV.cells).all PV.pur=true:=by
      rw[bJ];intro x hx;obtain⟨y,hy,hx⟩:=List.mem_flatMap.1 hx;obtain⟨a,_,rfl⟩:=List.mem_map.1 hy;exact a3d (bJ.1 (tF hU e a) x hx)
     have jz:=pZ hU e;have c1:(Nat.ble (0+ce.n*ce.z) ((l.map (dP U e)).flatMap PV.cells).length&&Nat.ble 1 ce.z&&(lO e||Nat.beq ce.z 1)&&((l.map (dP U e)).flatMap PV.cells).all PV.pur)=true:=by
      rw[kd,hpur,hz,hn,Nat.zero_add,(by rw[Nat.ble_eq];exact aS _:Nat.ble (l.length*dN U e) (l.length*dN U e)=true),(by rw[Nat.ble_eq];exact jz:Nat.ble 1 (dN U e)=true)]
      cases e<;>rfl
     have lk:(bif lO e then oY ce.z ce.n ((((l.map (dP U e)).flatMap PV.cells).drop 0).take (ce.n*ce.z))else((((l.map (dP U e)).flatMap PV.cells).drop 0).take (ce.n*ce.z)))=l.map (dP U e):=by
      rw[List.drop_zero,List.take_of_length_le (by rw[kd,hn,hz];exact aS _)]
      cases hr:lO e with
      |true=>
       cases e with
       |rc n=>rw[aI,hz,hn];exact sI hU l
       |_=>cases hr
      |false=>rw[aJ];exact PY hr l
     have hat:S'.at t=(.rs id 0 ce.n,(S'.at t).2):=by rw[<-hp]
     obtain⟨m1,m2⟩:=Mm.upd (o:= .gone) (b':= .gone) hf pq hid trivial;refine⟨S'.set t (eD ce.z (l.map (dP U e)),false),p.upd id .gone,?_,?_,m1,m2⟩
     .rw[jZ,hat];simp only[bGK,bc,c1,aI,lk]
     .exact sH F ⟨AV _ _ hz rfl,cB _ _⟩
  .cases h
 .rename_i v rr hx;simp only[aA]at h;refine same hx ?_ h.symm;intro id off len e;have h1:=hs.1;rw[hx]at h1;have h2:VR U v.t v.x (S'.at t).1:=h1;have h3:=h2.wk;rw[e]at h3;obtain⟨vt,vx⟩:=v;cases vt with
  |sl t=>have:=eZ (dN U t) (List.map (dP U t) vx);simp only[dP]at h3;rw[<-h3]at this;cases this
  |_=>cases h3
 .rename_i rr hx;simp only[aA]at h;refine same hx ?_ h.symm;intro id off len e;have h1:=hs.1;rw[hx]at h1;have h2:(S'.at t).1= .nil:=h1;rw[h2]at e;cases e
 .rename_i f caps rr hx;simp only[aA]at h;refine same hx ?_ h.symm;intro id off len e;have h1:=hs.1;rw[hx]at h1;obtain⟨ps,h2,_⟩:=h1;rw[h2]at e;cases e
 .cases h
end
end Go.TV
namespace Go.TV
open Go.AI Go.PI
section
variable{P:Program}{U:iR}{T:TP U.D}{c c0:Cx}{W:Type}{r:W}{q p:PSt}{M:TM U.D}
def DX{S':PS}{x:Operand}(h:(iO S' x||kS (dE S' x))=true):iO S' x=true:=by
 cases x with
 |tmp t=>simpa [iO,dE,Bool.or_assoc]using h
 |const v=>
  cases v with
  |slice b l k=>
   cases b with
   |none=>rfl
   |some b=>simp[iO,dE,A3,kS]at h
  |_=>simp[iO,dE,A3,kS]at h
 |global g=>simp[iO,dE,kS]at h
 |func f=>simp[iO,dE,kS]at h
variable(hU:iM U)(hT:rN P U T)
include hU hT
def a4a{S:TS U.D}{S':PS}(F:lS U c S S'){cl:Call}{s x:Operand}{K:X U->Option W}(h:bO5 U T.T T.el cl.argTypes.toList (jL U S s) (jL U S x).1 K=some r):
    ∃y v own,K y=some r/\vE P S' cl s x=some (v,own,mU S' s)/\qB U c y (v,own):=by
 have rs:=dM F s;have rx:=(dM F x).1;unfold bO5 at h;split at h
 .rename_i t t1 jy;split at h
  .rename_i et fc e1 fh so hty1;split at h
   .rename_i a l b w hs hx;split at h
    .rename_i l' w' hl hw;obtain⟨bw,mo⟩:=lI hU hs rs.1;obtain⟨hxt,hxv⟩:=lI hU hx rx;have e2:=oX hl;have e3:=oX hw;have mo:VR U (.sl et) l' (dE S' s):=by
      have:VR U (⟨a,l⟩:TV U.D).t (⟨a,l⟩:TV U.D).x (dE S' s):=mo;rw[e2]at this;exact this
     have hxv:VR U (.sl et) w' (dE S' x):=by
      have:VR U (⟨b,w⟩:TV U.D).t (⟨b,w⟩:TV U.D).x (dE S' x):=hxv;rw[e3]at this;exact this
     obtain⟨eid',hu,gq,gi⟩:=hT.un t _ fh;rw[so]at gi;cases gi;obtain⟨eid1,hu1,_⟩:=hT.un t1 _ hty1;obtain⟨info,z,hi,ci,hby,hb1,hz,jc,hzc,hzp⟩:=hT.inf fc et gq;obtain⟨g1,g2⟩:=sU mo;obtain⟨k1,k2⟩:=sU hxv;have c1:(Nat.ble 1 info.size&&Nat.ble 1 info.bytes&&Nat.beq z.cells.size info.size)=true:=by
      rw[jc,Nat.beq_refl,ci,(by rw[Nat.ble_eq];exact pZ hU et:Nat.ble 1 (dN U et)=true),(by rw[Nat.ble_eq];exact hb1:Nat.ble 1 info.bytes=true)];rfl
     have me:isAgg (dE S' s)=false:=oH (v:=⟨.sl et,l'⟩) mo rfl;have re:vE P S' cl s x=(match w'.map (dP U et)with
              |[]=>some (dE S' s,iO S' s,mU S' s)
              |xs=>bif iO S' s&&Nat.ble (((l'.map (dP U et)).length+(w'.map (dP U et)).length)*info.bytes) 1073741824 then some (eD info.size (l'.map (dP U et)++w'.map (dP U et)),true,mU S' s)else none):=by
      have e4:oW info.size (dE S' s)=some (l'.map (dP U et)):=by rw[ci];exact g1
      have e5:vD info.size (.slice eid1) (dE S' x)=some (w'.map (dP U et)):=by rw[ci];exact k1
      simp only[vE,jy,hu,hu1,hi,e4,e5,hz,c1,aI];rfl
     cases hm:Eb 0 (jL U S s).2 with
     |true=>
      rw[hm]at h;obtain⟨hc,h⟩:=fT h;obtain⟨st,hst2⟩:=uE.1 hm;have how:iO S' s=true:=by
       rcases rs.2 0 st hst2 with⟨h1,_⟩|⟨_,_,h1,_⟩
       .rw[me]at h1;cases h1
       .exact DX h1
      cases w' with
      |nil=>
       refine⟨_,dE S' s,iO S' s,h,by rw[re];rfl,?_,rs.2⟩
       show VR U (.sl et) (l'++ []) (dE S' s);rw[bA];exact mo
      |cons w0 w'=>
       refine⟨_,eD info.size (l'.map (dP U et)++(w0::w').map (dP U et)),true,h,?_,AV _ _ ci (by rw[<-List.map_append]),?_⟩
       .rw[re,how];simp only[aO,List.length_map,aM,hby];have mh:Nat.ble ((l'.length+(w'.length+1))*T.T.by' fc) 1073741824=true:=hc
        rw[mh];rfl
       .intro o s' ka;have hg:=eZ info.size (l'.map (dP U et)++(w0::w').map (dP U et));rcases rs.2 o s' ka with⟨h1,_⟩|⟨h1,_⟩
        .rw[me]at h1;cases h1
        .refine .inr ⟨h1,?_,rfl,λ_=>Bp hg⟩
         cases hc:eD info.size (l'.map (dP U et)++(w0::w').map (dP U et))<;>first|rfl|(rw[hc]at hg;cases hg)
     |false=>
      rw[hm]at h;obtain⟨hc,h⟩:=fT h;cases w' with
      |nil=>exact⟨_,dE S' s,iO S' s,h,by rw[re];rfl,mo,cB _ _⟩
      |cons w0 w'=>cases hc
    .cases h
   .cases h
  .cases h
 .cases h
def aQo{S:TS U.D}{S':PS}(F:lS U c S S'){ts:List TypeId}{t1 t2:TypeId}{s zz n x:Operand}{K:V U->V U->Option W}(h:a4b U T.T T.el ts t1 t2 (jL U S s) (jL U S zz).1 (jL U S n).1 (jL U S x).1 K=some r):
    ∃y w v,K y w=some r/\Xn P ts t1 t2 (dE S' s) (iO S' s) (dE S' zz) (dE S' n) (dE S' x)=some v/\qB U c (.val y,[(0,true)]) (v,true)/\tN U c (.ep w) (aBX v):=by
 have rs:=dM F s;have rz:=(dM F zz).1;have rn:=(dM F n).1;have rx:=(dM F x).1;unfold a4b at h;split at h
 .rename_i t tz;split at h
  .rename_i et fc e1 fh so hty1;split at h
   .rename_i a l b y kk k v hs hz hn hx;split at h
    .rename_i l' y0 w' hl hy hw;rw[hn]at rn;cases hb:Eb 0 (jL U S s).2&&Nat.beq t1 t&&Nat.beq t2 fc with
     |false=>rw[hb]at h;cases h
     |true=>
      rw[hb]at h;simp only[aC,dJ,aD]at hb;obtain⟨⟨hm,rfl⟩,rfl⟩:=hb;obtain⟨hc,h⟩:=fT h;simp only[aC,aD]at hc;obtain⟨bw,mo⟩:=lI hU hs rs.1;obtain⟨hzt,hzv⟩:=lI hU hz rz;obtain⟨hxt,hxv⟩:=lI hU hx rx;have e2:=oX hl;have e3:=oX hy;have e4:=oX hw;have mo:VR U (.sl et) l' (dE S' s):=by
       have:VR U (⟨a,l⟩:TV U.D).t (⟨a,l⟩:TV U.D).x (dE S' s):=mo;rw[e2]at this;exact this
      have hzv:VR U (.sl et) [y0] (dE S' zz):=by
       have:VR U (⟨b,y⟩:TV U.D).t (⟨b,y⟩:TV U.D).x (dE S' zz):=hzv;rw[e3]at this;exact this
      have hxv:VR U et w' (dE S' x):=by
       have:VR U (⟨v.t,v.x⟩:TV U.D).t (⟨v.t,v.x⟩:TV U.D).x (dE S' x):=hxv;rw[e4]at this;exact this
      obtain⟨eid',hu,gq,gi⟩:=hT.un t1 _ fh;rw[so]at gi;cases gi;obtain⟨eid1,hu1,_⟩:=hT.un tz _ hty1;obtain⟨info,z,hi,ci,hby,hb1,nj,jc,hzc,hzp⟩:=hT.inf t2 et gq;obtain⟨g1,g2⟩:=sU mo;obtain⟨k1,_⟩:=sU hzv;have me:isAgg (dE S' s)=false:=oH (v:=⟨.sl et,l'⟩) mo rfl;obtain⟨st,hst2⟩:=uE.1 hm;have how:iO S' s=true:=by
       rcases rs.2 0 st hst2 with⟨h1,_⟩|⟨_,_,h1,_⟩
       .rw[me]at h1;cases h1
       .exact DX h1
      have e5:oW info.size (dE S' s)=some (l'.map (dP U et)):=by rw[ci];exact g1
      have e6:vD info.size (.slice eid1) (dE S' zz)=some [dP U et y0]:=by rw[ci];exact k1
      have e7:dE S' n= .v (.int kk k):=jB rn;have hlen:((l'.map (dP U et)).length+1)*info.bytes=(l'.length+1)*T.T.by' t2:=by rw[List.length_map,hby]
      have hlen2:(k:Int)=((l'.map (dP U et)).length:Int):=by rw[List.length_map];exact hc.2
      have c1:(Nat.ble 1 info.size&&Nat.ble 1 info.bytes&&Nat.beq z.cells.size info.size&&iO S' s&&Nat.ble (((l'.map (dP U et)).length+1)*info.bytes) 1073741824&&Nat.beq t1 t1&&Nat.beq t2 t2&&decide ((k:Int)=((l'.map (dP U et)).length:Int))&&PI.shape (lO et) info.size (dE S' x))=true:=by
       rw[hlen,hc.1,bF hlen2,jc,ci,tO hU hxv,how,(by rw[Nat.ble_eq];exact pZ hU et:Nat.ble 1 (dN U et)=true),(by rw[Nat.ble_eq];exact hb1:Nat.ble 1 info.bytes=true)]
       simp only[Nat.beq_refl,Bool.and_self]
      have bp:l'.map (dP U et)++ [wk (dE S' x)]≠ []:=by simp
      have lp:PV.sl info.size (l'.map (dP U et)++ [wk (dE S' x)])=eD info.size (l'.map (dP U et)++ [wk (dE S' x)]):=by
       cases hh:l'.map (dP U et)++ [wk (dE S' x)]with
       |nil=>exact(bp hh).elim
       |cons a b=>rfl
      refine⟨_,_,eD info.size (l'.map (dP U et)++ [wk (dE S' x)]),h,?_,⟨AV _ _ ci (by rw[List.map_append,hxv.wk];rfl),?_⟩,?_⟩
      .simp only[Xn,hu,hu1,hi,hT.ag _ _ gq,e5,e6,nj,e7];rw[c1,<-lp];rfl
      .intro o s' ka;simp only[List.mem_singleton,aB]at ka;have hg:=eZ info.size (l'.map (dP U et)++ [wk (dE S' x)]);refine .inr ⟨ka.1,?_,rfl,λ_=>Bp hg⟩
       cases hc:eD info.size (l'.map (dP U et)++ [wk (dE S' x)])<;>first|rfl|(rw[hc]at hg;cases hg)
      .rw[<-lp];refine⟨_,_,0,wk (dE S' x),rfl,by simp,?_⟩
       rw[hxv.wk,List.drop_zero];exact List.take_of_length_le (Nat.le_of_eq (jC hU et w'))
    .cases h
   .cases h
  .cases h
 .cases h
end
end Go.TV
namespace Go.TV
open Go.AI Go.PI
section
variable{P:Program}{U:iR}{T:TP U.D}{c c0:Cx}{W:Type}{r:W}{q p:PSt}{M:TM U.D}
structure Gc(U:iR)(s:QJ)(d:List (V U))(p:PSt)(cc:Cx)(args:List (PV×Bool))(S0:TS U.D)(M0:TM U.D):Prop where
 start:IS U (cutOf s) d=some (S0,M0)
 len:args.length=s.ps.length
 args: ∀i y,args[i]?=some y->qB U cc (lQ S0 i) y
 bx: ∀j b,dQ M0.bx j=some b->∃e,cc j=some e/\CX U cc p e b
 dom: ∀j,s.bx.length<=j->cc j=none
 lt: ∀j e id,cc j=some e->e.id=some id->id<p.next
 inj: ∀k k' e e' id,cc k=some e->cc k'=some e'->e.id=some id->e'.id=some id->k=k'
 wr: ∀id,id∈p.wr->id<p.next
structure aAq(U:iR)(s:QJ)(out:List (V U))(p:PSt)(cc:Cx)(pv:PV)(own:Bool)(p':PSt):Prop where
 res:qB U cc (CQ U s.own (out.take s.rs.length)) (pv,own)
 out: ∃m,fV U s.bx s.bo (out.drop s.rs.length)=some m/\∀j x,m[j]?=some x->∃e,cc j=some e/\CX U cc p' e x
 next:p'.next=p.next
 get: ∀id,id<p.next->(∀j e,cc j=some e->e.id≠some id)->p'.get id=p.get id
 get2: ∀id,id<p.next->id∉p'.dirty->p'.get id=p.get id
 dirty: ∀id,id∈p'.dirty->id∈p.dirty∨∃j e,cc j=some e/\e.id=some id
 dirty2: ∀id,id∈p.dirty->id∈p'.dirty
 wr: ∀id,id∈p'.wr->id∈p.wr∨∃j e,cc j=some e/\e.id=some id
def CallOK(U:iR)(T:TP U.D)(tc:pF U.D)(pc:hY):Prop:=
 ∀inst s d out,T.sig inst=some s->tc inst d=some out->∀p cc args S0 M0,Gc U s d p cc args S0 M0->∃pv own p',pc s.f args p=some (pv,own,p')/\aAq U s out p cc pv own p'
def kK(c:Cx)(bk:List Nat):Cx:=λj=>if j<bk.length then c (jR bk j)else none
def zU: ∀(l:List Nat) (i:Nat),i<l.length->l[i]?=some (jR l i)
 |x::l,0,_=>rfl
 |x::l,i+1,h=>by rw[aT];exact zU l i (by simpa using h)
 |[],i,h=>by simp at h
def vM: ∀{a b:List Nat},wM a b=true->a=b
 |[],[],_=>rfl
 |x::a,y::b,h=>by
  simp only[wM,aC,dJ,aD]at h;rw[h.1,vM h.2]
 |[],_::_,h=>by cases h
 |_::_,[],h=>by cases h
def jI{i:Nat}: ∀{l:List Nat},eA i l=true↔i∈l
 |[]=>by simp[eA]
 |x::l=>by
  simp only[eA,Bool.or_eq_true,dJ,aD,jI (l:=l),List.mem_cons];exact or_congr eq_comm Iff.rfl
def B9: ∀{l:List Nat},Pu l=true->l.Nodup
 |[],_=>List.nodup_nil
 |x::l,h=>by
  simp only[Pu,aC,Bool.not_eq_true']at h;refine List.nodup_cons.2 ⟨λhm=>?_,B9 h.2⟩
  rw[jI.2 hm]at h;cases h.1
def aOw{bk:List Nat}(h:bk.Nodup){i j:Nat}(hi:i<bk.length)(hj:j<bk.length)(e:jR bk i=jR bk j):i=j:=by
 have h1:=zU bk i hi;have h2:=zU bk j hj;rw[<-e,<-h1]at h2;exact((List.getElem?_inj hj h).1 h2).symm
def LR{bk:List Nat}: ∀{caps:List Nat} {ps:List PV},uR caps bk.length=true->(wN c (Kp (jR bk) caps) ps↔wN (kK c bk) caps ps)
 |[],[],_=>Iff.rfl
 |k::ks,x::ps,h=>by
  simp only[uR,aC,iF,aD]at h;simp only[Kp,wN,kK,bI h.1];exact and_congr Iff.rfl (LR h.2)
 |[],_::_,_=>Iff.rfl
 |_::_,[],_=>Iff.rfl
def Qh{bk:List Nat}: ∀{caps:List Nat} {ps:List PV},wN (kK c bk) caps ps->wN c (Kp (jR bk) caps) ps
 |[],[],_=>trivial
 |k::ks,x::ps,⟨⟨e,id,h1,h2,h3⟩,h4⟩=>by
  unfold kK at h1;split at h1
  .exact⟨⟨e,id,h1,h2,h3⟩,Qh h4⟩
  .cases h1
 |[],_::_,h=>h.elim
 |_::_,[],h=>h.elim
def aCj{bk:List Nat}{s:SV U.D}{cs:List (PV×Bool)}(h:yH U (kK c bk) s cs):yH U c (bBm U bk s) cs:=by
 cases s with
 |cl f caps=>obtain⟨p,b,e,ps,h1,h2⟩:=h;exact⟨p,b,e,ps,h1,Qh h2⟩
 |_=>exact h
def aTj{t:Ty}{x:Den U.D t}{p:PV}(hU:iM U)(h:VR U t x p):VR U t x (wk p):=by
 refine⟨by rw[h.wk,XT hU],?_⟩
 rw[h.wk];exact Dj (tF hU t x)
def T8(U:iR)(c:Cx)(take:Bool):List (X U)->List (PV×Bool)->Prop
 |[],[]=>True
 |x::xs,y::ys=>(∃pv ow,tN U c x.1 pv/\aCQ x.2 pv ow/\y=(wk pv,take&&ow&& !Kw pv)/\(take=false->x.2=[])/\(kS pv=true->ow=true))/\T8 U c take xs ys
 |_,_=>False
def Ck{take:Bool}: ∀{xs xs':List (X U)} {ys ys':List (PV×Bool)},T8 U c take xs ys->T8 U c take xs' ys'->T8 U c take (xs++xs') (ys++ys')
 |[],_,[],_,_,h=>h
 |x::xs,_,y::ys,_,h,h'=>⟨h.1,Ck h.2 h'⟩
 |[],_,_::_,_,h,_=>h.elim
 |_::_,_,[],_,h,_=>h.elim
def Pf{take:Bool}: ∀{args:List Operand} {S:TS U.D} {S':PS},lS U c S S'->lS U c (GW U take S args).2 (lT take S' args).2/\T8 U c take (GW U take S args).1 (lT take S' args).1
 |[],S,S',F=>⟨F,trivial⟩
 |x::xs,S,S',F=>by
  have F1:lS U c (bif take then uF U S x else S) (bif take then mU S' x else S'):=by
   cases take with
   |true=>exact rH F x
   |false=>exact F
  obtain⟨h1,h2⟩:=Pf (args:=xs) F1;have:=dM F x;refine⟨h1,⟨dE S' x,iO S' x,this.1,?_,rfl,λe=>by rw[e];rfl,λh=>DX (by rw[h,Bool.or_true])⟩,h2⟩
  cases take with
  |true=>exact this.2
  |false=>exact cB _ _
def X6{take:Bool}: ∀{caps:List Nat} {ps:List PV},wN c caps ps->T8 U c take (caps.map λk=>(SV.lc k 0 [],[])) (rC ps)
 |[],[],_=>trivial
 |k::ks,x::ps,⟨⟨e,id,h1,h2,h3⟩,h4⟩=>by
  refine⟨⟨x,false,⟨e,id,h1,h2,h3⟩,cB _ _,by rw[Bool.and_false,Bool.false_and],λ_=>rfl,λh=>by rw[h3]at h;cases h⟩,X6 h4⟩
 |[],_::_,h=>h.elim
 |_::_,[],h=>h.elim
def Ew{S:TS U.D}{i k:Nat}{x:X U}(h:k≠i):lQ ((i,x)::S) k=lQ S k:=by rw[vK,bH h]
def rS: ∀{rs:jF},qA rs=true->(0,true)∈rs
 |x::rs,h=>by
  obtain⟨a,b⟩:=x;simp only[qA,Bool.or_eq_true,aC,dJ,aD]at h;rcases h with⟨rfl,rfl⟩|h
  .exact aH ..
  .exact aG _ (rS h)
def G4(hU:iM U){bk:List Nat}{take:Bool}: ∀{ps:List (Sh×Bool)} {xs:List (X U)} {ys:List (PV×Bool)} {d:List (V U)} (i0:Nat) (rest:List (V U)),nJ U bk ps xs=some d->T8 U c take xs ys->
    ys.length=ps.length/\∃S0,aCN U (cutOf.psL ps i0) (d++rest)=some (S0,rest)/\∀i y,ys[i]?=some y->qB U (kK c bk) (lQ S0 (i0+i)) y
 |[],[],[],d,i0,rest,h,_=>by
  simp only[nJ,aA]at h;subst h;exact⟨rfl,[],rfl,λi y hy=>by simp at hy⟩
 |(s,own)::ps,x::xs,y::ys,d,i0,rest,h,⟨⟨pv,ow,r1,r2,hy0,r3,r4⟩,hr⟩=>by
  subst hy0;have fin: ∀(sv:SV U.D) (dv dl:List (V U)),nJ U bk ps xs=some dl->d=dv++dl->Re U s (dv++(dl++rest))=some (sv,dl++rest)->tN U (kK c bk) sv (wk pv)->(own=true->qA x.2=true/\isAgg pv=false)->
        ((wk pv,take&&ow&& !Kw pv)::ys).length=((s,own)::ps).length/\∃S0,aCN U (cutOf.psL ((s,own)::ps) i0) (d++rest)=some (S0,rest)/\∀i y,((wk pv,take&&ow&& !Kw pv)::ys)[i]?=some y->qB U (kK c bk) (lQ S0 (i0+i)) y:=by
   intro sv dv dl hm hd hu hs ho;obtain⟨g1,S0,g2,g3⟩:=G4 hU (i0+1) rest hm hr;refine⟨by rw[aM,aM,g1],(i0,(sv,RW own))::S0,?_,?_⟩
   .rw[hd,aQ];simp only[cutOf.psL,aCN,hu,g2]
   .intro i y hy;cases i with
    |zero=>
     simp only[aU,aA]at hy;subst hy;rw[vK,bI (Nat.add_zero _)];refine⟨hs,?_⟩;cases own with
     |false=>exact cB _ _
     |true=>
      obtain⟨h1,h2⟩:=ho rfl;have hm:=rS h1;intro o st hi;simp only[RW,List.mem_singleton,aB]at hi;have ly:take=true:=by
       cases take with
       |true=>rfl
       |false=>rw[r3 rfl]at hm;cases hm
      rcases r2 _ _ hm with⟨h3,_⟩|⟨_,_,h3,h4⟩
      .rw[h2]at h3;cases h3
      .have how:ow=true:=by
        cases hh:kS pv with
        |true=>exact r4 hh
        |false=>rw[hh,Bool.or_false]at h3;exact h3
       refine .inr ⟨hi.1,?_,?_,λ_=>?_⟩
       .cases pv with
        |agg cs=>cases h2
        |sl z es=>cases es<;>rfl
        |_=>rfl
       .rw[ly,how,h4 rfl];rfl
       .exact aFP pv
    |succ i=>
     rw[aT]at hy;have:=g3 i y hy;rw[Ew (by omega),show i0+(i+1)=i0+1+i by omega]
     exact this
  obtain⟨sx,rx⟩:=x;cases s with
  |val t=>
   simp only[nJ]at h;split at h
   .rename_i v l hv hl;cases hb: !own||(qA rx&& !lO t)with
    |false=>rw[hb]at h;cases h
    |true=>
     rw[hb]at h;simp only[aI,aA]at h;obtain⟨h1,h2⟩:=lI hU hv r1;refine fin (.val v) [v] l hl h.symm ?_ (aTj hU h2) ?_
     .simp only[aR,Re,h1,Ty.beq_rfl,aI]
     .intro ho;rw[ho]at hb;simp only[bD,Bool.false_or,aC,Bool.not_eq_true']at hb;exact⟨hb.1,oH h2 (by rw[h1];exact hb.2)⟩
   .cases h
  |lc j off path=>
   cases sx with
   |lc k ff mj=>
    simp only[nJ]at h;cases hb: !own&&Nat.blt j bk.length&&Nat.beq k (jR bk j)&&Nat.beq off ff&&wM path mj with
    |false=>rw[hb]at h;cases h
    |true=>
     rw[hb]at h;simp only[aI]at h;simp only[aC,iF,dJ,aD,Bool.not_eq_true']at hb;obtain⟨⟨⟨⟨h0,h1⟩,h2⟩,h3⟩,h4⟩:=hb;obtain⟨e,id,g1,g2,g3⟩:=r1;refine fin (.lc j off path) [] d h rfl rfl ⟨e,id,?_,g2,by rw[g3,h3];rfl⟩ (λho=>by rw[h0]at ho;cases ho)
     unfold kK;rw[bI h1,<-h2];exact g1
   |_=>cases h
  |cl f caps=>
   cases sx with
   |cl f' co=>
    simp only[nJ]at h;cases hb: !own&&Nat.beq f f'&&uR caps bk.length&&wM (Kp (jR bk) caps) co with
    |false=>rw[hb]at h;cases h
    |true=>
     rw[hb]at h;simp only[aI]at h;simp only[aC,dJ,aD,Bool.not_eq_true']at hb;obtain⟨⟨⟨h0,h1⟩,h2⟩,h3⟩:=hb;obtain⟨qs,g1,g2⟩:=r1;refine fin (.cl f caps) [] d h rfl rfl ⟨qs,by rw[g1,h1];rfl,(LR h2).1 (by rw[vM h3];exact g2)⟩ (λho=>by rw[h0]at ho;cases ho)
   |_=>cases h
  |rw j=>
   cases sx with
   |rw k=>
    simp only[nJ]at h;cases hb: !own&&Nat.blt j bk.length&&Nat.beq k (jR bk j)with
    |false=>rw[hb]at h;cases h
    |true=>
     rw[hb]at h;simp only[aI]at h;simp only[aC,iF,dJ,aD,Bool.not_eq_true']at hb;obtain⟨⟨h0,h1⟩,h2⟩:=hb;obtain⟨e,g1,g2⟩:=r1;refine fin (.rw j) [] d h rfl rfl ⟨e,?_,?_⟩ (λho=>by rw[h0]at ho;cases ho)
     .unfold kK;rw[bI h1,<-h2];exact g1
     .rcases g2 with⟨k1,k2,rfl|rfl⟩|⟨id,k1,k2,rfl⟩
      .exact .inl ⟨k1,k2,.inr rfl⟩
      .exact .inl ⟨k1,k2,.inr rfl⟩
      .exact .inr ⟨id,k1,k2,rfl⟩
   |_=>cases h
  |_=>cases h
 |[],_::_,_,d,i0,rest,h,_=>by cases h
 |(s,o)::_,[],_,d,i0,rest,h,_=>by cases s<;>cases h
 |_,[],_::_,d,i0,rest,h,hr=>hr.elim
 |_,_::_,[],d,i0,rest,h,hr=>hr.elim
end
end Go.TV
namespace Go.TV
open Go.AI Go.PI
section
variable{P:Program}{U:iR}{T:TP U.D}{c c0:Cx}{W:Type}{r:W}{q p:PSt}{M:TM U.D}
def XC{x:Nat×Bool}: ∀{rs:jF},leR.memW x rs=true->∃s,(x.1,s)∈rs/\(x.2=true->s=true)
 |y::ys,h=>by
  simp only[leR.memW,Bool.or_eq_true,aC,dJ,aD,Bool.not_eq_true']at h;rcases h with⟨h1,h2⟩|h
  .refine⟨y.2,by rw[h1];exact aH ..,λe=>?_⟩
   rcases h2 with h2|h2
   .rw[e]at h2;cases h2
   .exact h2
  .obtain⟨s,h1,h2⟩:=XC h;exact⟨s,aG _ h1,h2⟩
def R8: ∀{rs fy:jF},leR rs fy=true->∀o s,(o,s)∈rs->∃s',(o,s')∈fy/\(s=true->s'=true)
 |x::rs,fy,h,o,s,hm=>by
  simp only[leR,aC]at h;rcases List.mem_cons.1 hm with rfl|hm
  .exact XC h.1
  .exact R8 h.2 o s hm
def JA{rs fy:jF}{cs:List (PV×Bool)}(h:leR rs fy=true)(hb:bIH fy cs):bIH rs cs:=λo s hm=>by
 obtain⟨s',h1,h2⟩:=R8 h o s hm;obtain⟨x,h3,h4⟩:=hb o s' h1;exact⟨x,h3,λe=>h4 (h2 e)⟩
def aYX{rs fy:jF}{pv:PV}{ow:Bool}(h:leR rs fy=true)(hb:aCQ fy pv ow):aCQ rs pv ow:=λo s hm=>by
 obtain⟨s',h1,h2⟩:=R8 h o s hm;rcases hb o s' h1 with h3|⟨h3,h4,h5,h6⟩
 .exact .inl h3
 .exact .inr ⟨h3,h4,h5,λe=>h6 (h2 e)⟩
def Bj{bk:List Nat}(Mm:MR U q c0 c M p): ∀{l:List (Sh×jF)} {j:Nat} {e:List (V U)} (rest:List (V U)),Ec U bk M l j=some e->j+l.length<=bk.length->
    ∃M0,CN U (cutOf.bxL l j) (e++rest)=some (M0,rest)/\(∀i b,dQ M0 i=some b->∃ce,kK c bk i=some ce/\CX U (kK c bk) p ce b)/\(∀i,i<l.length->dQ M.bx (jR bk (j+i))≠none)
 |[],j,e,rest,h,_=>by
  simp only[Ec,aA]at h;subst h;exact⟨[],rfl,λi b h=>(by cases h),λi h=>(by simp at h)⟩
 |(s,rr)::l,j,e,rest,h,hj=>by
  simp only[aM]at hj;unfold Ec at h;split at h
  .rename_i cont rs d hf hd;cases hb:leR rr rs with
   |false=>rw[hb]at h;cases h
   |true=>
    rw[hb]at h;simp only[aI]at h;obtain⟨M0,g1,g2,g3⟩:=Bj Mm rest hd (by omega)
    obtain⟨ce,pq,id,cs,hid,bc,hcs,kv⟩:=Mm.bx _ _ hf;have gk:kK c bk j=some ce:=by unfold kK;rw[bI (by omega)];exact pq
    have bp: ∀i,i<((s,rr)::l).length->dQ M.bx (jR bk (j+i))≠none:=by
     intro i hi;cases i with
     |zero=>rw[Nat.add_zero,hf];exact λe=>by cases e
     |succ i=>have:=g3 i (by simpa using hi);rwa [show j+(i+1)=j+1+i by omega]
    split at h
    .rename_i t v;cases hv:v.t.beq t with
     |false=>rw[hv]at h;cases h
     |true=>
      rw[hv]at h;simp only[aI,aA]at h;subst h;refine⟨(j,.bx (.val v) rr)::M0,?_,?_,bp⟩
      .simp only[cutOf.bxL,aY,CN,Re,hv,aI,g1]
      .intro i b bv;rw[gY]at bv;by_cases e1:i=j
       .rw[bI e1]at bv;simp only[aA]at bv;subst bv;subst e1;exact⟨ce,gk,id,cs,hid,bc,hcs,JA hb kv⟩
       .rw[bH e1]at bv;exact g2 i b bv
    .rename_i f caps f' co;cases hv:Nat.beq f f'&&uR caps bk.length&&wM (Kp (jR bk) caps) co with
     |false=>rw[hv]at h;cases h
     |true=>
      rw[hv]at h;simp only[aI,aA]at h;subst h;simp only[aC,dJ,aD]at hv;obtain⟨⟨rfl,h2⟩,h3⟩:=hv;obtain⟨pv,bb,e1,ps,e2,e3⟩:=hcs;refine⟨(j,.bx (.cl f caps) rr)::M0,?_,?_,bp⟩
      .simp only[cutOf.bxL,CN,Re,g1]
      .intro i b bv;rw[gY]at bv;by_cases e4:i=j
       .rw[bI e4]at bv;simp only[aA]at bv;subst bv;subst e4;exact⟨ce,gk,id,cs,hid,bc,⟨pv,bb,e1,ps,e2,(LR h2).1 (by rw[vM h3];exact e3)⟩,JA hb kv⟩
       .rw[bH e4]at bv;exact g2 i b bv
    .cases h
  .rename_i et x d hf hd;obtain⟨M0,g1,g2,g3⟩:=Bj Mm rest hd (by omega)
   obtain⟨ce,pq,bh⟩:=Mm.bx _ _ hf;have gk:kK c bk j=some ce:=by unfold kK;rw[bI (by omega)];exact pq
   split at h
   .rename_i t;cases hv:et.beq t with
    |false=>rw[hv]at h;cases h
    |true=>
     rw[hv]at h;simp only[aI,aA]at h;subst h;have:=Ty.beq_eq hv;subst this;refine⟨(j,.row et x)::M0,?_,?_,?_⟩
     .simp only[cutOf.bxL,aY,CN,hv,aI,g1]
     .intro i b bv;rw[gY]at bv;by_cases e1:i=j
      .rw[bI e1]at bv;simp only[aA]at bv;subst bv;subst e1;exact⟨ce,gk,bh⟩
      .rw[bH e1]at bv;exact g2 i b bv
     .intro i hi;cases i with
      |zero=>rw[Nat.add_zero,hf];exact λe=>by cases e
      |succ i=>have:=g3 i (by simpa using hi);rwa [show j+(i+1)=j+1+i by omega]
   .cases h
  .cases h
def dX: ∀{ts:List Ty} {l:List (V U)} {r:DenL U.D ts},gH ts l=some r->aM3 ts r=l
 |[],[],r,h=>rfl
 |t::ts,v::vs,r,h=>by
  unfold gH at h;split at h
  .rename_i x r' h1 h2;simp only[aA]at h;subst h;rw[aM3,dX h2];have:=oX h1;simp only;rw[<-this]
  .cases h
 |[],_::_,r,h=>by cases h
 |_::_,[],r,h=>by cases h
def aFf{ts:List Ty}{a:Option (List (V U))}{K:DenL U.D ts->Option W}(h:fU ts a K=some r): ∃l x,a=some l/\aM3 ts x=l/\K x=some r:=by
 unfold fU at h;split at h
 .rename_i l;split at h
  .rename_i x hx;exact⟨l,x,rfl,dX hx,h⟩
  .cases h
 .cases h
def uA: ∀{l:List (Sh×jF)} {rs:List jF} {d:List (V U)} {m:List (BC U.D)},fV U l rs d=some m->m.length=l.length
 |[],[],[],m,h=>by simp only[fV,aA]at h;subst h;rfl
 |(.val t,rr)::l,r::rs,v::d,m,h=>by
  simp only[fV]at h;split at h
  .rename_i m' hm;cases h;simp only[aM,uA hm]
  .cases h
 |(.cl f caps,rr)::l,r::rs,d,m,h=>by
  simp only[fV]at h;split at h
  .rename_i m' hm;cases h;simp only[aM,uA hm]
  .cases h
 |[],_::_,_,_,h=>by simp[fV]at h
 |[],[],_::_,_,h=>by simp[fV]at h
 |(s,rr)::l,[],d,m,h=>by cases s<;>simp[fV]at h
 |(.val t,rr)::l,r::rs,[],m,h=>by simp[fV]at h
 |(.tup _,_)::_,_::_,_,_,h=>by simp[fV]at h
 |(.nl,_)::_,_::_,_,_,h=>by simp[fV]at h
 |(.lc _ _ _,_)::_,_::_,_,_,h=>by simp[fV]at h
 |(.ep _,_)::_,_::_,_,_,h=>by simp[fV]at h
 |(.rw _,_)::_,_::_,_,_,h=>by simp[fV]at h
 |(.nf,_)::_,_::_,_,_,h=>by simp[fV]at h
 |(.row t,rr)::l,r::rs,⟨.sl e,x⟩::d,m,h=>by
  simp only[fV]at h;split at h
  .rename_i m' hm;cases h;simp only[aM,uA hm]
  .cases h
 |(.row t,rr)::l,r::rs,[],m,h=>by simp[fV]at h
 |(.row t,rr)::l,r::rs,⟨.int _,x⟩::d,m,h=>by simp[fV]at h
 |(.row t,rr)::l,r::rs,⟨.bool,x⟩::d,m,h=>by simp[fV]at h
 |(.row t,rr)::l,r::rs,⟨.str,x⟩::d,m,h=>by simp[fV]at h
 |(.row t,rr)::l,r::rs,⟨.rc _,x⟩::d,m,h=>by simp[fV]at h
def ED{bk:List Nat}(hn:bk.Nodup): ∀(m:List (BC U.D)) (j0:Nat) (B:List (Nat×BC U.D)),(∀j,j<m.length->dQ B (jR bk (j0+j))≠none)->j0+m.length<=bk.length->∀k,
    (∃j x,m[j]?=some x/\jR bk (j0+j)=k/\dQ (OT U bk m j0 B) k=some (aDJ U bk x))∨((∀j,j<m.length->jR bk (j0+j)≠k)/\dQ (OT U bk m j0 B) k=dQ B k)
 |[],j0,B,_,_,k=> .inr ⟨λj h=>by simp at h,rfl⟩
 |x::m,j0,B,hB,hl,k=>by
  simp only[aM]at hl;have h0:dQ B (jR bk j0)≠none:=by have:=hB 0 (by simp);rwa [Nat.add_zero]at this
  have hB': ∀j,j<m.length->dQ (qT B (jR bk j0) (aDJ U bk x)) (jR bk (j0+1+j))≠none:=by
   intro j hj;have:=hB (j+1) (by simpa using hj)
   rw[show j0+(j+1)=j0+1+j by omega]at this
   rw[kJ];split
   .cases hh:dQ B (jR bk j0)with
    |none=>exact(h0 hh).elim
    |some b=>exact λe=>by cases e
   .exact this
  rcases ED hn m (j0+1) (qT B (jR bk j0) (aDJ U bk x)) hB' (by omega) k with⟨j,y,h1,h2,h3⟩|⟨h1,h2⟩
  .exact .inl ⟨j+1,y,by rw[aT];exact h1,by rw[<-h2];congr 1;omega,h3⟩
  .by_cases hk:jR bk j0=k
   .refine .inl ⟨0,x,rfl,by rw[Nat.add_zero];exact hk,?_⟩
    rw[OT,h2,kJ,bI hk.symm];cases hh:dQ B (jR bk j0)with
    |none=>exact(h0 hh).elim
    |some b=>rfl
   .refine .inr ⟨λj hj=>?_,?_⟩
    .cases j with
     |zero=>rw[Nat.add_zero];exact hk
     |succ j=>have:=h1 j (by simpa using hj);rwa [show j0+(j+1)=j0+1+j by omega]
    .rw[OT,h2,kJ,bH (λe=>hk e.symm)]
def a3Z{bk:List Nat}{e:Ce}{x:BC U.D}(h:CX U (kK c bk) p e x):CX U c p e (aDJ U bk x):=by
 cases x with
 |bx s r=>
  obtain⟨id,cs,h1,h2,h3,h4⟩:=h;exact⟨id,cs,h1,h2,aCj h3,h4⟩
 |row t l=>exact h
 |gone=>trivial
def MR.call(Mm:MR U q c0 c M p){bk:List Nat}(hn:bk.Nodup){m:List (BC U.D)}(hm:m.length=bk.length)(bp: ∀i,i<bk.length->dQ M.bx (jR bk i)≠none){p':PSt}
    (hb: ∀j x,m[j]?=some x->∃e,kK c bk j=some e/\CX U (kK c bk) p' e x) (ki:p'.next=p.next)
    (hg: ∀id,id<p.next->(∀j e,kK c bk j=some e->e.id≠some id)->p'.get id=p.get id)
    (hg2: ∀id,id<p.next->id∉p'.dirty->p'.get id=p.get id)
    (hd: ∀id,id∈p'.dirty->id∈p.dirty∨∃j e,kK c bk j=some e/\e.id=some id) (hd2: ∀id,id∈p.dirty->id∈p'.dirty)
    (hw: ∀id,id∈p'.wr->id∈p.wr∨∃j e,kK c bk j=some e/\e.id=some id):
    MR U q c0 c ⟨OT U bk m 0 M.bx,bk++M.wr⟩ p'/\(WR U c M p->WR U c ⟨OT U bk m 0 M.bx,bk++M.wr⟩ p'):=by
 have dd:=ED hn m 0 M.bx (λj hj=>by rw[Nat.zero_add];exact bp j (by omega)) (by omega)
 simp only[Nat.zero_add]at dd;have cck: ∀{j e},kK c bk j=some e->j<bk.length/\c (jR bk j)=some e:=by
  intro j e h;unfold kK at h;split at h
  .rename_i hj;exact⟨hj,h⟩
  .cases h
 have bor: ∀{j e id},kK c bk j=some e->e.id=some id->id<q.next->∃k e,c0 k=some e/\e.id=some id:=by
  intro j e id h1 h2 h3;obtain⟨_,h4⟩:=cck h1;have hk:jR bk j<100:=by
   rcases Nat.lt_or_ge (jR bk j) 100 with h|h
   .exact h
   .have:=Mm.loc _ e id h4 h h2;omega
  exact⟨_,e,Mm.bor _ e h4 hk,h2⟩
 refine⟨⟨λk h=>?_,λk b h=>?_,λk e id h1 h2=>by rw[ki];exact Mm.lt k e id h1 h2,Mm.inj,by rw[ki];exact Mm.next,Mm.bor,Mm.loc,λid hi ho=>?_,λid hi bi=>?_,λid hi=>?_⟩,λhW id hi k e h1 h2=>?_⟩
 .simp only at h;rcases dd k with⟨j,x,h1,h2,h3⟩|⟨h1,h2⟩
  .rw[h3]at h;cases h
  .rw[h2]at h;exact Mm.dom k h
 .simp only at h;rcases dd k with⟨j,x,h1,h2,h3⟩|⟨h1,h2⟩
  .rw[h3]at h;cases h;obtain⟨e,g1,g2⟩:=hb j x h1;obtain⟨_,g3⟩:=cck g1;exact⟨e,by rw[<-h2];exact g3,a3Z g2⟩
  .rw[h2]at h;obtain⟨e,g1,g2⟩:=Mm.bx k b h;refine⟨e,g1,wB g2 λid hid=>hg id (Mm.lt k e id g1 hid) λj e' h3 h4=>?_⟩
   obtain⟨g3,g4⟩:=cck h3;exact h1 j (by omega) (Mm.inj _ _ e' e id g4 g1 h4 hid)
 .rw[hg2 id (Nat.lt_of_lt_of_le hi Mm.next) ho]
  exact Mm.old id hi λh=>ho (hd2 id h)
 .rcases hd id hi with h|⟨j,e,h1,h2⟩
  .exact Mm.dirty id h bi
  .exact bor h1 h2 bi
 .rcases hw id hi with h|⟨j,e,h1,h2⟩
  .rw[ki];exact Mm.wr id h
  .rw[ki];exact⟨Mm.lt _ e id (cck h1).2 h2,λbi=>bor h1 h2 bi⟩
 .have happ: ∀{l l':List Nat},eA k (l++l')=(eA k l||eA k l'):=by
   intro l l';rw[Bool.eq_iff_iff,Bool.or_eq_true,jI,jI,jI,List.mem_append]
  show eA k (bk++M.wr)=true;rw[happ,Bool.or_eq_true];rcases hw id hi with h|⟨j,e',h3,h4⟩
  .exact .inr (hW id h k e h1 h2)
  .obtain⟨h5,h6⟩:=cck h3;have:=Mm.inj _ _ e e' id h1 h6 h2 h4;left;rw[jI,this];exact List.mem_of_getElem? (zU bk j h5)
def aWO{bk:List Nat}{own:Bool}{l:List (V U)}{y:PV×Bool}(h:qB U (kK c bk) (CQ U own l) y):qB U c (CQ U own l) y:=by
 unfold CQ at h⊢;split at h<;>exact h
def aBE{own:Bool}{l:List (V U)}{K:X U->Option W}(h:aWK U own l K=some r):K (CQ U own l)=some r:=by
 unfold aWK at h;split at h
 .rename_i v b;cases b<;>exact h
 .exact h
def aG0(hU:iM U){tc:pF U.D}{pc:hY}(hc:CallOK U T tc pc){take:Bool}{inst:Nat}{bk:List Nat}{S:TS U.D}{S':PS}(F:lS U c S S'){cl:Call}{f:Operand}{K:X U->TS U.D->TM U.D->Option W}
    (du:cl.callee= .value f) (h:aG1 U T tc take inst bk S M (jL U S f).1 cl.args.toList K=some r) (Mm:MR U q c0 c M p):
    ∃x S2 M' v own p' g args,K x S2 M'=some r/\rW take S' cl=some (g,args)/\pc g args p=some (v,own,p')/\qB U c x (v,own)/\lS U c S2 (lT take S' cl.args.toList).2/\MR U q c0 c M' p'/\(WR U c M p->WR U c M' p')/\p'.next=p.next:=by
 have rf:=(dM F f).1;unfold aG1 at h;split at h
 .rename_i g caps s hf hs;rw[hf]at rf;obtain⟨ps,e1,e2⟩:=rf;have e1:dE S' f= .fn g [] ps:=e1;split at h
  .rename_i d e hd he;cases hb:Nat.beq g s.f&&Pu bk&&Nat.beq bk.length s.bx.length with
   |false=>rw[hb]at h;cases h
   |true=>
    rw[hb]at h;simp only[aI]at h;simp only[aC,dJ,aD]at hb;obtain⟨⟨hg,gc⟩,hlen⟩:=hb;have gc:=B9 gc;obtain⟨out,x,h1,h2,h⟩:=aFf h;split at h
    .rename_i m hm;obtain⟨g1,g2⟩:=Pf (take:=take) (args:=cl.args.toList) F;have g3:=Ck g2 (X6 (take:=take) e2);obtain⟨k1,S0,k2,k3⟩:=G4 hU 0 e hd g3;obtain⟨M0,k4,k5,k6⟩:=Bj Mm [] he (by omega)
     rw[bA]at k4;have hin:Gc U s (d++e) p (kK c bk) ((lT take S' cl.args.toList).1++rC ps) S0 ⟨M0,[]⟩:=by
      refine⟨?_,k1,λi y hy=>?_,k5,λj hj=>?_,λj e id h1 h2=>?_,λk k' e e' id h1 h2 h3 h4=>?_,λid hi=>(Mm.wr id hi).1⟩
      .simp only[IS,cutOf,k2,k4]
      .have:=k3 i y hy;rwa [Nat.zero_add]at this
      .unfold kK;rw[bH (by omega)]
      .unfold kK at h1;split at h1
       .exact Mm.lt _ e id h1 h2
       .cases h1
      .unfold kK at h1 h2;split at h1
       .rename_i hk;split at h2
        .rename_i gf;exact aOw gc hk gf (Mm.inj _ _ e e' id h1 h2 h3 h4)
        .cases h2
       .cases h1
     obtain⟨pv,own,p',j1,j2⟩:=hc inst s _ out hs h1 p (kK c bk) _ S0 _ hin;have h:=aBE h;rw[h2]at hm h;obtain⟨m',j3,j4⟩:=j2.out;rw[hm]at j3;cases j3;obtain⟨j5,j6⟩:=Mm.call gc (m:=m) (by rw[uA hm,hlen]) (λi hi=>by have:=k6 i (by omega);rwa [Nat.zero_add]at this) j4 j2.next j2.get j2.get2 j2.dirty j2.dirty2 j2.wr
     refine⟨_,_,_,pv,own,p',s.f,_,h,?_,j1,aWO j2.res,g1,j5,j6,j2.next⟩
     simp only[rW,du,e1,hg,rC,aW]
    .cases h
  .cases h
 .cases h
end
end Go.TV
namespace Go.TV
open Go.AI Go.PI
section
variable{P:Program}{U:iR}{T:TP U.D}{c c0:Cx}{W:Type}{r:W}{q p:PSt}{M:TM U.D}
def Post(P:Program)(U:iR)(pc:hY)(sq take:Bool)(o:Oper)(S':PS)(p q:PSt)(c0 c:Cx)(M:TM U.D)(K:X U->TS U.D->TM U.D->Option W)(r:W):Prop:=
 ∃c' x S2 M2 v own S2' p',K x S2 M2=some r/\GV P pc sq o take S' p=some (v,own,S2',p')/\leC c c'/\qB U c' x (v,own)/\lS U c' S2 S2'/\MR U q c0 c' M2 p'/\(WR U c M p->WR U c' M2 p')/\p.next<=p'.next
def Rq{take:Bool}{p p':PSt}{t:TypeId}{a v:PV}{own:Bool}(h:tT P take p t a=some (v,own,p')):p.next<=p'.next:=by
 have hm:(gD p a).1.next=p.next:=by
  unfold gD;split
  .split
   .split<;>rfl
   .rfl
  .rfl
 unfold tT at h;split at h
 .rename_i w _;cases hb:take&&CS w with
  |true=>rw[hb]at h;simp only[aI,aA,aB]at h;rw[<-h.2.2,hm];exact aS _
  |false=>rw[hb]at h;simp only[aJ,aA,aB]at h;rw[<-h.2.2];exact aS _
 .cases h
def OU{p p':PSt}{t:TypeId}{a x:PV}{own:Bool}(h:oO P p t a x own=some p'):p.next<=p'.next:=by
 unfold oO at h;simp only[Bool.cond_eq_ite]at h
 repeat' split at h
 all_goals first|(cases h;done)|(simp only[aA]at h;rw[<-h];exact aS _)
def tZ{p p':PSt}{S':PS}{o:Oper}{v:PV}{own:Bool}(h:fH P p S' o=some (v,own,p')):p.next<=p'.next:=by
 unfold fH at h;simp only[Bool.cond_eq_ite]at h
 repeat' split at h
 all_goals first|(cases h;done)|(simp only[aA,aB]at h;rw[<-h.2.2];first|exact aS _|exact Nat.le_succ _)
def Fj{K:Nat->Option W}{m:Int}: ∀{f j0:Nat},bHs K m j0 f=some r->∃j,j0<=j/\j<j0+f/\m=(j:Int)/\K j=some r
 |0,_,h=>by cases h
 |f+1,j0,h=>by
  unfold bHs at h;by_cases e:m=(j0:Int)
  .rw[bF e]at h;exact⟨j0,aS _,by omega,e,h⟩
  .rw[bG e]at h;obtain⟨j,h1,h2,h3,h4⟩:=Fj h;exact⟨j,by omega,by omega,h3,h4⟩
def GJ(te:Ty): ∀j:Nat,eX U (List.replicate j te)=j*dN U te
 |0=>by simp[eX]
 |j+1=>by
  rw[List.replicate_succ,Nat.succ_mul];simp only[eX];rw[GJ te j];omega
def aOE(hT:rN P U T)(Mm:MR U q c0 c M p){t:TypeId}{x:SV U.D}{v:PV}{K:X U->Option W}(h:a1C U M (T.T.ty t) x K=some r)(ra:tN U c x v):
    ∃y w,K y=some r/\CR P t v=some w/\qB U c y (w,false):=by
 unfold a1C at h;split at h
 .rename_i k;split at h
  .rename_i e e' l ht hf;cases he:e.beq e' with
   |false=>rw[he]at h;cases h
   |true=>
    rw[he]at h;have:=Ty.beq_eq he;subst this;obtain⟨ce,g1,g2⟩:=ra;obtain⟨ce',g1',hn,hz,_⟩:=Mm.bx _ _ hf;rw[g1]at g1';cases g1';obtain⟨fc,hu,_⟩:=hT.un t _ ht;refine⟨_,i64 (l.length:Int),h,?_,gM _ _,cB _ _⟩;rcases g2 with⟨_,hn0,rfl|rfl⟩|⟨id,_,_,rfl⟩
    .simp only[CR,hu,aX];rw[<-hn,hn0]
    .simp only[CR,hu];rw[<-hn,hn0];rfl
    .simp only[CR,hu];rw[hn]
  .cases h
 .exact aOD hT h ra
variable{pc:hY}{sq take:Bool}{o:Oper}{S:TS U.D}{S':PS}{K:X U->TS U.D->TM U.D->Option W}
def Bc(Mm:MR U q c0 c M p)(hk:dD o= .pure){x:X U}{S2:TS U.D}{v:PV}{own:Bool}{S2':PS}(h:K x S2 M=some r)(hp:dZ P take S' o=some (v,own,S2'))(hx:qB U c x (v,own))(hF:lS U c S2 S2'):Post P U pc sq take o S' p q c0 c M K r:=
 ⟨c,x,S2,M,v,own,S2',p,h,by simp only[GV,hk,DR,hp,aK],leC.refl c,hx,hF,Mm,λhw=>hw,aS _⟩
def gE(Mm:MR U q c0 c M p)(F:lS U c S S')(hk:dD o= .pure){x:X U}{v:PV}(h:K x S M=some r)(hp:dZ P take S' o=some (v,false,S'))(hx:qB U c x (v,false)):Post P U pc sq take o S' p q c0 c M K r:=
 Bc Mm hk h hp hx F
def Qe(F:lS U c S S'): ∀{l:List Operand} {ks:List Nat},Qf U S l=some ks->wN c ks (wks (l.map (dE S')))
 |[],ks,h=>by simp only[Qf,aA]at h;subst h;trivial
 |x::l,ks,h=>by
  unfold Qf at h;split at h
  .rename_i k ks' hx hl;simp only[aA]at h;subst h;have h1:=(dM F x).1;rw[hx]at h1;obtain⟨e,id,g1,g2,g3⟩:=h1;have g3:dE S' x= .ptr id 0:=g3;refine⟨⟨e,id,g1,g2,by rw[g3];rfl⟩,Qe F hl⟩
  .cases h
variable(hU:iM U)(hT:rN P U T)
include hU hT
def aE8{tc:pF U.D}(hc:CallOK U T tc pc)(F:lS U c S S')(Mm:MR U q c0 c M p){inst:Nat}{bk:List Nat}(h:DY U T tc sq take inst bk o S M K=some r):Post P U pc sq take o S' p q c0 c M K r:=by
 obtain⟨dst,op,ty,pos,jf,jd⟩:=o;have mv: ∀(x:Operand),(bif take then K (jL U S x) (uF U S x) M else K (sW U (jL U S x)) S M)=some r->(op= .move x∨op= .assign x)->Post P U pc sq take ⟨dst,op,ty,pos,jf,jd⟩ S' p q c0 c M K r:=by
  intro x h ho;cases take with
  |true=>
   refine Bc Mm ?_ h (v:=dE S' x) (own:=iO S' x) (S2':=mU S' x) ?_ (dM F x) (rH F x)
   .rcases ho with rfl|rfl<;>rfl
   .rcases ho with rfl|rfl<;>rfl
  |false=>
   refine gE Mm F ?_ h (v:=dE S' x) ?_ (uG (dM F x))
   .rcases ho with rfl|rfl<;>rfl
   .rcases ho with rfl|rfl<;>rfl
 cases op with
 |move x=>exact mv x h (.inl rfl)
 |assign x=>exact mv x h (.inr rfl)
 |pick w a b=>
  simp only[DY]at h;split at h
  .rename_i wb hw;have h1:=(dM F w).1;rw[hw]at h1;have h1:=of_bool h1;have h1:dE S' w= .v (.bool wb):=h1;obtain⟨x,h2,h3⟩:=aEX h (dM F a) (dM F b);refine gE Mm F rfl h2 ?_ h3;simp only[dZ,h1];cases wb<;>rfl
  .cases h
 |build t parts=>
  simp only[DY]at h;split at h
  .rename_i n ht;split at h
   .rename_i l hl;obtain⟨x,hx,h⟩:=oC h;obtain⟨w,h1,h2⟩:=aG4 hU hT F ht hl hx;exact gE Mm F rfl h (by simp only[dZ,h1,aK]) h2
   .cases h
  .cases h
 |nilCheck x=>
  simp only[DY]at h;have h1:=(dM F x).1;split at h
  .rename_i k off path hx;rw[hx]at h1;have h2:=h1;obtain⟨e,id,g1,g2,g3⟩:=h1;have g3:dE S' x= .ptr id off:=g3;exact gE Mm F rfl h (v:= .ptr id off) (by simp only[dZ,g3]) ⟨⟨e,id,g1,g2,rfl⟩,cB _ _⟩
  .rename_i v hx;rw[hx]at h1;obtain⟨es,i,off,e,g1,g2,g3⟩:=h1;have g1:dE S' x= .pin es i off:=g1;exact gE Mm F rfl h (v:= .pin es i off) (by simp only[dZ,g1]) ⟨⟨es,i,off,e,rfl,g2,g3⟩,cB _ _⟩
  .rename_i k i off path hx;rw[hx]at h1;obtain⟨e,id,g1,g2,g3,g4,g5⟩:=h1;have g5:dE S' x= .ptr id (i.toNat*e.z+off):=g5;exact gE Mm F rfl h (v:= .ptr id (i.toNat*e.z+off)) (by simp only[dZ,g5]) ⟨⟨e,id,g1,g2,g3,g4,rfl⟩,cB _ _⟩
  .cases h
 |binOp op t x y t'=>
  simp only[DY]at h;obtain⟨v,w,h1,h2,h3⟩:=aQg hU hT (x:=x) (y:=y) h (aCV hU (dM F x).1) (aCV hU (dM F y).1);have h2:lB P op t x y (dE S' x) (dE S' y)=some w:=h2;exact gE Mm F rfl h1 (by simp only[dZ,h2,aK]) ⟨h3,cB _ _⟩
 |unOp op t x=>
  simp only[DY]at h;obtain⟨v,w,h1,h2,h3⟩:=aV1 (P:=P) h (dM F x).1;have h2:bDa P op (dE S' x)=some w:=h2;exact gE Mm F rfl h1 (by simp only[dZ,h2,aK]) ⟨h3,cB _ _⟩
 |convert s d x=>
  simp only[DY]at h;obtain⟨v,w,h1,h2,h3⟩:=aGT hT h (dM F x).1;rcases h3 with h3|⟨hs,h3,h4⟩
  .have h3:wQ P s d (dE S' x)=some w:=h3;exact gE Mm F rfl h1 (by simp only[dZ,h3,aK]) ⟨h2,cB _ _⟩
  .have h3:wQ P s d (dE S' x)=none:=h3;have h4:Be P s d (dE S' x)=some w:=h4;refine⟨c,_,S,M,w,false,S',p,h1,?_,leC.refl c,⟨h2,cB _ _⟩,F,Mm,λhw=>hw,aS _⟩
   rw[hs];simp only[GV,dD,DR,dZ,h3,Option.map_none,aI,h4,aK]
 |makeFunc fn first captured=>
  simp only[DY]at h;split at h
  .rename_i f ks h1 h2;refine gE Mm F rfl h (v:= .fn f (wks (first.toList.map (dE S'))) (wks (captured.toList.map (dE S')))) rfl ⟨⟨_,?_,Qe F h2⟩,cB _ _⟩
   rw[h1];rfl
  .cases h
 |fieldAddr s x f=>
  simp only[DY]at h;have h1:=(dM F x).1;split at h
  .rename_i n k off path ht hx;rw[hx]at h1;obtain⟨e,id,g1,g2,g3⟩:=h1;have g3:dE S' x= .ptr id off:=g3;cases hf:Nat.blt f (U.fs n).length with
   |false=>rw[hf]at h;cases h
   |true=>
    rw[hf]at h;rw[iF,aD]at hf;have:=(qJ hU hT ht hf).1 id off;exact gE Mm F rfl h (by simp only[dZ,g3,this,aK]) ⟨⟨e,id,g1,g2,rfl⟩,cB _ _⟩
  .rename_i n v ht hx;rw[hx]at h1;cases hb:v.t.beq (.rc n)with
   |false=>rw[hb]at h;cases h
   |true=>
    rw[hb]at h;simp only[aI]at h;split at h
    .rename_i w hw;obtain⟨q1,h2,h3⟩:=KU hU hT ht hb hw h1;have h2:iN P s (dE S' x) f=some q1:=h2;exact gE Mm F rfl h (by simp only[dZ,h2,aK]) ⟨h3,cB _ _⟩
    .cases h
  .rename_i n k i off path ht hx;rw[hx]at h1;obtain⟨e,id,g1,g2,g3,g4,g5⟩:=h1;have g5:dE S' x= .ptr id (i.toNat*e.z+off):=g5;cases hf:Nat.blt f (U.fs n).length with
   |false=>rw[hf]at h;cases h
   |true=>
    rw[hf]at h;rw[iF,aD]at hf;have:=(qJ hU hT ht hf).1 id (i.toNat*e.z+off);exact gE Mm F rfl h (v:= .ptr id (i.toNat*e.z+off+kF U n f)) (by simp only[dZ,g5,this,aK]) ⟨⟨e,id,g1,g2,g3,g4,by simp only[Nat.add_assoc]⟩,cB _ _⟩
  .cases h
 |field t x f=>
  simp only[DY]at h;have h1:=dM F x;split at h
  .rename_i n v rs ht hx;rw[hx]at h1;cases hb:v.t.beq (.rc n)with
   |false=>rw[hb]at h;cases h
   |true=>
    rw[hb]at h;simp only[aI]at h;split at h
    .rename_i w hw;obtain⟨q1,h2,h3⟩:=aGj hU hT ht hb hw h1;exact gE Mm F rfl h (by simp only[dZ,h2,aK]) h3
    .cases h
  .cases h
 |indexAddr t x i=>
  simp only[DY]at h;have h1:=(dM F x).1;have h2:=(dM F i).1;split at h
  .rename_i e e' l k n ht hx hi;rw[hx]at h1;rw[hi]at h2;have h2:dE S' i= .v (.int k n):=jB h2;cases he:e.beq e' with
   |false=>rw[he]at h;cases h
   |true=>
    rw[he]at h;obtain⟨y,hy,h⟩:=oC h;obtain⟨q1,g1,g2⟩:=Ky hU hT (k:=k) ht he hy h1;have g1:gF P t (dE S' x) (.v (.int k n))=some q1:=g1;exact gE Mm F rfl h (by simp only[dZ,h2,g1,aK]) ⟨g2,cB _ _⟩
  .rename_i e kk k n ht hx hi;rw[hx]at h1;rw[hi]at h2;have h2:dE S' i= .v (.int k n):=jB h2;split at h
   .rename_i e' l hf;cases he:e.beq e' with
    |false=>rw[he]at h;cases h
    |true=>
     rw[he]at h;have:=Ty.beq_eq he;subst this;obtain⟨hin,h⟩:=fT h;obtain⟨ce,g1,g2⟩:=h1;obtain⟨ce',g1',hn,hz,_⟩:=Mm.bx _ _ hf;rw[g1]at g1';cases g1';obtain⟨fc,hu,gq,_⟩:=hT.un t _ ht;simp only[dO,aC,aD]at hin;rcases g2 with⟨_,hn0,_⟩|⟨id,g3,g4,g5⟩
     .have b1:(0:Int)<=n:=hin.1;have b2:(n:Int)<(l.length:Int):=hin.2;omega
     .have g5:dE S' x= .rs id 0 ce.n:=g5;have hin':dO n ce.n=true:=by rw[hn];simp only[dO,aC,aD];exact hin
      refine gE Mm F rfl h (v:= .ptr id (0+Int.toNat n*dN U e)) ?_ ⟨⟨ce,id,g1,g3,hin.1,by rw[hn];exact hin.2,by rw[hz,Nat.zero_add,Nat.add_zero]⟩,cB _ _⟩
      simp only[dZ,h2,g5,gF,hu,hT.sz _ _ gq,hin',aI,aK]
   .cases h
  .rename_i n kk off pp k m ht hx hi;rw[hx]at h1;rw[hi]at h2;have h2:dE S' i= .v (.int k m):=jB h2;cases ha:T.T.arr t with
   |false=>rw[ha]at h;cases h
   |true=>
    rw[ha]at h;obtain⟨j,_,hj,hm,h⟩:=Fj h;obtain⟨len,e,te,hu,hz,hf⟩:=hT.arr t n ht ha;obtain⟨ce,id,g1,g2,g3⟩:=h1;have g3:dE S' x= .ptr id off:=g3;rw[hf,List.length_replicate,Nat.zero_add]at hj;have hin:dO m len=true:=by rw[hm];simp only[dO,aC,aD];omega
    have ho:kF U n j=j*dN U te:=by rw[kF,hf,List.take_replicate,Nat.min_eq_left (by omega)];exact GJ _ _
    refine gE Mm F rfl h (v:= .ptr id (off+Int.toNat m*dN U te)) ?_ ⟨⟨ce,id,g1,g2,by rw[ho,hm];rfl⟩,cB _ _⟩
    simp only[dZ,h2,g3,gF,hu,hz,hin,aI,aK]
  .rename_i n v k m ht hx hi;rw[hx]at h1;rw[hi]at h2;have h2:dE S' i= .v (.int k m):=jB h2;cases hb:(T.T.arr t&&v.t.beq (.rc n))with
   |false=>rw[hb]at h;cases h
   |true=>
    rw[hb]at h;rw[aC]at hb;rw[aI]at h;obtain⟨j,_,hj,hm,h5⟩:=Fj h;clear h;subst hm;split at h5
    .rename_i w hw;obtain⟨q1,g2,g3⟩:=Kz (k:=k) hU hT ht hb.1 hb.2 hw h1;have g2:gF P t (dE S' x) (.v (.int k (j:Int)))=some q1:=g2;exact gE Mm F rfl h5 (by simp only[dZ,h2,g2,aK]) ⟨g3,cB _ _⟩
    .cases h5
  .cases h
 |index t x i=>
  simp only[DY]at h;have h1:=(dM F x).1;have h2:=(dM F i).1;split at h
  .rename_i s k n ht hx hi;rw[hx]at h1;rw[hi]at h2;have h2:dE S' i= .v (.int k n):=jB h2;obtain⟨b,hb,h⟩:=oC h;have g1:=aFQ hT (k:=k) ht hb h1;have g1:Bd P t (dE S' x) (.v (.int k n))=some (.v (.int .u8 (b.toNat:Int))):=g1;exact gE Mm F rfl h (by simp only[dZ,h2,g1,aK]) ⟨gM _ _,cB _ _⟩
  .cases h
 |extract x i=>
  simp only[DY]at h;have h1:=(dM F x).1;split at h
  .rename_i l hx;rw[hx]at h1;obtain⟨ps,g1,g2⟩:=h1;have g1:dE S' x= .tup ps:=g1;split at h
   .rename_i v hv;have g3:ps[i]?=some (dP U v.t v.x):=by rw[g2,List.getElem?_map,hv];rfl
    cases ly:(take&&Nat.beq i 0)with
    |false=>
     rw[ly,aJ]at h;refine gE Mm F rfl h (by simp only[dZ,g1,ly,aJ,g3,aK]) ⟨⟨XT hU _ _,Dj (tF hU _ _)⟩,cB _ _⟩
    |true=>
     rw[ly,aI]at h;have hi:=ly;simp only[aC,dJ,aD]at hi;obtain⟨_,rfl⟩:=hi;refine Bc Mm rfl h (v:=dP U v.t v.x) (own:=iO S' x) (S2':=mU S' x) (by simp only[dZ,g1,ly,aI,g3,aK]) ⟨⟨XT hU _ _,Dj (tF hU _ _)⟩,?_⟩ (rH F x)
     cases cr:Cb v.t with
     |false=>exact cB _ _
     |true=>
      intro o s hm;rcases(dM F x).2 o s hm with⟨ha,_⟩|⟨ho,_,hw,hs⟩
      .have ha:isAgg (dE S' x)=true:=ha;rw[g1]at ha;cases ha
      .have hw:(iO S' x||kS (dE S' x))=true:=hw;rw[g1,show kS (.tup ps)=false from rfl,Bool.or_false]at hw
       have hg:gd (dP U v.t v.x)=true:=by
        obtain⟨vt,vx⟩:=v;cases vt with
        |sl t=>exact eZ _ _
        |_=>cases cr
       refine .inr ⟨ho,?_,by show(iO S' x||_)=true;rw[hw];rfl,λ_=>Bp hg⟩
       refine oH (U:=U) (v:=v) ⟨XT hU _ _,Dj (tF hU _ _)⟩ ?_;cases gp:v.t with
       |rc n=>rw[gp]at cr;cases cr
       |_=>rfl
   .cases h
  .cases h
 |load t a=>
  simp only[DY]at h;obtain⟨x,M',v,own,p',h1,h2,h3,h4,h5⟩:=a1D hU hT h (dM F a).1 Mm;refine⟨c,x,S,M',v,own,S',p',h1,?_,leC.refl c,h3,F,h4,h5,Rq h2⟩;have:mT P p S' ⟨dst,.load t a,ty,pos,jf,jd⟩ take=some (v,own,p'):=by
   simp only[mT];unfold tT at h2;exact h2
  simp only[GV,dD,this,aK]
 |slice t x lo hi mx=>
  simp only[DY]at h;obtain⟨y,w,own,h1,h2,h3⟩:=aWM hT F (p:=p) h (dM F x).1;have h2:lA P p t (dE S' x) (lo.map (dE S')) (hi.map (dE S')) (mx.map (dE S'))=some (w,own):=h2;exact⟨c,y,S,M,w,own,S',p,h1,by simp only[GV,dD,mT,h2,aK],leC.refl c,h3,F,Mm,λhw=>hw,aS _⟩
 |alloc t=>
  simp only[DY]at h;obtain⟨c',x,M',v,p',h1,h2,h3,h4,h5,h6⟩:=a4d hU hT (S':=S') (o:=⟨dst,.alloc t,ty,pos,jf,jd⟩) rfl h Mm;exact⟨c',x,S,M',v,false,S',p',h1,by simp only[GV,dD,h2,aK],h3,h4,Sr h3 F,h5,h6,tZ h2⟩
 |box t x=>
  simp only[DY]at h;obtain⟨c',x,M',v,p',h1,h2,h3,h4,h5,h6⟩:=a3V hU F (P:=P) (o:=⟨dst,.box t x,ty,pos,jf,jd⟩) rfl h Mm;exact⟨c',x,S,M',v,false,S',p',h1,by simp only[GV,dD,h2,aK],h3,h4,Sr h3 F,h5,h6,tZ h2⟩
 |buildSlice t len parts=>
  simp only[DY]at h;split at h
  .rename_i e ht;cases hb:Nat.ble (len*dN U e) 1000000 with
   |false=>rw[hb]at h;cases h
   |true=>
    rw[hb]at h;simp only[aI]at h;split at h
    .rename_i l hl;obtain⟨w,h1,h2⟩:=Gz hU hT F (p:=p) (o:=⟨dst,.buildSlice t len parts,ty,pos,jf,jd⟩) rfl ht hb hl;exact⟨c,_,S,M,w,true,S',p,h,by simp only[GV,dD,h1,aK],leC.refl c,h2,F,Mm,λhw=>hw,aS _⟩
    .cases h
  .cases h
 |makeSlice t l k=>
  simp only[DY]at h;obtain⟨c',x,M',v,own,p',h1,h2,h3,h4,h5,h6⟩:=a1e hU hT F (o:=⟨dst,.makeSlice t l k,ty,pos,jf,jd⟩) rfl h Mm;exact⟨c',x,S,M',v,own,S',p',h1,by simp only[GV,dD,h2,aK],h3,h4,Sr h3 F,h5,h6,tZ h2⟩
 |store t a x=>
  simp only[DY]at h;obtain⟨M',p',h1,h2,h3,h4⟩:=aWH hU hT h (dM F a).1 (dM F x) Mm;have h2:oO P p t (dE S' a) (dE S' x) (iO S' x)=some p':=h2;exact⟨c,_,_,M',.und,false,mU S' x,p',h1,by simp only[GV,dD,Gt,h2,aK],leC.refl c,⟨trivial,cB _ _⟩,rH F x,h3,h4,OU h2⟩
 |call cl=>
  simp only[DY]at h;split at h
  .rename_i du;split at h
   .rename_i t x ht hx;obtain⟨y,w,h1,h2,h3⟩:=aOE hT Mm h (dM F x).1;have h2:CR P t (dE S' x)=some w:=h2;exact gE Mm F (by simp only[dD,du]) h1 (by simp only[dZ,du,ht,hx,h2,aK]) h3
   .cases h
  .rename_i du;split at h
   .rename_i x y hx;obtain⟨z,w,h1,h2,h3⟩:=aFr (P:=P) (ts:=cl.argTypes) (ty:=ty) h (dM F x).1 (dM F y).1;have h2:nZ P false cl.argTypes ty [dE S' x,dE S' y]=some w:=h2;exact gE Mm F (by simp only[dD,du]) h1 (by simp only[dZ,du,hx,aO,List.map_nil,h2,aK]) h3
   .cases h
  .rename_i du;split at h
   .rename_i x y hx;obtain⟨z,w,h1,h2,h3⟩:=aFr (P:=P) (ts:=cl.argTypes) (ty:=ty) h (dM F x).1 (dM F y).1;have h2:nZ P true cl.argTypes ty [dE S' x,dE S' y]=some w:=h2;exact gE Mm F (by simp only[dD,du]) h1 (by simp only[dZ,du,hx,aO,List.map_nil,h2,aK]) h3
   .cases h
  .rename_i du;split at h
   .rename_i s x hx;obtain⟨y,v,own,h1,h2,h3⟩:=a4a hU hT F h;exact⟨c,y,_,M,v,own,mU S' s,p,h1,by simp only[GV,dD,du,Gt,hx,h2,aK],leC.refl c,h3,rH F s,Mm,λhw=>hw,aS _⟩
   .cases h
  .rename_i f du;obtain⟨x,S2,M',v,own,p',g,args,h1,h2,h3,h4,h5,h6,h7,h8⟩:=aG0 hU hc F du h Mm;exact⟨c,x,S2,M',v,own,_,p',h1,by simp only[GV,dD,du,Gt,h2,h3,aK],leC.refl c,h4,h5,h6,h7,by rw[h8];exact aS _⟩
  .cases h
 |_=>cases h
end
end Go.TV
namespace Go.TV
open Go.AI Go.PI
section
variable{P:Program}{U:iR}{T:TP U.D}{c c0:Cx}{W:Type}{r:W}{q p:PSt}{M:TM U.D}{S:TS U.D}{S':PS}{pc:hY}
def V4:qB U c (.tup [],[]) (.tup [],false):=⟨⟨[],rfl,rfl⟩,cB _ _⟩
def aF8{ops:Array Oper}{o:Oper}{run skip:TS U.D->Option W}(h:bIO U ops o S run skip=some r)(F:lS U c S S'):
    ∃S1,lS U c S1 S'/\((mK ops S' o=some true/\run S1=some r)∨(mK ops S' o=some false/\skip S1=some r)):=by
 unfold bIO at h;split at h
 .rename_i hg;exact⟨S,F,.inl ⟨by simp only[mK,hg],h⟩⟩
 .rename_i j want hg;split at h
  .cases h
  .rename_i d hd;have hs:=F d;split at h
   .rename_i b rr hx;rw[hx]at hs;have hb:(S'.at d).1= .v (.bool b):=of_bool hs.1;have hpw:mK ops S' o=some (b==want):=by simp only[mK,hg,hd,aK,hb]
    have hF: ∀b',b=b'->lS U c ((d,(.val ⟨.bool,b'⟩,rr))::S) S':=λb' e=>PQ F (by rw[<-e];exact hs)
    rcases Fa h with⟨rfl,h⟩|⟨rfl,h⟩
    .cases want with
     |true=>exact⟨_,hF true rfl,.inl ⟨hpw,h⟩⟩
     |false=>exact⟨_,hF true rfl,.inr ⟨hpw,h⟩⟩
    .cases want with
     |true=>exact⟨_,hF false rfl,.inr ⟨hpw,h⟩⟩
     |false=>exact⟨_,hF false rfl,.inl ⟨hpw,h⟩⟩
   .rename_i rr hx;rw[hx]at hs;obtain⟨ps,e1,e2⟩:=hs.1;have hb:(S'.at d).1= .tup []:=by rw[e1,e2];rfl
    exact⟨S,F,.inr ⟨by simp only[mK,hg,hd,aK,hb],h⟩⟩
   .cases h
variable(hU:iM U)(hT:rN P U T)
include hU hT
def X8{oA oI oS:Oper}{K:TS U.D->Option W}(h:aQn U T oA oI oS S K=some r)(F:lS U c S S'):
    ∃S1 S1',K S1=some r/\GX P S' oA oI oS=some S1'/\lS U c S1 S1':=by
 unfold aQn at h;split at h
 .rename_i cl a t1 a' n b t2 b' x e1 e2 e3 e4 e5 e6;split at h
  .rename_i s zz e7 e8;cases hb:Nat.beq a a'&&Nat.beq b b'&& !Nat.beq a b&& !NH a n&& !NH a x&& !NH b x&&oA.guard.isNone&&oI.guard.isNone&&oS.guard.isNone with
   |false=>rw[hb]at h;cases h
   |true=>
    rw[hb]at h;simp only[aI]at h;obtain⟨y,w,v,h1,h2,h3,h4⟩:=aQo hU hT F h;refine⟨_,((mU S' s).put (some a) v true).put (some b) (aBX v) false,h1,by simp only[GX,e1,e2,e3,e4,e5,e6,e7,e8,hb,aI,h2,aK],?_⟩
    exact sH (sH (rH F s) h3) ⟨h4,cB _ _⟩
  .cases h
 .cases h
def runT_ok{tc:pF U.D}(hc:CallOK U T tc pc){ops:Array Oper}{K:TS U.D->TM U.D->Option W}: ∀(sc:List TStep) (S:TS U.D) (M:TM U.D) (S':PS) (p:PSt) (c:Cx),lS U c S S'->MR U q c0 c M p->Gn U T tc ops sc S M K=some r->
    ∃c' S1 M1 S1' p',K S1 M1=some r/\wG P pc ops (sc.map TStep.un) S' p=some (S1',p')/\leC c c'/\lS U c' S1 S1'/\MR U q c0 c' M1 p'/\p.next<=p'.next
 |[],S,M,S',p,c,F,Mm,h=>⟨c,S,M,S',p,h,rfl,leC.refl c,F,Mm,aS _⟩
 | .app a i s::rest,S,M,S',p,c,F,Mm,h=>by
  unfold Gn at h;split at h
  .rename_i oA oI oS e1 e2 e3;obtain⟨S1,S1',h1,h2,h3⟩:=X8 hU hT h F;obtain⟨c',S2,M2,S2',p',g1,g2,g3⟩:=runT_ok hc rest S1 M S1' p c h3 Mm h1;refine⟨c',S2,M2,S2',p',g1,?_,g3⟩;simp only[aO,TStep.un,wG,e1,e2,e3,h2,g2]
  .cases h
 | .freeze t::rest,S,M,S',p,c,F,Mm,h=>by
  unfold Gn at h;split at h
  .rename_i R hR;obtain⟨S1',p1,h1,h2,h3,h4⟩:=Sq hU F hR Mm;obtain⟨c',S2,M2,S2',p',g1,g2,g3,g4,g5,g6⟩:=runT_ok hc rest R.1 R.2 S1' p1 c h2 h3 h;refine⟨c',S2,M2,S2',p',g1,?_,g3,g4,g5,Nat.le_trans (pfreeze_next h1) g6⟩;simp only[aO,TStep.un,wG,h1,g2]
  .cases h
 | .op i take inst bk::rest,S,M,S',p,c,F,Mm,h=>by
  unfold Gn at h;split at h
  .cases h
  .rename_i o ho;obtain⟨S0,F0,h|h⟩:=aF8 h F
   .obtain⟨hw,h⟩:=h;obtain⟨c1,x,S1,M1,v,own,S1',p1,h1,h2,h3,h4,h5,h6,_,h7⟩:=aE8 hU hT hc F0 Mm h;obtain⟨c',S2,M2,S2',p',g1,g2,g3,g4,g5,g6⟩:=runT_ok hc rest _ M1 _ p1 c1 (Ak h5 h4) h6 h1;refine⟨c',S2,M2,S2',p',g1,?_,leC.trans h3 g3,g4,g5,Nat.le_trans h7 g6⟩;simp only[aO,TStep.un,wG,ho,hw,h2,g2]
   .obtain⟨hw,h⟩:=h;obtain⟨c',S2,M2,S2',p',g1,g2,g3⟩:=runT_ok hc rest _ M _ p c (Ak F0 V4) Mm h;refine⟨c',S2,M2,S2',p',g1,?_,g3⟩;simp only[aO,TStep.un,wG,ho,hw,g2]
where
 pfreeze_next {p p1:PSt} {S' S1':PS} {t:Nat} (h:jZ p S' t=some (S1',p1)):p.next<=p1.next:=by
  unfold jZ at h;split at h
  .rename_i R hR;cases h;unfold bGK at hR;simp only[Bool.cond_eq_ite]at hR
   repeat' split at hR
   all_goals first|(cases hR;done)|(simp only[aA]at hR;rw[<-hR];exact aS _)
  .cases h
def Xm(c:Cx):List QI->List jV->Prop
 |[],[]=>True
 |x::l,y::l'=>(x.i=y.i/\x.stale=y.stale/\x.mr=lD y.o/\(x.mr=false->∃e id,c x.k=some e/\e.id=some id/\aM8 y.o y.a y.v=some id))/\Xm c l l'
 |_,_=>False
omit hU hT in
def RU{c c':Cx}(h:leC c c'): ∀{l:List QI} {l':List jV},Xm c l l'->Xm c' l l'
 |[],[],_=>trivial
 |x::l,y::l',⟨⟨h1,h2,h3,h4⟩,h5⟩=>⟨⟨h1,h2,h3,λe=>by obtain⟨a,id,g1,g2⟩:=h4 e;exact⟨a,id,h _ _ g1,g2⟩⟩,RU h h5⟩
 |[],_::_,hh=>hh.elim
 |_::_,[],hh=>hh.elim
omit hU hT in
def C8(hw:WR U c M p): ∀{l:List QI} {l':List jV},Xm c l l'->Ka M.wr l=true->l'.all (qE P p)=true
 |[],[],_,_=>rfl
 |x::l,y::l',⟨⟨h1,h2,h3,h4⟩,h5⟩,h=>by
  simp only[Ka,aC,Bool.or_eq_true,Bool.not_eq_true']at h;rw[aP,C8 hw h5 h.2,bE];unfold qE;rw[<-h2];rcases h.1 with h6|⟨h6,h7⟩
  .rw[h6];rfl
  .obtain⟨e,id,g1,g2,g3⟩:=h4 h6;have:X3 p (aM8 y.o y.a y.v)=true:=by
    rw[g3];simp only[X3,Bool.not_eq_true',<-Bool.not_eq_true];intro hm;have:=hw id (by simpa using hm) x.k e g1 g2
    rw[h7]at this;cases this
   rw[this,Bool.true_or,Bool.or_true]
 |[],_::_,hh,_=>hh.elim
 |_::_,[],hh,_=>hh.elim
omit hU hT in
def Du{ms:List Nat}{i:Nat}{ap:Bool}: ∀{l:List QI} {l':List jV},Xm c l l'->Xm c (GF ms i ap l) ((l'.filter λr=> !jE (ms.getD i 0) r.i).map λr=>bif ap&& !lD r.o then r else{r with stale:=true})
 |[],[],_=>trivial
 |x::l,y::l',⟨⟨h1,h2,h3,h4⟩,h5⟩=>by
  have ih:=Du (ms:=ms) (i:=i) (ap:=ap) h5;simp only[GF,List.filter_cons,h1];cases hb:jE (ms.getD i 0) y.i with
  |true=>simpa using ih
  |false=>
   simp only[Bool.not_false,if_true,aJ,aO];refine⟨?_,ih⟩;rw[<-h3];cases ap&& !x.mr with
   |true=>simp only[aI];exact⟨h1,h2,h3,h4⟩
   |false=>simp only[aJ];exact⟨trivial,trivial,h3,h4⟩
 |[],_::_,hh=>hh.elim
 |_::_,[],hh=>hh.elim
omit hU hT in
def Pn{ms:List Nat}{i:Nat}: ∀{l:List QI} {l':List jV},Xm c l l'->Xm c (Po ms i l) (l'.filter λr=> !jE (ms.getD i 0) r.i)
 |[],[],_=>trivial
 |x::l,y::l',⟨⟨h1,h2,h3,h4⟩,h5⟩=>by
  have ih:=Pn (ms:=ms) (i:=i) h5;simp only[Po,List.filter_cons,h1];cases hb:jE (ms.getD i 0) y.i with
  |true=>simpa using ih
  |false=>exact⟨⟨h1,h2,h3,h4⟩,ih⟩
 |[],_::_,hh=>hh.elim
 |_::_,[],hh=>hh.elim
omit hU hT in
def Xx{ms:List Nat}{i:Nat}: ∀{l:List QI} {l':List jV},Xm c l l'->aFm ms i l=true->(l'.filter λr=> !jE (ms.getD i 0) r.i).all (λr=> !lD r.o)=true
 |[],[],_,_=>rfl
 |x::l,y::l',⟨⟨h1,h2,h3,h4⟩,h5⟩,h=>by
  simp only[aFm,aC,Bool.or_eq_true,Bool.not_eq_true']at h;have ih:=Xx (ms:=ms) (i:=i) h5 h.2;rw[List.filter_cons];cases hb:jE (ms.getD i 0) y.i with
  |true=>simpa using ih
  |false=>
   rw[h1,hb]at h;rcases h.1 with h6|h6
   .cases h6
   .simp only[Bool.not_false,if_true,aP,ih,bE];rw[<-h3,h6];rfl
 |[],_::_,hh,_=>hh.elim
 |_::_,[],hh,_=>hh.elim
omit hU hT in
def a0G{o:Oper}{x:X U}{i:Nat}{pend gj:List QI}{pl:List jV}{v:PV}{own:Bool}{c':Cx}(h:a0H U o S x i pend=some gj)(F:lS U c S S')(hl:leC c c')(hx:qB U c' x (v,own))(hp:Xm c' pend pl):
    Xm c' gj (bif kI o S' then⟨i,o,pC o S',v,false⟩::pl else pl):=by
 obtain⟨dst,op,ty,pos,jf,jd⟩:=o;have other:(∀t a,op≠ .load t a)->kI ⟨dst,op,ty,pos,jf,jd⟩ S'=false->a0H U ⟨dst,op,ty,pos,jf,jd⟩ S x i pend=some pend->Xm c' gj (bif kI ⟨dst,op,ty,pos,jf,jd⟩ S' then⟨i,⟨dst,op,ty,pos,jf,jd⟩,pC ⟨dst,op,ty,pos,jf,jd⟩ S',v,false⟩::pl else pl):=by
  intro _ h1 h2;rw[h2]at h;cases h;rw[h1];exact hp
 have box: ∀(k:Nat),(∃off nt,x.1= .lc k off nt)->kI ⟨dst,op,ty,pos,jf,jd⟩ S'=true->lD ⟨dst,op,ty,pos,jf,jd⟩=false->(∀a w,aM8 ⟨dst,op,ty,pos,jf,jd⟩ a w=vid w)->Xm c' (⟨i,k,false,false⟩::pend) (bif kI ⟨dst,op,ty,pos,jf,jd⟩ S' then⟨i,⟨dst,op,ty,pos,jf,jd⟩,pC ⟨dst,op,ty,pos,jf,jd⟩ S',v,false⟩::pl else pl):=by
  intro k ⟨off,nt,hk⟩ h1 h2 h3;rw[h1];have h4:=hx.1;rw[hk]at h4;obtain⟨e,id,g1,g2,g3⟩:=h4;have g3:v= .ptr id off:=g3;exact⟨⟨rfl,rfl,h2.symm,λ_=>⟨e,id,g1,g2,by simp only[h3];rw[g3];rfl⟩⟩,hp⟩
 cases op with
 |load t a=>
  have h1:=(dM F a).1;simp only[a0H]at h;split at h
  .rename_i k off nt ha;rw[ha]at h1;obtain⟨e,id,g1,g2,g3⟩:=h1;have g3:dE S' a= .ptr id off:=g3;cases h;simp only[kI,g3,aI];exact⟨⟨rfl,rfl,rfl,λ_=>⟨e,id,hl _ _ g1,g2,by simp only[aM8,pC,g3,a6h]⟩⟩,hp⟩
  .rename_i k ii off nt ha;rw[ha]at h1;obtain⟨e,id,g1,g2,_,_,g3⟩:=h1;have g3:dE S' a= .ptr id (ii.toNat*e.z+off):=g3;cases h;simp only[kI,g3,aI];exact⟨⟨rfl,rfl,rfl,λ_=>⟨e,id,hl _ _ g1,g2,by simp only[aM8,pC,g3,a6h]⟩⟩,hp⟩
  .rename_i w ha;rw[ha]at h1;obtain⟨es,ii,off,e,g1,_⟩:=h1;have g1:dE S' a= .pin es ii off:=g1;cases h;simp only[kI,g1,aJ];exact hp
  .cases h
 |alloc t=>
  simp only[a0H]at h;split at h
  .rename_i k off nt hk;cases h;exact box k ⟨off,nt,hk⟩ rfl rfl λ_ _=>rfl
  .cases h
 |box t y=>
  simp only[a0H]at h;split at h
  .rename_i k off nt hk;cases h;exact box k ⟨off,nt,hk⟩ rfl rfl λ_ _=>rfl
  .cases h
 |makeSlice t l k=>
  simp only[a0H,aA]at h;subst h;exact⟨⟨rfl,rfl,rfl,λe=>by cases e⟩,hp⟩
 |_=>exact other (λ_ _ e=>by cases e) rfl rfl
def qX{tc:pF U.D}(hc:CallOK U T tc pc){ops:Array Oper}{ms:List Nat}{K:TS U.D->TM U.D->Option W}: ∀(sc:List TStep) (pend:List QI) (pl:List jV) (S:TS U.D) (M:TM U.D) (S':PS) (p:PSt) (c:Cx),lS U c S S'->MR U q c0 c M p->WR U c M p->Xm c pend pl->
    sT U T tc ops ms sc pend S M K=some r->
    ∃c' S1 M1 S1' p',K S1 M1=some r/\kP P pc ops ms (sc.map TStep.un) pl S' p=some (S1',p')/\leC c c'/\lS U c' S1 S1'/\MR U q c0 c' M1 p'/\p.next<=p'.next
 |[],pend,pl,S,M,S',p,c,F,Mm,β,Pd,h=>by
  unfold sT at h;cases hb:Ka M.wr pend with
  |false=>rw[hb]at h;cases h
  |true=>
   rw[hb]at h;exact⟨c,S,M,S',p,h,by simp only[List.map_nil,kP,C8 β Pd hb,aI],leC.refl c,F,Mm,aS _⟩
 | .app a i s::rest,pend,pl,S,M,S',p,c,F,Mm,β,Pd,h=>by
  unfold sT at h;split at h
  .rename_i oA oI oS e1 e2 e3;obtain⟨S1,S1',h1,h2,h3⟩:=X8 hU hT h F;cases hb:Ka M.wr pend&&aFm ms a pend with
   |false=>rw[hb]at h1;cases h1
   |true=>
    rw[hb]at h1;simp only[aC]at hb;have hpd:=Pn (ms:=ms) (i:=s) (Du (ms:=ms) (i:=a) (ap:=true) Pd);obtain⟨c',S2,M2,S2',p',g1,g2,g3⟩:=qX hc rest _ _ S1 M S1' p c h3 Mm β hpd h1;refine⟨c',S2,M2,S2',p',g1,?_,g3⟩;simp only[aO,TStep.un,kP,e1,e2,e3,h2,C8 β Pd hb.1,Xx Pd hb.2,Bool.and_self,aI];simpa using g2
  .cases h
 | .freeze t::rest,pend,pl,S,M,S',p,c,F,Mm,β,Pd,h=>by
  unfold sT at h;split at h
  .rename_i R hR;obtain⟨S1',p1,h1,h2,h3,h4⟩:=Sq hU F hR Mm;obtain⟨c',S2,M2,S2',p',g1,g2,g3,g4,g5,g6⟩:=qX hc rest pend pl R.1 R.2 S1' p1 c h2 h3 (h4 β) Pd h;refine⟨c',S2,M2,S2',p',g1,?_,g3,g4,g5,Nat.le_trans (runT_ok.pfreeze_next h1) g6⟩;simp only[aO,TStep.un,kP,h1,g2]
  .cases h
 | .op i take inst bk::rest,pend,pl,S,M,S',p,c,F,Mm,β,Pd,h=>by
  unfold sT at h;split at h
  .cases h
  .rename_i o ho;obtain⟨S0,F0,h|h⟩:=aF8 h F
   .obtain⟨hw,h⟩:=h;obtain⟨c1,x,S1,M1,v,own,S1',p1,h1,h2,h3,h4,h5,h6,hW,h7⟩:=aE8 hU hT hc F0 Mm h;cases he:kT o with
    |true=>
     rw[he]at h1;simp only[aI]at h1;cases hb:Ka M.wr pend with
     |false=>rw[hb]at h1;cases h1
     |true=>
      rw[hb]at h1;have hpd:=Du (ms:=ms) (i:=i) (ap:=oQ o) (RU h3 Pd);obtain⟨c',S2,M2,S2',p',g1,g2,g3,g4,g5,g6⟩:=qX hc rest _ _ _ M1 _ p1 c1 (Ak h5 h4) h6 (hW β) hpd h1;refine⟨c',S2,M2,S2',p',g1,?_,leC.trans h3 g3,g4,g5,Nat.le_trans h7 g6⟩;simp only[aO,TStep.un,kP,ho,hw,h2,he,C8 β Pd hb,aI];exact g2
    |false=>
     rw[he]at h1;simp only[aJ]at h1;split at h1
     .rename_i gj hpe;have hpd:=a0G hpe F0 h3 h4 (RU h3 Pd);obtain⟨c',S2,M2,S2',p',g1,g2,g3,g4,g5,g6⟩:=qX hc rest _ _ _ M1 _ p1 c1 (Ak h5 h4) h6 (hW β) hpd h1;refine⟨c',S2,M2,S2',p',g1,?_,leC.trans h3 g3,g4,g5,Nat.le_trans h7 g6⟩;simp only[aO,TStep.un,kP,ho,hw,h2,he,aJ];exact g2
     .cases h1
   .obtain⟨hw,h⟩:=h;obtain⟨c',S2,M2,S2',p',g1,g2,g3⟩:=qX hc rest pend pl _ M _ p c (Ak F0 V4) Mm β Pd h;refine⟨c',S2,M2,S2',p',g1,?_,g3⟩;simp only[aO,TStep.un,kP,ho,hw,g2]
end
end Go.TV
namespace Go.TV
open Go.AI Go.PI
section
variable{P:Program}{U:iR}{T:TP U.D}{c c0:Cx}{W:Type}{r:W}{q p:PSt}{M:TM U.D}{S:TS U.D}{S':PS}{pc:hY}
def Q3(c:Cx)(l:List Nat):Cx:=λk=>bif eA k l then c k else none
def D3{c:Cx}{l:List Nat}{k:Nat}{e:Ce}(h:Q3 c l k=some e):c k=some e/\eA k l=true:=by
 unfold Q3 at h;cases hb:eA k l with
 |true=>rw[hb]at h;exact⟨h,rfl⟩
 |false=>rw[hb]at h;cases h
def DZ{c:Cx}{l:List Nat}{k:Nat}{e:Ce}(h:c k=some e)(hm:eA k l=true):Q3 c l k=some e:=by
 unfold Q3;rw[hm];exact h
def LP{l:List Nat}: ∀{caps:List Nat} {ps:List PV},BW caps l=true->wN c caps ps->wN (Q3 c l) caps ps
 |[],[],_,_=>trivial
 |k::ks,x::ps,h,⟨⟨e,id,h1,h2,h3⟩,h4⟩=>by
  simp only[BW,aC]at h;exact⟨⟨e,id,DZ h1 h.1,h2,h3⟩,LP h.2 h4⟩
 |[],_::_,_,h=>h.elim
 |_::_,[],_,h=>h.elim
def GG: ∀{l:List (V U)} {ts:List Ty},GH U l ts=true->l.length=ts.length
 |[],[],_=>rfl
 |v::l,t::ts,h=>by
  simp only[GH,aC]at h;simp only[aM,GG h.2]
 |[],_::_,h=>by cases h
 |_::_,[],h=>by cases h
def aOY(hU:iM U){l:List Nat}{sh:Sh}{s:SV U.D}{d:List (V U)}{pv:PV}(h:wK U l sh s=some d)(r:tN U c s pv):
    ∃s',(∀rest,Re U sh (d++rest)=some (s',rest))/\tN U (Q3 c l) s' pv:=by
 cases sh with
 |val t=>
  simp only[wK]at h;split at h
  .rename_i v hv;cases h;obtain⟨h1,h2⟩:=lI hU hv r;refine⟨.val v,λrest=>?_,h2⟩
   simp only[aR,Re,h1,Ty.beq_rfl,aI]
  .cases h
 |tup ts=>
  cases s with
  |tup vs=>
   simp only[wK]at h;cases hb:GH U vs ts with
   |false=>rw[hb]at h;cases h
   |true=>
    rw[hb]at h;simp only[aI,aA]at h;subst h;refine⟨.tup vs,λrest=>?_,r⟩
    have:=GG hb;simp only[Re,<-this,List.take_left,List.drop_left,hb,aI]
  |_=>cases h
 |nl=>
  cases s with
  |nl=>simp only[wK,aA]at h;subst h;exact⟨.nl,λrest=>rfl,r⟩
  |_=>cases h
 |lc k off path=>
  cases s with
  |lc k' ff mj=>
   simp only[wK]at h;cases hb:Nat.beq k k'&&Nat.beq off ff&&wM path mj&&eA k l with
   |false=>rw[hb]at h;cases h
   |true=>
    rw[hb]at h;simp only[aI,aA]at h;subst h;simp only[aC,dJ,aD]at hb;obtain⟨⟨⟨rfl,rfl⟩,_⟩,hm⟩:=hb;obtain⟨e,id,g1,g2,g3⟩:=r;exact⟨.lc k off path,λrest=>rfl,e,id,DZ g1 hm,g2,g3⟩
  |_=>cases h
 |ep t=>
  cases s with
  |ep v=>
   simp only[wK]at h;cases hb:v.t.beq t with
   |false=>rw[hb]at h;cases h
   |true=>
    rw[hb]at h;simp only[aI,aA]at h;subst h;refine⟨.ep v,λrest=>?_,r⟩
    simp only[aR,Re,hb,aI]
  |_=>cases h
 |rw k=>
  cases s with
  |rw k'=>
   simp only[wK]at h;cases hb:Nat.beq k k'&&eA k l with
   |false=>rw[hb]at h;cases h
   |true=>
    rw[hb]at h;simp only[aI,aA]at h;subst h;simp only[aC,dJ,aD]at hb;obtain⟨rfl,hm⟩:=hb;obtain⟨e,g1,g2⟩:=r;exact⟨.rw k,λrest=>rfl,e,DZ g1 hm,g2⟩
  |_=>cases h
 |cl f caps=>
  cases s with
  |cl f' co=>
   simp only[wK]at h;cases hb:Nat.beq f f'&&wM caps co&&BW caps l with
   |false=>rw[hb]at h;cases h
   |true=>
    rw[hb]at h;simp only[aI,aA]at h;subst h;simp only[aC,dJ,aD]at hb;obtain⟨⟨rfl,h2⟩,hm⟩:=hb;have:=vM h2;subst this;obtain⟨ps,g1,g2⟩:=r;exact⟨.cl f caps,λrest=>rfl,ps,g1,LP hm g2⟩
  |_=>cases h
 |nf=>
  cases s with
  |nf=>simp only[wK,aA]at h;subst h;exact⟨.nf,λrest=>rfl,r⟩
  |_=>cases h
 |row t=>cases h
 |no=>simp only[wK,aA]at h;subst h;exact⟨.no,λrest=>rfl,trivial⟩
def XL(hU:iM U){bl:List Nat}(F:lS U c S S'): ∀{l:List (Nat×Sh×jF)} {d:List (V U)} (rest:List (V U)),aGd U bl S l=some d->
    ∃S0,aCN U l (d++rest)=some (S0,rest)/\lS U (Q3 c bl) S0 (keeps S' (l.map (·.1)))
 |[],d,rest,h=>by
  simp only[aGd,aA]at h;subst h;exact⟨[],rfl,λt=>⟨trivial,cB _ _⟩⟩
 |(t,s,rr)::l,d,rest,h=>by
  unfold aGd at h;split at h
  .rename_i a d' ha hd;cases hb:leR rr (lQ S t).2 with
   |false=>rw[hb]at h;cases h
   |true=>
    rw[hb]at h;simp only[aI,aA]at h;subst h;obtain⟨s',h1,h2⟩:=aOY hU ha (F t).1;obtain⟨S0,h3,h4⟩:=XL hU F rest hd;refine⟨(t,(s',rr))::S0,?_,?_⟩
    .rw[aQ];simp only[aCN,h1,h3]
    .exact sH h4 ⟨h2,aYX hb (F t).2⟩
  .cases h
def T2{bl:List Nat}{sh:Sh}{s:SV U.D}{d:List (V U)}{cs:List (PV×Bool)}(h:wK U bl sh s=some d)(hn:sh≠ .no)(r:yH U c s cs):
    ∃s',(∀rest,Re U sh (d++rest)=some (s',rest))/\yH U (Q3 c bl) s' cs:=by
 cases sh with
 |val t=>
  simp only[wK]at h;split at h
  .rename_i v hv;cases h;cases s with
   |val w=>
    simp only[HR]at hv;cases hb:w.t.beq t with
    |false=>rw[hb]at hv;cases hv
    |true=>
     rw[hb]at hv;cases hv;refine⟨.val v,λrest=>?_,r⟩
     simp only[aR,Re,hb,aI]
   |nl=>exact r.elim
   |zr _=>exact r.elim
   |_=>cases hv
  .cases h
 |cl f caps=>
  cases s with
  |cl f' co=>
   simp only[wK]at h;cases hb:Nat.beq f f'&&wM caps co&&BW caps bl with
   |false=>rw[hb]at h;cases h
   |true=>
    rw[hb]at h;simp only[aI,aA]at h;subst h;simp only[aC,dJ,aD]at hb;obtain⟨⟨rfl,h2⟩,hm⟩:=hb;have:=vM h2;subst this;obtain⟨pv,b,g0,ps,g1,g2⟩:=r;exact⟨.cl f caps,λrest=>rfl,pv,b,g0,ps,g1,LP hm g2⟩
  |_=>cases h
 |nf=>
  cases s with
  |nf=>simp only[wK,aA]at h;subst h;exact⟨.nf,λrest=>rfl,r⟩
  |_=>cases h
 |no=>exact(hn rfl).elim
 |row t=>cases h
 |tup ts=>cases s<;>first|exact r.elim|cases h
 |nl=>cases s<;>first|exact r.elim|cases h
 |lc k off path=>cases s<;>first|exact r.elim|cases h
 |ep t=>cases s<;>first|exact r.elim|cases h
 |rw k=>cases s<;>first|exact r.elim|cases h
def XM(Mm:MR U q c0 c M p){bl:List Nat}: ∀{l:List (Nat×Sh×jF)} {d:List (V U)} (rest:List (V U)),aCc U bl M.bx l=some d->(∀k,eA k (l.map (·.1))=true->eA k bl=true)->
    ∃M0,CN U l (d++rest)=some (M0,rest)/\(∀k,dQ M0 k=none->eA k (l.map (·.1))=false)/\(∀k b,dQ M0 k=some b->∃e,Q3 c bl k=some e/\CX U (Q3 c bl) p e b)
 |[],d,rest,h,_=>by
  simp only[aCc,aA]at h;subst h;exact⟨[],rfl,λ_ _=>rfl,λk b h=>by cases h⟩
 |(k,s,rr)::l,d,rest,h,hl=>by
  have dm: ∀k,eA k (l.map (·.1))=true->eA k bl=true:=λj hj=>hl j (by simp only[aO,eA,hj,Bool.or_true])
  have hk:eA k bl=true:=hl k (by simp only[aO,eA,Nat.beq_refl,Bool.true_or])
  have fin: ∀(dv dl:List (V U)) (b:BC U.D),aCc U bl M.bx l=some dl->d=dv++dl->(∀M1,CN U l (dl++rest)=some (M1,rest)->CN U ((k,s,rr)::l) (dv++(dl++rest))=some ((k,b)::M1,rest))->(∃e,Q3 c bl k=some e/\CX U (Q3 c bl) p e b)->
        ∃M0,CN U ((k,s,rr)::l) (d++rest)=some (M0,rest)/\(∀j,dQ M0 j=none->eA j (((k,s,rr)::l).map (·.1))=false)/\(∀j b,dQ M0 j=some b->∃e,Q3 c bl j=some e/\CX U (Q3 c bl) p e b):=by
   intro dv dl b hd he hu hb;obtain⟨M1,h1,h2,h3⟩:=XM Mm rest hd dm;refine⟨(k,b)::M1,by rw[he,aQ];exact hu M1 h1,λj hj=>?_,λj b' hj=>?_⟩
   .rw[gY]at hj;by_cases e1:j=k
    .rw[bI e1]at hj;cases hj
    .rw[bH e1]at hj;simp only[aO,eA,h2 j hj,Bool.or_false];exact aCp λe=>e1 e.symm
   .rw[gY]at hj;by_cases e1:j=k
    .rw[bI e1]at hj;simp only[aA]at hj;subst hj;rw[e1];exact hb
    .rw[bH e1]at hj;exact h3 j b' hj
  unfold aCc at h;split at h
  .rename_i cont rs d' hf hd;obtain⟨e,he,id,cs,hid,bc,hcs,kv⟩:=Mm.bx k _ hf;split at h
   .cases h
   .cases h
   .rename_i s0 nn hnn;split at h
    .rename_i a ha;cases hb:leR rr rs with
     |false=>rw[hb]at h;cases h
     |true=>
      rw[hb]at h;simp only[aI,aA]at h;obtain⟨s',g1,g2⟩:=T2 ha (λe=>hnn e) hcs
      have qd: ∀M1,CN U l (d'++rest)=some (M1,rest)->CN U ((k,s,rr)::l) (a++(d'++rest))=some ((k,.bx s' rr)::M1,rest):=by
       intro M1 hM1;have: ∀d2,CN U ((k,s,rr)::l) d2=(match Re U s d2 with|some (x,d')=>(match CN U l d' with|some (M,px)=>some ((k,.bx x rr)::M,px)|none=>none)|none=>none):=by
        intro d2;cases s with
        |row t=>exact(nn t rfl).elim
        |_=>cases d2<;>first|rfl|(simp only[CN])
       rw[this,g1];simp only[hM1]
      exact fin a d' (.bx s' rr) hd h.symm qd ⟨e,DZ he hk,id,cs,hid,bc,g2,JA hb kv⟩
    .cases h
  .rename_i et v d' hf hd;split at h
   .rename_i t;cases hb:et.beq t with
    |false=>rw[hb]at h;cases h
    |true=>
     rw[hb]at h;simp only[aI,aA]at h;obtain⟨e,he,hr⟩:=Mm.bx k _ hf;refine fin [⟨.sl et,v⟩] d' (.row et v) hd h.symm (λM1 hM1=>?_) ⟨e,DZ he hk,hr⟩
     simp only[aR,CN,hb,aI,hM1]
   .cases h
  .cases h
end
end Go.TV
namespace Go.TV
open Go.AI Go.PI
section
variable{P:Program}{U:iR}{T:TP U.D}{c c0:Cx}{W:Type}{r:W}{q p:PSt}{M:TM U.D}{S:TS U.D}{S':PS}{pc:hY}
def KR(hU:iM U){ct:Cut}{d:List (V U)}(h:Su U ct S M=some d)(F:lS U c S S')(Mm:MR U q c0 c M p):
    ∃S0 M0 c',IS U ct d=some (S0,M0)/\lS U c' S0 (keeps S' ct.ts)/\MR U q c0 c' M0 p:=by
 unfold Su at h;split at h
 .rename_i a b ha hb;cases h;obtain⟨S0,h1,h2⟩:=XL hU F b ha;obtain⟨M0,h3,h4,h5⟩:=XM Mm [] hb (λ_ h=>h)
  rw[bA]at h3;refine⟨S0,⟨M0,[]⟩,Q3 c (ct.bx.map (·.1)),by simp only[IS,h1,h3],h2,?_⟩
  refine⟨λk hk=>?_,h5,λk e id g1 g2=>Mm.lt k e id (D3 g1).1 g2,λk k' e e' id g1 g2 g3 g4=>Mm.inj k k' e e' id (D3 g1).1 (D3 g2).1 g3 g4,Mm.next,λk e g1 g2=>Mm.bor k e (D3 g1).1 g2,λk e id g1 g2 g3=>Mm.loc k e id (D3 g1).1 g2 g3,Mm.old,Mm.dirty,Mm.wr⟩
  unfold Q3;rw[h4 k hk];rfl
 .cases h
def MR.cln(Mm:MR U q c0 c M p):MR U q c0 c ⟨M.bx,[]⟩ (PI.cln p):=
 ⟨Mm.dom,λk b h=>by obtain⟨e,h1,h2⟩:=Mm.bx k b h;exact⟨e,h1,wB h2 λ_ _=>rfl⟩,Mm.lt,Mm.inj,Mm.next,Mm.bor,Mm.loc,Mm.old,Mm.dirty,λid hi=>by cases hi⟩
def MR.dty{p':PSt}(Mm:MR U q c0 c M p'){c1:Cx}{M1:TM U.D}(Mp:MR U q c0 c1 M1 p)(hn:p.next<=p'.next):MR U q c0 c M (PI.dty p p'):=
 ⟨Mm.dom,λk b h=>by obtain⟨e,h1,h2⟩:=Mm.bx k b h;exact⟨e,h1,wB h2 λ_ _=>rfl⟩,Mm.lt,Mm.inj,Mm.next,Mm.bor,Mm.loc,Mm.old,Mm.dirty,λid hi=>by
  have hi:id∈p'.wr.foldr Gg p.wr:=hi;rw[fJ]at hi;rcases hi with h|h
  .exact Mm.wr id h
  .obtain⟨h1,h2⟩:=Mp.wr id h;exact⟨Nat.lt_of_lt_of_le h1 hn,h2⟩⟩
variable(hU:iM U)(hT:rN P U T)
include hU hT
def aUf(P:Program)(U:iR)(T:TP U.D)(q:PSt)(c0:Cx)(run:{W:Type}->TS U.D->TM U.D->TK U.D W->Option W)(prun:PS->PSt->Option (Fl×PS×PSt)):Prop:=
 ∀(W:Type) (K:TK U.D W) (r:W) (S:TS U.D) (M:TM U.D) (S':PS) (p:PSt) (c:Cx),lS U c S S'->MR U q c0 c M p->run S M K=some r->
  ∃fl c' S1 M1 S1' p',K fl S1 M1=some r/\prun S' p=some (fl,S1',p')/\lS U c' S1 S1'/\MR U q c0 c' M1 p'/\p.next<=p'.next
omit hU hT in
def Px(hU:iM U){ct:Cut}{run:{W:Type}->TS U.D->TM U.D->TK U.D W->Option W}{prun:PS->PSt->Option (Fl×PS×PSt)}(hr:aUf P U T q c0 run prun){K:TK U.D W}:
    ∀(n:Nat) (d:List (V U)) (S0:TS U.D) (M0:TM U.D) (S':PS) (p:PSt) (c:Cx),IS U ct d=some (S0,M0)->lS U c S0 (keeps S' ct.ts)->MR U q c0 c M0 p->G5 U ct (λS M K=>run S M K) K n d=some r->
    ∃fl c' S1 M1 S1' p',K fl S1 M1=some r/\zW (λS p=>prun (keeps S ct.ts) p) n S' p=some (fl,S1',p')/\lS U c' S1 S1'/\MR U q c0 c' M1 p'/\p.next<=p'.next
 |0,d,S0,M0,S',p,c,hu,F,Mm,h=>by cases h
 |n+1,d,S0,M0,S',p,c,hu,F,Mm,h=>by
  simp only[G5,rG,hu]at h;obtain⟨fl,c1,S1,M1,S1',p1,h1,h2,h3,h4,h5⟩:=hr W _ r S0 M0 _ p c F Mm h;cases fl with
  |normal=>
   simp only[eY]at h1;split at h1
   .rename_i d' hd;obtain⟨S2,M2,c2,g1,g2,g3⟩:=KR hU hd h3 h4;obtain⟨fl,c',S3,M3,S3',p3,k1,k2,k3,k4,k5⟩:=Px hU hr n d' S2 M2 S1' p1 c2 g1 g2 g3 h1;exact⟨fl,c',S3,M3,S3',p3,k1,by simp only[zW,h2,k2],k3,k4,Nat.le_trans h5 k5⟩
   .cases h1
  |exit id=>exact⟨_,c1,S1,M1,S1',p1,h1,by simp only[zW,h2],h3,h4,h5⟩
  |ret=>exact⟨_,c1,S1,M1,S1',p1,h1,by simp only[zW,h2],h3,h4,h5⟩
omit hU hT in
def aFa{q:PSt}{c0 c:Cx}{ops:Array Oper}{S:TS U.D}{M:TM U.D}{S':PS}{p:PSt}(F:lS U c S S')(Mm:MR U q c0 c M p)(h:G0 U ops S M=true):D4 ops S' p=true:=by
 unfold G0 at h;unfold D4;split at h
 .rename_i e;rw[e]
 .rename_i s t e;rw[e];simp only;have r1:=(F s).1;have r2:=(F t).1;split at h
  .rename_i v k o2 p2 e1 e2;rw[e1]at r1;rw[e2]at r2;obtain⟨es,i,off,_,q1,_⟩:=r1;obtain⟨e',id,q2,q3,q4⟩:=r2;rw[q1,q4];simp only;split at h
   .rename_i bs br hf;obtain⟨e2',q5,bu,cs,q6,q7,_⟩:=Mm.bx k _ hf;rw[q2]at q5;cases q5;rw[q3]at q6;cases q6;rw[q7]
   .cases h
  .cases h
 .cases h
def aGo{tc:pF U.D}(hc:CallOK U T tc pc)(L:Nat): ∀(code:TC),aUf P U T q c0 (λ{W} S M K=>gW U T (W:=W) tc L code S M K) (fE P pc L code.pc):=by
 intro code;induction code with
 |skip=>intro W K r S M S' p c F Mm h;exact⟨.normal,c,S,M,S',p,h,rfl,F,Mm,aS _⟩
 |label l=>intro W K r S M S' p c F Mm h;exact⟨.normal,c,S,M,S',p,h,rfl,F,Mm,aS _⟩
 |region id ops draw ms sc=>
  intro W K r S M S' p c F Mm h;simp only[gW]at h;cases draw with
  |true=>
   obtain⟨c',S1,M1,S1',p',h1,h2,h3,h4,h5,h6⟩:=qX hU hT hc sc [] [] S ⟨M.bx,[]⟩ S' (PI.cln p) c F Mm.cln (λid hi=>by cases hi) trivial h
   obtain⟨h1,htw⟩:K .normal S1 M1=some r/\G0 U ops S1 M1=true:=by
    cases hb:G0 U ops S1 M1 with
    |true=>rw[hb,aI]at h1;exact⟨h1,rfl⟩
    |false=>rw[hb]at h1;cases h1
   refine⟨.normal,c',S1,M1,S1',PI.dty p p',h1,?_,h4,h5.dty Mm h6,h6⟩;simp only[TC.pc,fE,aI,h2,aGe,aFa h4 h5 htw,aK]
  |false=>
   obtain⟨c',S1,M1,S1',p',h1,h2,h3,h4,h5,h6⟩:=runT_ok hU hT hc sc S M S' p c F Mm h;refine⟨.normal,c',S1,M1,S1',p',h1,?_,h4,h5,h6⟩;simp only[TC.pc,fE,aJ,h2,aK]
 |seq a b fk lg=>
  intro W K r S M S' p c F Mm h;simp only[gW]at h;obtain⟨fl,c1,S1,M1,S1',p1,h1,h2,h3,h4,h5⟩:=fk W _ r S M S' p c F Mm h;cases fl with
  |normal=>
   obtain⟨fl,c2,S2,M2,S2',p2,g1,g2,g3,g4,g5⟩:=lg W _ r S1 M1 S1' p1 c1 h3 h4 h1;exact⟨fl,c2,S2,M2,S2',p2,g1,by simp only[TC.pc,fE,h2,g2],g3,g4,Nat.le_trans h5 g5⟩
  |exit id=>exact⟨_,c1,S1,M1,S1',p1,h1,by simp only[TC.pc,fE,h2],h3,h4,h5⟩
  |ret=>exact⟨_,c1,S1,M1,S1',p1,h1,by simp only[TC.pc,fE,h2],h3,h4,h5⟩
 |cond x a b fk lg=>
  intro W K r S M S' p c F Mm h;simp only[gW]at h;have h1:=(dM F x).1;split at h
  .rename_i w hx;rw[hx]at h1;have h1:dE S' x= .v (.bool w):=of_bool h1;rcases Fa h with⟨rfl,h⟩|⟨rfl,h⟩
   .obtain⟨fl,c1,S1,M1,S1',p1,g1,g2,g3⟩:=fk W _ r S M S' p c F Mm h;exact⟨fl,c1,S1,M1,S1',p1,g1,by simp only[TC.pc,fE,h1,g2],g3⟩
   .obtain⟨fl,c1,S1,M1,S1',p1,g1,g2,g3⟩:=lg W _ r S M S' p c F Mm h;exact⟨fl,c1,S1,M1,S1',p1,g1,by simp only[TC.pc,fE,h1,g2],g3⟩
  .cases h
 |block id a fk=>
  intro W K r S M S' p c F Mm h;simp only[gW]at h;obtain⟨fl,c1,S1,M1,S1',p1,h1,h2,h3,h4,h5⟩:=fk W _ r S M S' p c F Mm h;cases fl with
  |normal=>exact⟨_,c1,S1,M1,S1',p1,h1,by simp only[TC.pc,fE,h2],h3,h4,h5⟩
  |ret=>exact⟨_,c1,S1,M1,S1',p1,h1,by simp only[TC.pc,fE,h2],h3,h4,h5⟩
  |exit n=>
   simp only[cK]at h1;cases hb:Nat.beq n id with
   |true=>
    rw[hb]at h1;exact⟨_,c1,S1,M1,S1',p1,h1,by simp only[TC.pc,fE,h2,hb,aI],h3,h4,h5⟩
   |false=>
    rw[hb]at h1;exact⟨_,c1,S1,M1,S1',p1,h1,by simp only[TC.pc,fE,h2,hb,aJ],h3,h4,h5⟩
 |loop ct a fk=>
  intro W K r S M S' p c F Mm h;simp only[gW]at h;split at h
  .rename_i d hd;obtain⟨S0,M0,c1,g1,g2,g3⟩:=KR hU hd F Mm;obtain⟨fl,c',S3,M3,S3',p3,k1,k2,k3⟩:=Px hU fk L d S0 M0 S' p c1 g1 g2 g3 h;exact⟨fl,c',S3,M3,S3',p3,k1,k2,k3⟩
  .cases h
 |exit id=>intro W K r S M S' p c F Mm h;exact⟨.exit id,c,S,M,S',p,h,rfl,F,Mm,aS _⟩
 |ret=>intro W K r S M S' p c F Mm h;exact⟨.ret,c,S,M,S',p,h,rfl,F,Mm,aS _⟩
 |scope a fk=>intro W K r S M S' p c F Mm h;exact fk W K r S M S' p c F Mm h
 |cut ct a fk=>
  intro W K r S M S' p c F Mm h;simp only[gW]at h;split at h
  .rename_i d hd;obtain⟨S0,M0,c1,g1,g2,g3⟩:=KR hU hd F Mm;simp only[rG,g1]at h;exact fk W K r S0 M0 _ p c1 g2 g3 h
  .cases h
 |ice t a fk=>
  intro W K r S M S' p c F Mm h;simp only[gW]at h;split at h
  .rename_i R hR;obtain⟨S1',p1,h1,h2,h3,h4⟩:=Sq hU F hR Mm;obtain⟨fl,c2,S2,M2,S2',p2,g1,g2,g3,g4,g5⟩:=fk W K r R.1 R.2 S1' p1 c h2 h3 h;exact⟨fl,c2,S2,M2,S2',p2,g1,by simp only[TC.pc,fE,h1,g2],g3,g4,Nat.le_trans (runT_ok.pfreeze_next h1) g5⟩
  .cases h
 |other cd=>intro W K r S M S' p c F Mm h;cases h
def JC(F:lS U c S S')(Mm:MR U q c0 c M p): ∀{rs:List ResultVar} {ts:List Ty} {l:List (V U)},Gp U T S M rs ts=some l->
    ∃vs,gT P S' p rs=some vs/\List.map (λx=>wk x.1) vs=l.map (λv=>dP U v.t v.x)/\l.map (λv=>v.t)=ts/\
      (∀t v,rs=[.tmp t]->vs=[v]->v=S'.at t)/\(∀v w,vs=[w]->l=[v]->VR U v.t v.x w.1)/\(∀t fy w ng v l',rs= .tmp t::fy->vs=w::ng->l=v::l'->w=S'.at t/\VR U v.t v.x w.1)
 |[],[],l,h=>by
  simp only[Gp,aA]at h;subst h;exact⟨[],rfl,rfl,rfl,λ_ _ h=>(by cases h),λ_ _ h=>(by cases h),λ_ _ _ _ _ _ h=>(by cases h)⟩
 | .tmp t::rs,ty::ts,l,h=>by
  unfold Gp at h;split at h
  .rename_i v l' hv hl;cases h;obtain⟨h1,h2⟩:=lI hU hv (F t).1;obtain⟨vs,g1,g2,g3,_,_,_⟩:=JC F Mm hl;refine⟨S'.at t::vs,by simp only[gT,rV,g1],by rw[aO,aO,g2,h2.wk],by rw[aO,h1,g3],λt' v' e1 e2=>?_,λv' w e1 e2=>?_,λt' fy w ng v' l'' e1 e2 e3=>?_⟩
   .cases e1;cases e2;rfl
   .cases e1;cases e2;exact h2
   .cases e1;cases e2;cases e3;exact⟨rfl,h2⟩
  .cases h
 | .cell a t::rs,ty::ts,l,h=>by
  unfold Gp at h;split at h
  .rename_i k off nt ty' l' hk fh hl;split at h
   .rename_i cv rr hf;split at h
    .rename_i w o hw;cases hb:w.t.beq ty&&ty.beq ty'&&Nat.beq o off with
     |false=>rw[hb]at h;cases h
     |true=>
      rw[hb]at h;simp only[aI,aA]at h;subst h;simp only[aC,dJ,aD]at hb;obtain⟨⟨hb1,hb2⟩,rfl⟩:=hb;have e1:=Ty.beq_eq hb1;have e2:=Ty.beq_eq hb2;subst e2;have hs:=(F a).1;rw[hk]at hs;obtain⟨e,id,m1,m2,m3⟩:=hs;obtain⟨e',m1',bu,cs,m2',bc,⟨c1,c2,c3⟩,_⟩:=Mm.bx k _ hf;rw[m1]at m1';cases m1';rw[m2]at m2';cases m2';obtain⟨wt,wx⟩:=w;have e1:wt=ty:=e1;subst e1;obtain⟨g1,_⟩:=vL hU hw (⟨c1,c2⟩:SR cv.t cv.x (cs.map (·.1)));obtain⟨v,k1,k2,k3,k4⟩:=zQ hU hT fh g1;have dm:jX P p t (S'.at a).1=some v:=by rw[m3];simp only[jX,bc];exact k1
      obtain⟨vs,g1,g2,g3,_,_,_⟩:=JC F Mm hl;refine⟨(v,false)::vs,by simp only[gT,rV,dm,aK,g1],by rw[aO,aO,g2,k2.wk],by rw[aO,g3],λt' v' e1 e2=>?_,λv' w e1 e2=>?_,λt' fy w ng v' l'' e1 e2 e3=>?_⟩
      .cases e1
      .cases e1;cases e2;exact k2
      .cases e1
    .cases h
   .cases h
  .cases h
 |[],_::_,l,h=>by cases h
 | .tmp _::_,[],l,h=>by cases h
 | .cell _ _::_,[],l,h=>by cases h
omit hU hT in
def JY(Mm:MR U q c0 c M p): ∀{l:List (Sh×jF)} {bo:List jF} {j:Nat} {d:List (V U)},Ph U M l bo j=some d->
    ∃m,fV U l bo d=some m/\(∀i x,m[i]?=some x->∃e,c (j+i)=some e/\CX U c p e x)
 |[],[],j,d,h=>by
  simp only[Ph,aA]at h;subst h;exact⟨[],rfl,λi x h=>by simp at h⟩
 |(s,rr)::l,r::bo,j,d,h=>by
  have next: ∀{x0:BC U.D} {m:List (BC U.D)} {e:Ce},(∀i x,m[i]?=some x->∃e,c (j+1+i)=some e/\CX U c p e x)->c j=some e->CX U c p e x0->∀i x,(x0::m)[i]?=some x->∃e,c (j+i)=some e/\CX U c p e x:=by
   intro x0 m e g2 he k1 i x hx;cases i with
   |zero=>
    simp only[aU,aA]at hx;subst hx;exact⟨e,he,k1⟩
   |succ i=>
    rw[aT]at hx;have:=g2 i x hx
    rwa [show j+1+i=j+(i+1) by omega]at this
  unfold Ph at h;split at h
  .rename_i cont rs d' hf hd;obtain⟨e,he,id,cs,hid,bc,hcs,kv⟩:=Mm.bx j _ hf;obtain⟨m,g1,g2⟩:=JY Mm hd;split at h
   .rename_i t v;cases hb:v.t.beq t&&leR r rs with
    |false=>rw[hb]at h;cases h
    |true=>
     rw[hb]at h;simp only[aI,aA]at h;subst h;simp only[aC]at hb;exact⟨.bx (.val v) r::m,by simp only[fV,g1],next g2 he ⟨id,cs,hid,bc,hcs,JA hb.2 kv⟩⟩
   .rename_i f caps f' co;cases hb:Nat.beq f f'&&wM caps co with
    |false=>rw[hb]at h;cases h
    |true=>
     rw[hb]at h;simp only[aI,aA]at h;subst h;simp only[aC,dJ,aD]at hb;have e2:=vM hb.2;rw[<-hb.1,<-e2]at hcs;exact⟨.bx (.cl f caps) []::m,by simp only[fV,g1],next g2 he ⟨id,cs,hid,bc,hcs,λ_ _ h=>by cases h⟩⟩
   .cases h
  .rename_i et x d' hf hd;obtain⟨e,he,bh⟩:=Mm.bx j _ hf;obtain⟨m,g1,g2⟩:=JY Mm hd;split at h
   .rename_i t;cases hb:et.beq t with
    |false=>rw[hb]at h;cases h
    |true=>
     rw[hb]at h;simp only[aI,aA]at h;subst h;exact⟨.row et x::m,by simp only[fV,g1],next g2 he bh⟩
   .cases h
  .cases h
 |[],_::_,j,d,h=>by cases h
 |_::_,[],j,d,h=>by cases h
end
end Go.TV
namespace Go.TV
open Go.AI Go.PI
section
variable{P:Program}{U:iR}{T:TP U.D}{c c0:Cx}{q p:PSt}{M:TM U.D}{S:TS U.D}{S':PS}
def V2: ∀{l:List (Nat×Sh×jF)} {d rest:List (V U)} {S0:TS U.D},aCN U l d=some (S0,rest)->∀k,eA k (l.map (·.1))=false->lQ S0 k=(.no,[])
 |[],d,rest,S0,h,k,_=>by simp only[aCN,aA,aB]at h;rw[<-h.1];rfl
 |(t,s,r)::l,d,rest,S0,h,k,hk=>by
  unfold aCN at h;split at h
  .rename_i x d' hx;split at h
   .rename_i S1 px hS;simp only[aA,aB]at h;obtain⟨rfl,rfl⟩:=h;simp only[aO,eA,Bool.or_eq_false_iff]at hk;rw[Ew (λe=>by rw[e,Nat.beq_refl]at hk;cases hk.1)]
    exact V2 hS k hk.2
   .cases h
  .cases h
def OW: ∀(ps:List (Sh×Bool)) (i k:Nat),eA k ((cutOf.psL ps i).map (·.1))=(decide (i<=k)&&decide (k<i+ps.length))
 |[],i,k=>by simp[cutOf.psL,eA]
 |(s,o)::ps,i,k=>by
  simp only[cutOf.psL,aO,eA,OW ps (i+1) k,aM,dJ];rw[Bool.eq_iff_iff];simp only[Bool.or_eq_true,aC,aD];omega
def Ql: ∀(ps:List (Sh×jF)) (i k:Nat),eA k ((cutOf.bxL ps i).map (·.1))=(decide (i<=k)&&decide (k<i+ps.length))
 |[],i,k=>by simp[cutOf.bxL,eA]
 |(s,o)::ps,i,k=>by
  simp only[cutOf.bxL,aO,eA,Ql ps (i+1) k,aM,dJ];rw[Bool.eq_iff_iff];simp only[Bool.or_eq_true,aC,aD];omega
def aNr{k:Nat}{s:Sh}{rr:jF}{l:List (Nat×Sh×jF)}(nn: ∀t,s≠ .row t){d2:List (V U)}:CN U ((k,s,rr)::l) d2=(match Re U s d2 with|some (x,d')=>(match CN U l d' with|some (M,px)=>some ((k,.bx x rr)::M,px)|none=>none)|none=>none):=by
 cases s with
 |row t=>exact(nn t rfl).elim
 |_=>cases d2<;>first|rfl|(simp only[CN])
def V3: ∀{l:List (Nat×Sh×jF)} {d rest:List (V U)} {M0:List (Nat×BC U.D)},CN U l d=some (M0,rest)->∀k,dQ M0 k=none->eA k (l.map (·.1))=false
 |[],d,rest,M0,h,k,_=>rfl
 |(t,s,r)::l,d,rest,M0,h,k,hk=>by
  have fin: ∀{b:BC U.D} {M1:List (Nat×BC U.D)} {d':List (V U)},M0=(t,b)::M1->CN U l d'=some (M1,rest)->eA k (((t,s,r)::l).map (·.1))=false:=by
   intro b M1 d' e h1;subst e;rw[gY]at hk;by_cases e1:k=t
   .rw[bI e1]at hk;cases hk
   .rw[bH e1]at hk;simp only[aO,eA,V3 h1 k hk,Bool.or_false];exact aCp λe=>e1 e.symm
  have other:(∀t',s≠ .row t')->eA k (((t,s,r)::l).map (·.1))=false:=by
   intro nn;rw[aNr nn]at h;split at h
   .rename_i x d' _;split at h
    .rename_i M1 px h1;simp only[aA,aB]at h;obtain⟨e1,e2⟩:=h;subst e2;exact fin e1.symm h1
    .cases h
   .cases h
  cases s with
  |row t'=>
   cases d with
   |nil=>cases h
   |cons v d=>
    obtain⟨vt,vx⟩:=v;cases vt with
    |sl e=>
     simp only[CN]at h;cases hb:e.beq t' with
     |false=>rw[hb]at h;cases h
     |true=>
      rw[hb]at h;simp only[aI]at h;split at h
      .rename_i M1 d' h1;simp only[aA,aB]at h;obtain⟨e1,e2⟩:=h;subst e2;exact fin e1.symm h1
      .cases h
    |_=>cases h
  |_=>exact other λ_ e=>by cases e
def rA{n:Nat}: ∀{l:List (Sh×jF)} {rs:List jF} {d:List (V U)} {m:List (BC U.D)},fV U l rs d=some m->D7 n l=true->∀(i f:Nat) (caps:List Nat) (r:jF),m[i]?=some (.bx (.cl f caps) r)->uR caps n=true
 |[],[],[],m,h,_,i,f,caps,r,hm=>by simp only[fV,aA]at h;subst h;simp at hm
 |(.val t,rr)::l,r::rs,v::d,m,h,ho,i,f,caps,r',hm=>by
  simp only[fV]at h;split at h
  .rename_i m' h1;cases h;cases i with
   |zero=>simp at hm
   |succ i=>rw[aT]at hm;exact rA h1 ho i f caps r' hm
  .cases h
 |(.cl f0 caps0,rr)::l,r::rs,d,m,h,ho,i,f,caps,r',hm=>by
  simp only[fV]at h;simp only[D7,aC]at ho;split at h
  .rename_i m' h1;cases h;cases i with
   |zero=>
    simp only[aU,aA,BC.bx.injEq,SV.cl.injEq]at hm;rw[<-hm.1.2];exact ho.1
   |succ i=>rw[aT]at hm;exact rA h1 ho.2 i f caps r' hm
  .cases h
 |[],_::_,_,_,h,_,_,_,_,_,_=>by simp[fV]at h
 |[],[],_::_,_,h,_,_,_,_,_,_=>by simp[fV]at h
 |(s,rr)::l,[],d,m,h,_,_,_,_,_,_=>by cases s<;>simp[fV]at h
 |(.val t,rr)::l,r::rs,[],m,h,_,_,_,_,_,_=>by simp[fV]at h
 |(.tup _,_)::_,_::_,_,_,h,_,_,_,_,_,_=>by simp[fV]at h
 |(.nl,_)::_,_::_,_,_,h,_,_,_,_,_,_=>by simp[fV]at h
 |(.lc _ _ _,_)::_,_::_,_,_,h,_,_,_,_,_,_=>by simp[fV]at h
 |(.ep _,_)::_,_::_,_,_,h,_,_,_,_,_,_=>by simp[fV]at h
 |(.rw _,_)::_,_::_,_,_,h,_,_,_,_,_,_=>by simp[fV]at h
 |(.nf,_)::_,_::_,_,_,h,_,_,_,_,_,_=>by simp[fV]at h
 |(.row t,rr)::l,r::rs,⟨.sl e,x⟩::d,m,h,ho,i,f,caps,r',hm=>by
  simp only[fV]at h;split at h
  .rename_i m' h1;cases h;cases i with
   |zero=>simp at hm
   |succ i=>rw[aT]at hm;exact rA h1 ho i f caps r' hm
  .cases h
 |(.row t,rr)::l,r::rs,[],m,h,_,_,_,_,_,_=>by simp[fV]at h
 |(.row t,rr)::l,r::rs,⟨.int _,x⟩::d,m,h,_,_,_,_,_,_=>by simp[fV]at h
 |(.row t,rr)::l,r::rs,⟨.bool,x⟩::d,m,h,_,_,_,_,_,_=>by simp[fV]at h
 |(.row t,rr)::l,r::rs,⟨.str,x⟩::d,m,h,_,_,_,_,_,_=>by simp[fV]at h
 |(.row t,rr)::l,r::rs,⟨.rc _,x⟩::d,m,h,_,_,_,_,_,_=>by simp[fV]at h
 |(.no,_)::_,_::_,_,_,h,_,_,_,_,_,_=>by simp[fV]at h
def vF: ∀{l:List (Sh×jF)} {rs:List jF} {d:List (V U)} {m:List (BC U.D)},fV U l rs d=some m->∀(i:Nat),m[i]?=some .gone->False
 |l,rs,d,m,h,i,hm=>by
  unfold fV at h;split at h
  .simp only[aA]at h;subst h;simp at hm
  .split at h
   .rename_i m' h1;cases h;cases i with
    |zero=>simp at hm
    |succ i=>rw[aT]at hm;exact vF h1 i hm
   .cases h
  .split at h
   .rename_i m' h1;cases h;cases i with
    |zero=>simp at hm
    |succ i=>rw[aT]at hm;exact vF h1 i hm
   .cases h
  .split at h
   .rename_i m' h1;cases h;cases i with
    |zero=>simp at hm
    |succ i=>rw[aT]at hm;exact vF h1 i hm
   .cases h
  .cases h
def HQ{n:Nat}: ∀{l:List PV},(∀x∈l,below n x=true)->jN n l=true
 |[],_=>rfl
 |x::l,h=>by
  show(below n x&&jN n l)=true;rw[h x (aH ..),HQ λy hy=>h y (aG _ hy)];rfl
def aG9{n:Nat}{x:PV}(h:gd (wk x)=true):below n x=true:=by
 cases x with
 |agg cs=>simp[wk,gd]at h
 |tup cs=>simp[wk,gd]at h
 |ptr i o=>simp[wk,gd]at h
 |rs i o l=>simp[wk,gd]at h
 |mp i=>simp[wk,gd]at h
 |fn f a b=>simp[wk,gd]at h
 |_=>rfl
def Fc{n:Nat}: ∀{caps:List Nat} {ps:List PV},wN c caps ps->(∀k e id,k∈caps->c k=some e->e.id=some id->id<n)->jN n ps=true
 |[],[],_,_=>rfl
 |k::ks,x::ps,⟨⟨e,id,h1,h2,h3⟩,h4⟩,hb=>by
  simp only[jN,Fc h4 (λk' e id hk=>hb k' e id (aG _ hk)),bE]
  rw[h3];simp only[below,iF,aD];exact hb k e id (aH ..) h1 h2
 |[],_::_,h,_=>h.elim
 |_::_,[],h,_=>h.elim
def BX{n:Nat}: ∀{l:List Nat},uR l n=true->∀k∈l,k<n
 |x::l,h,k,hk=>by
  simp only[uR,aC,iF,aD]at h;rcases List.mem_cons.1 hk with rfl|hk
  .exact h.1
  .exact BX h.2 k hk
def Qg{c':Cx}: ∀{caps:List Nat} {ps:List PV},wN c caps ps->(∀k e,k∈caps->c k=some e->c' k=some e)->wN c' caps ps
 |[],[],_,_=>trivial
 |k::ks,x::ps,⟨⟨e,id,h1,h2,h3⟩,h4⟩,hb=>⟨⟨e,id,hb k e (aH ..) h1,h2,h3⟩,Qg h4 λk' e hk=>hb k' e (aG _ hk)⟩
 |[],_::_,h,_=>h.elim
 |_::_,[],h,_=>h.elim
def Xr{O:Gh}{s:QJ}{d:List (V U)}{args:List (PV×Bool)}{cc:Cx}{S0:TS U.D}{M0:TM U.D}(bz:aOj O s=true)(hf:Nat.beq s.f O.n=true)(hin:Gc U s d p cc args S0 M0):
    s.bx=[]/\s.bo=[]/\s.rs=[.str]/\s.own=false/\∃a b o1 o2,d=[⟨.int .i64,a⟩,⟨.int .i64,b⟩]/\args=[(.v (.int .i64 a),o1),(.v (.int .i64 b),o2)]:=by
 obtain⟨f,ps,bx,bo,rs,own⟩:=s;unfold aOj at bz;rw[hf,aI]at bz;split at bz
 .rename_i e1 e2 e3 e4 e5;simp only at e1 e2 e3 e4 e5;subst e1;subst e2;subst e3;subst e4;subst e5;refine⟨rfl,rfl,rfl,rfl,?_⟩;have bw:=hin.start;have hu: ∀(t:Ty) (x:Den U.D t) (l:List (V U)),Re U (.val (.int .i64)) (⟨t,x⟩::l)=bif t.beq (.int .i64)then some (.val ⟨t,x⟩,l)else none:=λ_ _ _=>rfl
  simp only[IS,cutOf,cutOf.psL,cutOf.bxL,aCN]at bw
  match d,bw,hin with
  |[],bw,_=>cases bw
  |[⟨t,x⟩],bw,_=>
   rw[hu]at bw;cases h1:t.beq (.int .i64)with
   |false=>rw[h1]at bw;cases bw
   |true=>rw[h1]at bw;cases bw
  |⟨t,x⟩::⟨u,y⟩::r,bw,hin=>
   rw[hu]at bw;cases h1:t.beq (.int .i64)with
   |false=>rw[h1]at bw;cases bw
   |true=>
    rw[h1,aI]at bw;simp only[hu]at bw;cases h2:u.beq (.int .i64)with
    |false=>rw[h2]at bw;cases bw
    |true=>
     have e1:=Ty.beq_eq h1;have e2:=Ty.beq_eq h2;subst e1;subst e2;rw[h2,aI]at bw;cases r with
     |cons z r=>cases bw
     |nil=>
      simp only[CN,aA,aB]at bw;obtain⟨g1,g2⟩:=bw
      match args,hin.len,hin.args with
      |[(p1,o1),(p2,o2)],_,ha=>
       have a1:=(ha 0 _ rfl).1;have a2:=(ha 1 _ rfl).1;rw[<-g1]at a1 a2;refine⟨x,y,o1,o2,rfl,?_⟩;have b1:p1= .v (.int .i64 x):=jB a1;have b2:p2= .v (.int .i64 y):=jB a2;rw[b1,b2]
 .cases bz
def Pj{O:Gh}{s:QJ}{d:List (V U)}{args:List (PV×Bool)}{cc:Cx}{S0:TS U.D}{M0:TM U.D}(bz:aOj O s=true)(hn:Nat.beq s.f O.n=false)(hf:Nat.beq s.f O.m=true)(hin:Gc U s d p cc args S0 M0):
    s.bx=[]/\s.bo=[]/\s.rs=[.bool]/\s.own=false/\d=[]/\args=[]:=by
 obtain⟨f,ps,bx,bo,rs,own⟩:=s;unfold aOj at bz;rw[hn,aJ,hf,aI]at bz;split at bz
 .rename_i e1 e2 e3 e4 e5;simp only at e1 e2 e3 e4 e5;subst e1;subst e2;subst e3;subst e4;subst e5;refine⟨rfl,rfl,rfl,rfl,?_,?_⟩
  .have bw:=hin.start;simp only[IS,cutOf,cutOf.psL,cutOf.bxL,aCN]at bw;cases d with
   |nil=>rfl
   |cons x d=>simp only[CN]at bw;cases bw
  .exact List.length_eq_zero_iff.1 hin.len
 .cases bz
variable(hU:iM U)(hT:rN P U T)
include hU hT
omit hU hT in
def aDH{own:Bool}{a:List (V U)}(h: ∀v,a≠ [v]): ∃rs0,CQ U own a=(.tup a,rs0)/\(rs0=[]∨∃v b,a=[v,⟨.bool,b⟩]/\own=true/\b=true/\rs0=[(0,true)]):=by
 unfold CQ;split
 .rename_i v;exact(h v rfl).elim
 .rename_i v b;refine⟨_,rfl,?_⟩;cases own with
  |false=>exact .inl rfl
  |true=>
   cases b with
   |false=>exact .inl rfl
   |true=>exact .inr ⟨v,true,rfl,rfl,rfl,rfl⟩
 .exact⟨[],rfl,.inl rfl⟩
def NX{tc:pF U.D}{pc:hY}(ih:CallOK U T tc pc){L:Nat}{s:QJ}{code:TC}{rs:List ResultVar}(hb1:s.bx.length<=100)(hb2:D7 s.bx.length s.bx=true){d out:List (V U)}
    (h:rG U (cutOf s) (λS M=>gW U T tc L code S M (aGh U T s rs)) d=some out) {p:PSt} {cc:Cx} {args:List (PV×Bool)} {S0:TS U.D} {M0:TM U.D} (hin:Gc U s d p cc args S0 M0):
    ∃pv own p',DD P pc L code.pc rs args p=some (pv,own,p')/\aAq U s out p cc pv own p':=by
 simp only[rG,hin.start]at h;have bw:=hin.start;unfold IS at bw;split at bw
 .rename_i Sa da hSa;split at bw
  .rename_i Ma hMa;simp only[aA,aB]at bw;obtain⟨e1,e2⟩:=bw;subst e1;subst e2;have gk: ∀k e,cc k=some e->k<s.bx.length:=λk e hk=>by
    rcases Nat.lt_or_ge k s.bx.length with h|h
    .exact h
    .rw[hin.dom k h]at hk;cases hk
   have F0:lS U cc Sa (Am args 0 .none):=by
    intro k;rw[P2];by_cases hk:k<args.length
    .rw[bI ⟨Nat.zero_le _,by omega⟩,Nat.sub_zero,aV hk]
     exact hin.args k _ (aV hk)
    .rw[bH (by omega)]
     have:lQ Sa k=(.no,[]):=V2 hSa k (by
      show eA k ((cutOf.psL s.ps 0).map (·.1))=false;rw[OW];have:=hin.len;simp;omega)
     rw[this];exact⟨trivial,cB _ _⟩
   have M0':MR U p cc cc ⟨Ma,[]⟩ (a59 p):=by
    refine⟨λk hk=>?_,λk b hk=>?_,hin.lt,hin.inj,aS _,λk e h1 _=>h1,λk e id h1 h2 h3=>?_,λid _ _=>rfl,λid hi=>(by cases hi),λid hi=>(by cases hi)⟩
    .have:=V3 hMa k hk;rw[show(cutOf s).bx=cutOf.bxL s.bx 0 from rfl,Ql]at this
     refine hin.dom k ?_;simp at this;omega
    .obtain⟨e,h1,h2⟩:=hin.bx k b hk;exact⟨e,h1,wB h2 λ_ _=>rfl⟩
    .have:=gk k e h1;omega
   obtain⟨fl,c1,S1,M1,S1',p1,h1,h2,h3,h4,h5⟩:=aGo hU hT ih L code (List (V U)) (aGh U T s rs) out Sa ⟨Ma,[]⟩ (Am args 0 .none) (a59 p) cc F0 M0' h;have kd:(∀id,fl≠ .exit id)/\∃a b,Gp U T S1 M1 rs s.rs=some a/\Ph U M1 s.bx s.bo 0=some b/\KS U S1 rs s.own s.rs a=true/\out=a++b:=by
    have key: ∀(r:Option (List (V U))),r=(match Gp U T S1 M1 rs s.rs,Ph U M1 s.bx s.bo 0 with|some a,some b=>bif KS U S1 rs s.own s.rs a then some (a++b)else none|_,_=>none)->r=some out->∃a b,Gp U T S1 M1 rs s.rs=some a/\Ph U M1 s.bx s.bo 0=some b/\KS U S1 rs s.own s.rs a=true/\out=a++b:=by
     intro r e1 e2;rw[e1]at e2;split at e2
     .rename_i a b ha bv;cases hw:KS U S1 rs s.own s.rs a with
      |false=>rw[hw]at e2;cases e2
      |true=>rw[hw]at e2;cases e2;exact⟨a,b,ha,bv,hw,rfl⟩
     .cases e2
    cases fl with
    |exit id=>cases h1
    |normal=>exact⟨λ_ e=>(by cases e),key _ rfl h1⟩
    |ret=>exact⟨λ_ e=>(by cases e),key _ rfl h1⟩
   obtain⟨bp,a,b,ha,bv,hw,rfl⟩:=kd;obtain⟨vs,r1,r2,r3,r4,r5,r6⟩:=JC hU hT h3 h4 ha;obtain⟨m,o1,o2⟩:=JY h4 bv;simp only[Nat.zero_add]at o2;have ju:a.length=s.rs.length:=by rw[<-r3,List.length_map]
   have htake:(a++b).take s.rs.length=a:=by rw[<-ju];exact List.take_left
   have fu:(a++b).drop s.rs.length=b:=by rw[<-ju];exact List.drop_left
   have kf:qB U cc (CQ U s.own a) ((eN vs).1,(eN vs).2)/\below p.next (eN vs).1=true:=by
    have hlen:vs.length=a.length:=by have:=congrArg List.length r2;simpa using this
    have htup:(∀v,a≠ [v])->(qB U cc (CQ U s.own a) ((eN vs).1,(eN vs).2)/\below p.next (eN vs).1=true):=by
     intro hn1;obtain⟨rs0,e1,hrs0⟩:=aDH (own:=s.own) hn1;have e2: ∃fg,eN vs=(.tup (wks (vs.map (·.1))),fg)/\∀w w' l,vs=w::w'::l->fg=((w.2||kS w.1)&& !Kw w.1&&aFO w.1):=by
      cases vs with
      |nil=>exact⟨false,rfl,λ_ _ _ h=>by cases h⟩
      |cons w vs=>cases vs with
       |cons w' vs=>exact⟨_,rfl,λ_ _ _ h=>by cases h;rfl⟩
       |nil=>
        cases a with
        |nil=>simp at hlen
        |cons x a=>cases a with
         |nil=>exact(hn1 x rfl).elim
         |cons y a=>simp at hlen
     obtain⟨fg,e2,po⟩:=e2;have e3:wks (vs.map (·.1))=a.map λv=>dP U v.t v.x:=by rw[mI,List.map_map];exact r2
     rw[e1,e2];refine⟨⟨⟨_,rfl,e3⟩,?_⟩,?_⟩
     .rcases hrs0 with rfl|⟨v,b,rfl,ho,rfl,rfl⟩
      .exact cB _ _
      ·
       obtain⟨w,w',rfl⟩: ∃w w',vs=[w,w']:=by
        match vs,hlen with
        |[w,w'],_=>exact⟨w,w',rfl⟩
       have hF:aE4 U S1 rs=true:=by
        cases hf:aE4 U S1 rs with
        |true=>rfl
        |false=>simp[KS,ho,hf,bP8]at hw
       have jy:a8v s.rs=true:=by
        simp only[KS,ho,hF,aI,Bool.or_eq_true,aC]at hw;rcases hw with⟨h6,_⟩|h6
        .rw[<-r3]at h6;exact absurd (show Pk [v.t,Ty.bool]=true from h6) (by simp[Pk])
        .exact h6
       obtain⟨t,fy,kw,bw⟩: ∃t fy,rs= .tmp t::fy/\qA (lQ S1 t).2=true:=by
        unfold aE4 at hF;split at hF
        .exact⟨_,_,rfl,hF⟩
        .cases hF
       obtain⟨li,ku⟩:=r6 t fy w [w'] v _ kw rfl rfl;have cr: ∃e,v.t= .sl e:=by
        rw[<-r3]at jy;cases gp:v.t with
        |sl e=>exact⟨e,rfl⟩
        |_=>rw[aO,gp]at jy;cases jy
       obtain⟨e,cr⟩:=cr;have me:=oH ku (by rw[cr];rfl)
       have hN:aFO w.1=true:=by
        obtain⟨vt,vx⟩:=v;have cr:vt= .sl e:=cr;subst cr;obtain⟨_,hl⟩:=sU ku;rcases hl with⟨_,h8⟩|⟨_,h8⟩
        .rcases h8 with h8|h8|h8<;>rw[h8]<;>rfl
        .rw[h8];rfl
       have po:=po w w' [] rfl;rcases(h3 t).2 0 true (rS bw)with⟨g1,_⟩|⟨_,_,g1,g2⟩
       .rw[<-li,me]at g1;cases g1
       .rw[<-li]at g1 g2;have hfg1:fg=true:=by rw[po,g1,g2 rfl,hN];rfl
        intro o st hi;simp only[List.mem_singleton,aB]at hi;refine .inr ⟨hi.1,rfl,by rw[hfg1];rfl,λ_=>?_⟩
        rw[e3];show Kw (.tup (dP U v.t v.x::_))=false;have hg:gd (dP U v.t v.x)=true:=by
         obtain⟨vt,vx⟩:=v;have cr:vt= .sl e:=cr;subst cr;exact eZ _ _
        have:=Bp hg;rw[aOL];generalize dP U v.t v.x=y at this;cases y with
        |sl z es=>cases es with
         |nil=>cases this
         |cons _ _=>rfl
        |_=>rfl
     show jN p.next _=true
     rw[e3,fY];intro x hx;obtain⟨v,_,rfl⟩:=List.mem_map.1 hx;exact P4 hU _ _ _
    cases a with
    |nil=>exact htup λv e=>by cases e
    |cons v a=>
     cases a with
     |cons y a=>exact htup λv e=>by cases e
     |nil=>
      cases vs with
      |nil=>simp at hlen
      |cons w vs=>
       cases vs with
       |cons y vs=>simp at hlen
       |nil=>
        have hv:=r5 v w rfl rfl;refine⟨⟨aTj hU hv,?_⟩,?_⟩
        .cases ho:s.own with
         |false=>exact cB _ _
         |true=>
          have hB:a8v s.rs=false:=by rw[<-r3];cases gp:v.t<;>simp[a8v,gp]
          have hw1:a0K U S1 rs=true/\Pk s.rs=true:=by
           cases hf:aE4 U S1 rs with
           |true=>
            simp only[KS,ho,hf,aI,hB,Bool.or_false,aC]at hw;exact⟨hw.2,hw.1⟩
           |false=>simp[KS,ho,hf,hB]at hw
          obtain⟨hw1,hw2⟩:=hw1;have kw: ∃t,rs=[.tmp t]/\qA (lQ S1 t).2=true:=by
           unfold a0K at hw1;split at hw1
           .exact⟨_,rfl,hw1⟩
           .cases hw1
          obtain⟨t,rfl,hst2⟩:=kw;have li:=r4 t w rfl rfl;have cr:lO v.t=false:=by
           have hw3:Pk [v.t]=true:=by rw[<-r3]at hw2;exact hw2
           cases gp:v.t with
           |sl t=>rfl
           |_=>rw[gp]at hw3;cases hw3
          have me:=oH hv cr;rcases(h3 t).2 0 true (rS hst2)with⟨g1,_⟩|⟨_,_,g1,g2⟩
          .rw[<-li,me]at g1;cases g1
          .rw[<-li]at g1 g2;intro o st hi;have hi:(o,st)∈RW true:=hi;simp only[RW,List.mem_singleton,aB]at hi;refine .inr ⟨hi.1,?_,?_,λ_=>?_⟩
           .show isAgg (wk w.1)=false;rw[hv.wk,<-hv.wk];cases hh:w.1 with
            |agg cs=>rw[hh]at me;cases me
            |sl z es=>cases es<;>rfl
            |_=>rfl
           .show(((w.2||kS w.1)&& !Kw w.1)||kS (wk w.1))=true;rw[g1,g2 rfl];rfl
           .exact aFP w.1
        .show below p.next (wk w.1)=true
         rw[hv.wk];exact P4 hU _ _ _
   obtain⟨hslr,hbel⟩:=kf;have hmlen:m.length=s.bx.length:=uA o1;have hold: ∀id,id∈(p1.dirty.filter λid=>Nat.blt id p.next)↔id∈p1.dirty/\id<p.next:=λid=>by
    rw[List.mem_filter];simp only[iF,aD]
   have hidx: ∀k e id,cc k=some e->e.id=some id->∃x,m[k]?=some x/\c1 k=some e/\CX U c1 p1 e x:=by
    intro k e id hk hid;have bi:=gk k e hk;obtain⟨e',g1,g2⟩:=o2 k m[k] (aV (by omega))
    have:=h4.bor k e' g1 (by omega)
    rw[hk]at this;cases this;exact⟨_,aV (by omega),g1,g2⟩
   have mz: ∀id,id<p.next->p1.get id=p1.mem.get id:=λid hi=>by
    have:Nat.blt id p1.next=true:=by rw[iF,aD];exact Nat.lt_of_lt_of_le hi h5
    simp only[PSt.get,this,aI]
   have qo:(p1.dirty.filter λid=>Nat.blt id p.next).all (uO p.next p1.mem)=true:=by
    rw[bJ];intro id hi;obtain⟨hd,bi⟩:=(hold id).1 hi;obtain⟨k,e,g1,g2⟩:=h4.dirty id hd bi;obtain⟨x,g3,g4,g5⟩:=hidx k e id g1 g2;cases x with
    |gone=>exact(vF o1 k g3).elim
    |row t l=>
     obtain⟨_,hz,⟨g6,_⟩|⟨bu,g6,g7⟩⟩:=g5
     .rw[g2]at g6;cases g6
     rw[g2]at g6;cases g6;rw[mz id bi]at g7;simp only[uO,g7,sL];exact HQ λy hy=>by
      obtain⟨y',mn,hx⟩:=List.mem_flatMap.1 hy;obtain⟨a,_,rfl⟩:=List.mem_map.1 mn;exact Ez (bJ.1 (tF hU t a) y hx)
    |bx sv rr=>
    obtain⟨bu,cs,g6,g7,g8,_⟩:=g5;rw[g2]at g6;cases g6;have g5:=g7;have g6:=g8;rw[mz id bi]at g5;simp only[uO,g5,sL,bJ];intro y hy;cases sv with
    |val v=>
     obtain⟨k1,k2,k3⟩:=g6;exact aG9 ((⟨k1,k2⟩:SR v.t v.x (cs.map (·.1))).gd hU (List.mem_map.2 ⟨y,hy,rfl⟩))
    |cl f caps=>
     obtain⟨pv,bb,e1,ps,e2,e3⟩:=g6;rw[e1,List.mem_singleton]at hy;rw[hy,e2];show(jN p.next []&&jN p.next ps)=true
     rw[Fc e3 λk' e' bu gf h6 h7=>hin.lt k' e' bu (h4.bor k' e' h6 (by have:=BX (rA o1 hb2 k f caps rr g3) k' gf;omega)) h7]
     rfl
    |nf=>
     obtain⟨bb,e1⟩:=g6;rw[e1,List.mem_singleton]at hy;rw[hy];rfl
    |_=>exact g6.elim
   have jj:PI.settle p (eN vs).1 p1=⟨(p1.dirty.filter λid=>Nat.blt id p.next).foldr (aHb p1.mem) p.mem,p.next,(p1.dirty.filter λid=>Nat.blt id p.next).foldr Gg p.dirty,(p1.wr.filter λid=>Nat.blt id p.next).foldr Gg p.wr⟩:=by
    unfold PI.settle;rw[hbel,qo];rfl
   have hfm:=Bq (mem:=p.mem) (q:=p1.mem) (old:=p1.dirty.filter λid=>Nat.blt id p.next) (λid hi e=>by
    have:=bJ.1 qo id hi;simp only[uO,e]at this;cases this)
   have bc: ∀id,id<p.next->(PI.settle p (eN vs).1 p1).get id=if id∈(p1.dirty.filter λid=>Nat.blt id p.next)then p1.get id else p.get id:=by
    intro id hi;rw[jj];have hbl:Nat.blt id p.next=true:=by rw[iF,aD];exact hi
    show(bif Nat.blt id p.next then _ else none)=_
    rw[hbl,aI,hfm id,mz id hi];by_cases h6:id∈(p1.dirty.filter λid=>Nat.blt id p.next)
    .rw[bI h6,bI h6]
    .rw[bH h6,bH h6];simp only[PSt.get,hbl,aI]
   have qn: ∀id,id<p.next->(PI.settle p (eN vs).1 p1).get id=p1.get id:=by
    intro id hi;rw[bc id hi];by_cases h6:id∈(p1.dirty.filter λid=>Nat.blt id p.next)
    .rw[bI h6]
    .rw[bH h6];exact(h4.old id hi λhd=>h6 ((hold id).2 ⟨hd,hi⟩)).symm
   refine⟨(eN vs).1,(eN vs).2,PI.settle p (eN vs).1 p1,?_,?_⟩
   .have:DD P pc L code.pc rs args p=some ((eN vs).1,(eN vs).2,PI.settle p (eN vs).1 p1):=by
     simp only[DD,h2];cases fl with
     |exit id=>exact(bp id rfl).elim
     |normal=>simp only[r1]
     |ret=>simp only[r1]
    exact this
   .refine⟨by rw[htake];exact hslr,⟨m,by rw[fu];exact o1,λj x hj=>?_⟩,by rw[jj],λid hi dg=>?_,λid hi dg=>?_,λid hi=>?_,λid hi=>?_,λid hi=>?_⟩
    .obtain⟨e,g1,g2⟩:=o2 j x hj;have qm:j<m.length:=by
      rcases Nat.lt_or_ge j m.length with h|h
      .exact h
      .rw[List.getElem?_eq_none h]at hj;cases hj
     have hcj:=h4.bor j e g1 (by omega)
     refine⟨e,hcj,?_⟩;cases x with
     |gone=>trivial
     |row t l=>
      obtain⟨k1,k2,k3⟩:=g2;refine⟨k1,k2,?_⟩;rcases k3 with k3|⟨id,k3,k4⟩
      .exact .inl k3
      .exact .inr ⟨id,k3,by rw[qn id (hin.lt j e id hcj k3)];exact k4⟩
     |bx sv rr=>
     obtain⟨id,cs,g2,g3,g4,g5⟩:=g2;refine⟨id,cs,g2,by rw[qn id (hin.lt j e id hcj g2)];exact g3,?_,g5⟩
     cases sv with
     |cl f caps=>
      obtain⟨pv,bb,e1,ps,e2,e3⟩:=g4;exact⟨pv,bb,e1,ps,e2,Qg e3 λk' e' gf h6=>h4.bor k' e' h6 (by have:=BX (rA o1 hb2 j f caps rr hj) k' gf;omega)⟩
     |_=>exact g4
    .rw[bc id hi,bH];intro h6;obtain⟨hd,bi⟩:=(hold id).1 h6;obtain⟨k,e,g1,g2⟩:=h4.dirty id hd bi;exact dg k e g1 g2
    .rw[jj]at dg;have dg:id∉(p1.dirty.filter λid=>Nat.blt id p.next).foldr Gg p.dirty:=dg
     rw[fJ]at dg;rw[bc id hi,bH λh6=>dg (.inl h6)]
    .rw[jj]at hi;have hi:id∈(p1.dirty.filter λid=>Nat.blt id p.next).foldr Gg p.dirty:=hi
     rw[fJ]at hi;rcases hi with h6|h6
     .obtain⟨hd,bi⟩:=(hold id).1 h6;exact .inr (h4.dirty id hd bi)
     .exact .inl h6
    .rw[jj];show id∈(p1.dirty.filter λid=>Nat.blt id p.next).foldr Gg p.dirty
     rw[fJ];exact .inr hi
    .rw[jj]at hi;have hi:id∈(p1.wr.filter λid=>Nat.blt id p.next).foldr Gg p.wr:=hi
     rw[fJ]at hi;rcases hi with h6|h6
     .rw[List.mem_filter,iF,aD]at h6;exact .inr ((h4.wr id h6.1).2 h6.2)
     .exact .inl h6
  .cases bw
 .cases bw
def Qi{G:a4C}{GP:aJm}(hG: ∀i s code rs,T.sig i=some s->G i=some (code,rs)->GP s.f=some (code.pc,rs))(hA: ∀i s,T.sig i=some s->BU P s.f s.ps.length=true)(L:Nat): ∀n,CallOK U T (Ci U T G L n) (pA P T.orc GP L n):=by
 intro n;induction n with
 |zero=>intro inst s d out hs h;cases h
 |succ n ih=>
  intro inst s d out hs h p cc args S0 M0 hin;simp only[Ci,hs]at h;split at h
  .rename_i s' code rs fm hg;cases fm;cases hb:aOj T.orc s&&Nat.ble s.bx.length 100&&D7 s.bx.length s.bx with
   |false=>rw[hb]at h;cases h
   |true=>
    rw[hb]at h;simp only[aC,Nat.ble_eq]at hb;obtain⟨⟨hb0,hb1⟩,hb2⟩:=hb;rw[aI]at h;split at h
    .rename_i x hx;simp only[aA]at h;subst h;unfold aOd at hx;cases hf:Nat.beq s.f T.orc.n with
     |false=>
      rw[hf,aJ]at hx;cases hm:Nat.beq s.f T.orc.m with
      |false=>rw[hm]at hx;cases hx
      |true=>
       obtain⟨k1,k2,k3,k4,rfl,rfl⟩:=Pj hb0 hf hm hin;rw[hm,aI]at hx;cases hx;refine⟨.v (.bool true),false,p,?_,?_⟩
       .simp only[pA,aOe,hf,hm,aI,aJ,bLn]
       .refine⟨?_,⟨[],?_,λj x hj=>(by cases hj)⟩,rfl,λ_ _ _=>rfl,λ_ _ _=>rfl,λid h=> .inl h,λid h=>h,λid h=> .inl h⟩
        .rw[k3,k4];exact⟨fM _,cB _ _⟩
        .rw[k3,k1,k2];rfl
     |true=>
      obtain⟨k1,k2,k3,k4,a,b,o1,o2,rfl,rfl⟩:=Xr hb0 hf hin;rw[hf,aI]at hx;simp only at hx;rw[aF]at hx;obtain⟨x,hx,rfl⟩:=hx;refine⟨.str x,false,p,?_,?_⟩
      .simp only[pA,aOe,hf,aI,hx,aK,bLn]
      .refine⟨?_,⟨[],?_,λj x hj=>(by cases hj)⟩,rfl,λ_ _ _=>rfl,λ_ _ _=>rfl,λid h=> .inl h,λid h=>h,λid h=> .inl h⟩
       .rw[k3,k4];exact⟨FQ _,cB _ _⟩
       .rw[k3,k1,k2];rfl
    rename_i ca;have dg:aOe T.orc s.f args=none/\aSn T.orc s.f args=true:=by
     unfold aOe aSn;cases hf:Nat.beq s.f T.orc.n with
     |false=>
      cases hm:Nat.beq s.f T.orc.m with
      |false=>exact⟨rfl,rfl⟩
      |true=>
       obtain⟨k1,k2,k3,k4,rfl,rfl⟩:=Pj hb0 hf hm hin;unfold aOd at ca;rw[hf,aJ,hm,aI]at ca;cases ca
     |true=>
      obtain⟨k1,k2,k3,k4,a,b,o1,o2,rfl,rfl⟩:=Xr hb0 hf hin;unfold aOd at ca;rw[hf,aI]at ca;exact⟨ca,rfl⟩
    have kr:BU P s.f args.length=true:=by rw[hin.len];exact hA _ _ hs
    have hGP:=hG inst s code rs hs hg;obtain⟨pv,own,p',g1,g2⟩:=NX hU hT ih hb1 hb2 h hin;exact⟨pv,own,p',by simp only[pA,dg.1,dg.2,kr,bD,Bool.or_self,aJ,hGP,g1],g2⟩
  .cases h
end
end Go.TV
namespace Go.TV
open Go.AI Go.PI
inductive aJk where
 |n
 |r (tk:List Nat) (fz:List (Nat×Nat)) (cl:List (Nat×Nat×List Nat))
 |s (a b:aJk)
 |c (a b:aJk)
 |b (a:aJk)
 |l (ct:Cut) (a:aJk)
 |o (a:aJk)
 |d (ct:Cut) (a:aJk)
 |i (ts:List Nat) (a:aJk)
def bGJ(i:Nat):List (Nat×Nat)->List AX
 |[]=>[]
 |x::xs=>bif Nat.beq x.1 i then .freeze x.2::bGJ i xs else bGJ i xs
def GK(tk:List Nat)(fz:List (Nat×Nat))(i:Nat):List AX:=bGJ i fz++ [.op i (eA i tk)]
def aBH(ops:Array Oper)(tk:List Nat)(fz:List (Nat×Nat)):Nat->List Nat->List AX
 |0,l=>l.flatMap (GK tk fz)
 |f+1,a::i::s::l=>bif aSh ops a i s then .app a i s::aBH ops tk fz f l else GK tk fz a++aBH ops tk fz f (i::s::l)
 |_+1,l=>l.flatMap (GK tk fz)
def aGZ:List (Nat×Nat×List Nat)->Nat->Nat×List Nat
 |[],_=>(0,[])
 |x::l,i=>bif Nat.beq x.1 i then x.2 else aGZ l i
def aWI(cl:List (Nat×Nat×List Nat)):AX->TStep
 | .op i take=> .op i take (aGZ cl i).1 (aGZ cl i).2
 | .app a i s=> .app a i s
 | .freeze t=> .freeze t
def aNX(tk:List Nat)(fz:List (Nat×Nat))(cl:List (Nat×Nat×List Nat))(id:Nat)(ops:Array Oper):Bool->TC
 |true=> .region id ops true (eE ops.toList []) ((aBH ops tk fz ops.size (pV ops (eE ops.toList []))).map (aWI cl))
 |false=> .region id ops false [] ((aBH ops tk fz ops.size (List.range ops.size)).map (aWI cl))
def qS:Code->TC
 | .skip=> .skip
 | .label l=> .label l
 | .region id ops draw=>aNX [] [] [] id ops draw
 | .seq a b=> .seq (qS a) (qS b)
 | .cond x a b=> .cond x (qS a) (qS b)
 | .block id a=> .block id (qS a)
 | .exit id=> .exit id
 | .ret=> .ret
 | .scope a=> .scope (qS a)
 |c=> .other c
def XG:List Nat->TC->TC
 |[],c=>c
 |t::ts,c=> .ice t (XG ts c)
def gP:aJk->Code->TC
 | .n,c=>qS c
 | .d ct x,c=> .cut ct (gP x c)
 | .i ts x,c=>XG ts (gP x c)
 | .r tk fz cl,c=>match c with| .region id ops draw=>aNX tk fz cl id ops draw|c=> .other c
 | .s x y,c=>match c with| .seq a b=> .seq (gP x a) (gP y b)|c=> .other c
 | .c x y,c=>match c with| .cond v a b=> .cond v (gP x a) (gP y b)|c=> .other c
 | .b x,c=>match c with| .block id a=> .block id (gP x a)|c=> .other c
 | .l ct x,c=>match c with| .loop a=> .loop ct (gP x a)|c=> .other c
 | .o x,c=>match c with| .scope a=> .scope (gP x a)|c=> .other c
def qC(a b:List AX):gL (a++b)=gL a++gL b:=by
 induction a with
 |nil=>rfl
 |cons x a ih=>cases x<;>simp[gL,ih]
def aBI(i:Nat)(l:List (Nat×Nat)):gL (bGJ i l)=[]:=by
 induction l with
 |nil=>rfl
 |cons x l ih=>simp only[bGJ];cases Nat.beq x.1 i<;>simp[gL,ih]
def B6(tk:List Nat)(fz:List (Nat×Nat))(i:Nat):gL (GK tk fz i)=[i]:=by
 unfold GK;rw[qC,aBI];rfl
def tQ(tk:List Nat)(fz:List (Nat×Nat))(l:List Nat):gL (l.flatMap (GK tk fz))=l:=by
 induction l with
 |nil=>rfl
 |cons i l ih=>rw[aN,qC,B6,ih];rfl
def DI(ops:Array Oper)(tk:List Nat)(fz:List (Nat×Nat)): ∀(f:Nat) (l:List Nat),gL (aBH ops tk fz f l)=l:=by
 intro f;induction f with
 |zero=>intro l;exact tQ tk fz l
 |succ f ih=>
  intro l
  match l with
  |[]=>rfl
  |[a]=>exact tQ tk fz [a]
  |[a,i]=>exact tQ tk fz [a,i]
  |a::i::s::l=>
   simp only[aBH];cases aSh ops a i s with
   |true=>simp only[aI,gL,ih]
   |false=>simp only[aJ];rw[qC,B6,ih];rfl
def aDc(cl:List (Nat×Nat×List Nat))(l:List AX):(l.map (aWI cl)).map TStep.un=l:=by
 induction l with
 |nil=>rfl
 |cons x l ih=>rw[aO,aO,ih];cases x<;>rfl
def WI(tk:List Nat)(fz:List (Nat×Nat))(cl:List (Nat×Nat×List Nat))(id:Nat)(ops:Array Oper)(draw:Bool):eU (aNX tk fz cl id ops draw).pc= .region id ops draw/\qQ (aNX tk fz cl id ops draw).pc:=by
 cases draw with
 |true=>
  refine⟨rfl,?_⟩;show eE ops.toList []=eE ops.toList []/\gL _=_;rw[aDc];exact⟨rfl,DI _ _ _ _ _⟩
 |false=>
  refine⟨rfl,?_⟩;show gL _=_;rw[aDc];exact DI _ _ _ _ _
def aC5: ∀c:Code,eU (qS c).pc=c/\qQ (qS c).pc:=by
 intro c;induction c with
 |region id ops draw=>exact WI _ _ _ _ _ _
 |seq a b fk lg=>exact⟨by simp only[qS,TC.pc,eU,fk.1,lg.1],fk.2,lg.2⟩
 |cond x a b fk lg=>exact⟨by simp only[qS,TC.pc,eU,fk.1,lg.1],fk.2,lg.2⟩
 |block id a ih=>exact⟨by simp only[qS,TC.pc,eU,ih.1],ih.2⟩
 |scope a ih=>exact⟨by simp only[qS,TC.pc,eU,ih.1],ih.2⟩
 |_=>exact⟨rfl,trivial⟩
def PK(ts:List Nat)(c:TC):eU (XG ts c).pc=eU c.pc/\(qQ c.pc->qQ (XG ts c).pc):=by
 induction ts with
 |nil=>exact⟨rfl,id⟩
 |cons t ts ih=>exact⟨ih.1,ih.2⟩
def Dq: ∀(s:aJk) (c:Code),eU (gP s c).pc=c/\qQ (gP s c).pc:=by
 intro s;induction s with
 |n=>exact aC5
 |r tk fz cl=>intro c;cases c<;>first|exact WI _ _ _ _ _ _|exact⟨rfl,trivial⟩
 |s x y ml nv=>intro c;cases c<;>first|exact⟨by simp only[gP,TC.pc,eU,(ml _).1,(nv _).1],(ml _).2,(nv _).2⟩|exact⟨rfl,trivial⟩
 |c x y ml nv=>intro c;cases c<;>first|exact⟨by simp only[gP,TC.pc,eU,(ml _).1,(nv _).1],(ml _).2,(nv _).2⟩|exact⟨rfl,trivial⟩
 |b x ih=>intro c;cases c<;>first|exact⟨by simp only[gP,TC.pc,eU,(ih _).1],(ih _).2⟩|exact⟨rfl,trivial⟩
 |l ct x ih=>intro c;cases c<;>first|exact⟨by simp only[gP,TC.pc,eU,(ih _).1],(ih _).2⟩|exact⟨rfl,trivial⟩
 |o x ih=>intro c;cases c<;>first|exact⟨by simp only[gP,TC.pc,eU,(ih _).1],(ih _).2⟩|exact⟨rfl,trivial⟩
 |d ct x ih=>intro c;exact⟨(ih c).1,(ih c).2⟩
 |i ts x ih=>intro c;exact⟨by simp only[gP,(PK ts _).1,(ih c).1],(PK ts _).2 (ih c).2⟩
structure cU where
 sig:QJ
 sk:aJk
def lH(P:Program)(f:Nat):Code:=match P.funcs[f]? with|some fn=>fn.body.getD .skip|none=> .skip
def zM(P:Program)(f:Nat):List ResultVar:=match P.funcs[f]? with|some fn=>fn.results.toList|none=>[]
def rJ:List (Nat×cU)->Nat->Option cU
 |[],_=>none
 |x::l,i=>bif Nat.beq x.1 i then some x.2 else rJ l i
def Al:List (Nat×cU)->Nat->Option cU
 |[],_=>none
 |x::l,f=>bif Nat.beq x.2.sig.f f then some x.2 else Al l f
def xQ(l:List (Nat×cU))(i:Nat):Option QJ:=(rJ l i).map (·.sig)
def Dz(P:Program)(l:List (Nat×cU)):a4C:=λi=>match rJ l i with
 |some x=>some (gP x.sk (lH P x.sig.f),zM P x.sig.f)
 |none=>none
def tY(P:Program)(l:List (Nat×cU)):aJm:=λf=>match Al l f with
 |some x=>some ((gP x.sk (lH P f)).pc,zM P f)
 |none=>none
def bLo(P:Program)(l:List (Nat×cU))(x:cU):Prop:= ∃y,Al l x.sig.f=some y/\(gP y.sk (lH P x.sig.f)).pc=(gP x.sk (lH P x.sig.f)).pc
def IW{P:Program}{l:List (Nat×cU)}(h: ∀i x,rJ l i=some x->bLo P l x): ∀i s code rs,xQ l i=some s->Dz P l i=some (code,rs)->tY P l s.f=some (code.pc,rs):=by
 intro i s code rs h1 h2;unfold xQ at h1;unfold Dz at h2;cases hx:rJ l i with
 |none=>rw[hx]at h1;cases h1
 |some x=>
  rw[hx]at h1 h2;simp only[aK,aA,aB]at h1 h2;obtain⟨y,g1,g2⟩:=h i x hx;subst h1;obtain⟨rfl,rfl⟩:=h2;simp only[tY,g1,g2]
def Bb{P C:Program}(h:C.funcs.toList.all (kE P)=true){l:List (Nat×cU)}(hb: ∀f x,Al l f=some x->∃fn c,C.funcs[f]?=some fn/\fn.body=some c):MN P C (tY C l):=by
 intro f c rs hf;unfold tY at hf;split at hf<;>try cases hf
 rename_i x hx;obtain⟨fn,cd,h1,h2⟩:=hb f x hx;have e1:lH C f=cd:=by simp only[lH,h1,h2,Option.getD_some]
 refine⟨fn,h1,by rw[h2,(Dq _ _).1,e1],by simp only[zM,h1],(Dq _ _).2,?_⟩
 rw[bJ]at h;have:=h fn (by have:=Array.mem_of_getElem? h1;simpa using this)
 simp only[kE,h2,aC]at this;rw[(Dq _ _).1,e1];exact this.1
section
variable{U:iR}{T:TP U.D}{W:Type}{c:pF U.D}{L:Nat}
def NV{f g:TS U.D->TM U.D->TK U.D W->Option W}(h: ∀S M K,f S M K=g S M K)(K:TK U.D W):NW U f K=NW U g K:=by
 funext fl S M;cases fl<;>first|exact h S M K|rfl
def bIP: ∀(code:TC) (S:TS U.D) (M:TM U.D) (K:TK U.D W),nU U T c (Dx U T c L) (Ex U T c L) code S M K=gW U T c L code S M K:=by
 intro code;induction code with
 |seq a b fk lg=>intro S M K;simp only[nU,gW];rw[fk,NV lg]
 |cond x a b fk lg=>intro S M K;simp only[nU,gW,fk,lg]
 |block id a ih=>intro S M K;simp only[nU,gW,ih]
 |scope a ih=>intro S M K;simp only[nU,gW,ih]
 |ice t a ih=>intro S M K;simp only[nU,gW,ih]
 |_=>intro S M K;rfl
end
end Go.TV
