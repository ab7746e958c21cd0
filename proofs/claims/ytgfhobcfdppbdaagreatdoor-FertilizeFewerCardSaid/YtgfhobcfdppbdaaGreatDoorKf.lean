import Derived.Test.YtgfhobcfdppbdaaGreatDoorKe
open Option renaming some->aa,none->ad
open Bool renaming true->ae,false->ah,or_eq_true->b9
open Decidable renaming decide->aj
open Nat renaming beq->am,ble->an,lt_or_ge->b7,ble_eq->d7,blt->d8
open Go renaming TypeId->av,Program->aw,Operand->az
open List renaming getElem?_eq_none->d9,mem_of_getElem?->ef,getElem?_append_right->eo
set_option linter.unusedVariables false
set_option linter.unusedSimpArgs false
set_option linter.constructorNameAsVariable false
set_option linter.defProp false
namespace Go.TV
open Go.AI Go.PI
def gd:PV->Bool
 | .v _| .str _| .emp=>ae
 | .sl _ (_::_)=>ae
 |_=>ah
def dK(U:hJ):(t:Ty)->Den U.D t->PV
 | .int k,n=> .v (.int k n)
 | .bool,b=> .v (.bool b)
 | .str,s=> .str s
 | .sl t,l=>eD (dJ U t) (List.map (dK U t) l)
 | .rc n,x=> .agg (U.en n x)
def en{U:hJ}(v:V U):PV:=dK U v.t v.x
def P1(U:hJ)(t:Ty):List PV:=(jH U t).flatMap aNh
def aS4(l:List PV)(i:Nat):Bool:=match l[i]? with|some .nil=>ae|_=>ah
def bLF:PV->Bool
 | .v _| .str _=>ae
 |_=>ah
structure hQ(U:hJ):Prop where
 eqc: ∀n f x,U.eq n=aa f->(U.en n x).all bLF=ae
 ty: ∀n x,(U.un n x).map (λv=>v.t)=U.fs n
 un_of: ∀n l x,U.of n l=aa x->U.un n x=l
 en: ∀n x,U.en n x=(U.un n x).flatMap λv=>(dK U v.t v.x).cells
 len: ∀n x,(U.en n x).length=U.sz n
 sz: ∀n,U.sz n=eQ U (U.fs n)
 gd: ∀n x,(U.en n x).all gd=ae
 pos: ∀n,1<=U.sz n
 zero: ∀n,U.un n (U.zero n)=(U.fs n).map λt=>⟨t,pN U t⟩
 lt: ∀n,U.lt n=(U.fs n).flatMap (jH U)
 zc: ∀n,wks ((U.lt n).flatMap aNh)=U.en n (U.zero n)
 nz: ∀n,(AS U (.rc n)).all (λx=>aS4 ((U.lt n).flatMap aNh) x.1)=ae
 ltl: ∀n,(U.lt n).length=U.sz n
def a5U{x:PV}(h:gd x=ae):x.pur=ae:=by cases x<;>first|rfl|simp[gd]at h
def aHx{x:PV}(h:gd x=ae):wk x=x:=by
 cases x with
 |sl z es=>cases es with
  |nil=>simp[gd]at h
  |cons e es=>rfl
 |_=>first|rfl|simp[gd]at h
def oY{x:PV}(h:gd x=ae):x.cells=[x]:=by cases x<;>first|rfl|simp[gd]at h
def BY{x:PV}(h:gd x=ae):K2 x=ah:=by
 cases x with
 |sl z es=>cases es with
  |nil=>simp[gd]at h
  |cons e es=>rfl
 |_=>first|rfl|simp[gd]at h
def E3{x:PV}{n:Nat}(h:gd x=ae):below n x=ae:=by cases x<;>first|rfl|simp[gd]at h
def eT(z:Nat)(l:List PV):gd (eD z l)=ae:=by cases l<;>rfl
def mL(l:List PV):wks l=l.map wk:=by induction l with
 |nil=>rfl
 |cons x l ih=>simp only[wks,ih,aO]
def Lg{l:List PV}(h:l.all gd=ae):wks l=l:=by
 rw[mL];induction l with
 |nil=>rfl
 |cons x l ih=>
  simp only[aP,aC]at h;rw[aO,aHx h.1,ih h.2]
section
variable{U:hJ}(hU:hQ U)
include hU
def tZ(t:Ty)(x:Den U.D t):(dK U t x).cells.all gd=ae:=by
 cases t with
 |int k=>rfl
 |bool=>rfl
 |str=>rfl
 |sl t=>simp only[dK,oY (eT _ _),aP,eT,List.all_nil,Bool.and_self]
 |rc n=>exact hU.gd n x
def iT(t:Ty)(x:Den U.D t):(dK U t x).cells.length=dJ U t:=by
 cases t with
 |int k=>rfl
 |bool=>rfl
 |str=>rfl
 |sl t=>simp only[dK,oY (eT _ _),dJ,aM,aX]
 |rc n=>exact hU.len n x
def aAV(t:Ty)(x:Den U.D t):wk (dK U t x)=dK U t x:=by
 cases t with
 |int k=>rfl
 |bool=>rfl
 |str=>rfl
 |sl t=>exact aHx (eT _ _)
 |rc n=>simp only[dK,wk,Lg (hU.gd n x)]
def pZ(t:Ty):1<=dJ U t:=by
 cases t with
 |rc n=>exact hU.pos n
 |_=>exact aS _
def RB(n:Nat)(t:Ty)(x:Den U.D t):below n (dK U t x)=ae:=by
 cases t with
 |int k=>rfl
 |bool=>rfl
 |str=>rfl
 |sl t=>exact E3 (eT _ _)
 |rc m=>
  show jK n (U.en m x)=ae;rw[fS];intro c hc;exact E3 (bJ.1 (hU.gd m x) c hc)
end
section
variable{U:hJ}{p:PV}
def SE{x:Value}(h:wk p= .v x):p= .v x:=by
 cases p with
 |v y=>exact h
 |sl z es=>cases es<;>simp[wk]at h
 |_=>simp[wk]at h
def JJ{x:List UInt8}(h:wk p= .str x):p= .str x:=by
 cases p with
 |str y=>exact h
 |sl z es=>cases es<;>simp[wk]at h
 |_=>simp[wk]at h
def SG{x:List PV}(h:wk p= .agg x): ∃cs,p= .agg cs/\wks cs=x:=by
 cases p with
 |agg y=>simp only[wk,PV.agg.injEq]at h;exact⟨y,rfl,h⟩
 |sl z es=>cases es<;>simp[wk]at h
 |_=>simp[wk]at h
def aVC(h:wk p= .emp):p= .emp∨p= .nil∨∃z,p= .sl z []:=by
 cases p with
 |emp=>exact .inl rfl
 |nil=>exact .inr (.inl rfl)
 |sl z es=>cases es with
  |nil=>exact .inr (.inr ⟨z,rfl⟩)
  |cons e es=>simp[wk]at h
 |_=>simp[wk]at h
def a9p{z:Nat}{e:PV}{es:List PV}(h:wk p= .sl z (e::es)):p= .sl z (e::es):=by
 cases p with
 |sl z es=>cases es with
  |nil=>simp[wk]at h
  |cons e es=>exact h
 |_=>simp[wk]at h
def aDM{z:Nat}{es:List PV}(h:wk p=eD z es):(es=[]/\(p= .emp∨p= .nil∨∃z,p= .sl z []))∨(es≠ []/\p= .sl z es):=by
 cases es with
 |nil=>exact .inl ⟨rfl,aVC h⟩
 |cons e es=>exact .inr ⟨by simp,a9p h⟩
def aHS{z:Nat}{es:List PV}(h:wk p=eD z es)(hz: ∀z',p= .sl z' []->z'=z):pA z p=aa es:=by
 rcases aDM h with⟨rfl,rfl|rfl|⟨z',rfl⟩⟩|⟨_,rfl⟩
 .rfl
 .rfl
 .have:=hz z' rfl;subst this;simp[pA]
 .simp[pA]
end
section
variable(U:hJ)
def P2(ts:List Ty)(cs:List PV):Prop:= ∀(j z:Nat),cs[j]?=aa (.sl z [])->∃e,ts[j]?=aa (.sl e)/\z=dJ U e
structure VR(t:Ty)(x:Den U.D t)(p:PV):Prop where
 wk:PI.wk p=dK U t x
 z:P2 U (jH U t) p.cells
structure Ce where
 id:Option Nat
 n:Nat
 z:Nat
abbrev Cx:=Nat->Option Ce
def yY(c:Cx):List Nat->List PV->Prop
 |[],[]=>True
 |k::ks,p::ps=>(∃e id,c k=aa e/\e.id=aa id/\p= .ptr id 0)/\yY c ks ps
 |_,_=>False
def uO(c:Cx):SV U.D->PV->Prop
 | .val v,p=>VR U v.t v.x p
 | .tup l,p=> ∃ps,p= .tup ps/\ps=l.map λv=>dK U v.t v.x
 | .nl,p=>p= .nil
 | .lc k off _,p=> ∃e id,c k=aa e/\e.id=aa id/\p= .ptr id off
 | .ep v,p=> ∃es i off e,p= .pin es i off/\es[i]?=aa e/\(e.cells.drop off).take (dJ U v.t)=(dK U v.t v.x).cells
 | .rw k,p=> ∃e,c k=aa e/\((e.id=ad/\e.n=0/\(p= .sl e.z []∨p= .emp))∨∃id,e.id=aa id/\1<=e.n/\p= .rs id 0 e.n)
 | .rp k i off _,p=> ∃e id,c k=aa e/\e.id=aa id/\0<=i/\i<(e.n:Int)/\p= .ptr id (i.toNat*e.z+off)
 | .cl f caps,p=> ∃ps,p= .fn f [] ps/\yY c caps ps
 | .nf,p=>p= .v .nilFunc
 | .zr l,p=>p= .agg l
 | .no,_=>True
def isAgg:PV->Bool
 | .agg _=>ae
 |_=>ah
def aDA(rs:jC)(p:PV)(ow:Bool):Prop:=
 ∀o s,(o,s)∈rs->(isAgg p=ae/\p.cells[o]?=aa .nil)∨(o=0/\isAgg p=ah/\(ow||kN p)=ae/\(s=ae->K2 p=ah))
def qB(c:Cx)(x:X U)(y:PV×Bool):Prop:=uO U c x.1 y.1/\aDA x.2 y.1 y.2
def lX(c:Cx)(S:TS U.D)(S':PS):Prop:= ∀t,qB U c (lW S t) (S'.at t)
def Aj(c:Cx):SV U.D->List (PV×Bool)->Prop
 | .val v,cs=>wks (cs.map (·.1))=(dK U v.t v.x).cells/\P2 U (jH U v.t) (cs.map (·.1))/\∀x∈cs,x.1≠ .nil
 | .cl f caps,cs=> ∃p b,cs=[(p,b)]/\uO U c (.cl f caps) p
 | .nf,cs=> ∃b,cs=[(.v .nilFunc,b)]
 |_,_=>False
def bIm(rs:jC)(cs:List (PV×Bool)):Prop:= ∀o s,(o,s)∈rs->∃x,cs[o]?=aa (x,ae)/\(s=ae->K2 x=ah)
def Di(c:Cx)(p:PSt)(e:Ce):BC U.D->Prop
 | .bx s r=> ∃id cs,e.id=aa id/\p.get id=aa (.box cs)/\Aj U c s cs/\bIm r cs
 | .row t l=>e.n=l.length/\e.z=dJ U t/\((e.id=ad/\l=[])∨∃id,e.id=aa id/\p.get id=aa (.row e.z (lV t) ((l.map (dK U t)).flatMap PV.cells)))
 | .gone=>True
structure MR(q:PSt)(c0 c:Cx)(M:TM U.D)(p:PSt):Prop where
 dom: ∀k,dL M.bx k=ad->c k=ad
 bx: ∀k b,dL M.bx k=aa b->∃e,c k=aa e/\Di U c p e b
 lt: ∀k e id,c k=aa e->e.id=aa id->id<p.next
 inj: ∀k k' e e' id,c k=aa e->c k'=aa e'->e.id=aa id->e'.id=aa id->k=k'
 next:q.next<=p.next
 bor: ∀k e,c k=aa e->k<100->c0 k=aa e
 loc: ∀k e id,c k=aa e->100<=k->e.id=aa id->q.next<=id
 old: ∀id,id<q.next->id∉p.dirty->p.get id=q.get id
 dirty: ∀id,id∈p.dirty->id<q.next->∃k e,c0 k=aa e/\e.id=aa id
 wr: ∀id,id∈p.wr->id<p.next/\(id<q.next->∃k e,c0 k=aa e/\e.id=aa id)
def WR(c:Cx)(M:TM U.D)(p:PSt):Prop:= ∀id,id∈p.wr->∀k e,c k=aa e->e.id=aa id->eA k M.wr=ae
def leC(c c':Cx):Prop:= ∀k e,c k=aa e->c' k=aa e
end
end Go.TV
namespace Go.TV
open Go.AI Go.PI
def bJf(P:aw)(U:hJ)(T:TP U.D)(id:av):Ty->Prop
 | .int k=>P.underlying id=aa (.int k)
 | .bool=>P.underlying id=aa .bool
 | .str=>P.underlying id=aa .string
 | .sl t=> ∃e,P.underlying id=aa (.slice e)/\T.T.ty e=aa t/\T.el id=aa e
 | .rc n=>T.T.arr id=ah->∃fs,P.underlying id=aa (.struct fs)/\fs.size=(U.fs n).length/\∀i f,fs[i]?=aa f->T.T.ty f.type=(U.fs n)[i]?/\f.offset=kF U n i
def aCz(U:hJ):List Ty->Nat->List (Nat×Nat)
 |[],_=>[]
 |t::ts,o=>(o,dJ U t)::aCz U ts (o+dJ U t)
structure rQ(P:aw)(U:hJ)(T:TP U.D):Prop where
 ag: ∀id t,T.T.ty id=aa t->jT P id=aa (lV t)
 sz: ∀id t,T.T.ty id=aa t->iH P id=aa (dJ U t)
 un: ∀id t,T.T.ty id=aa t->bJf P U T id t
 zc: ∀id t,T.T.ty id=aa t->zeroCells P id=aa (P1 U t)
 fn: ∀id,T.T.fn id=ae->jT P id=aa ah/\iH P id=aa 1/\zeroCells P id=aa [.v .nilFunc]
 inf: ∀id t,T.T.ty id=aa t->∃info z,P.info? id=aa info/\info.size=dJ U t/\info.bytes=T.T.by' id/\1<=info.bytes/\info.zero=aa z/\z.cells.size=info.size/\ofVs z.cells.toList=P1 U t/\z.cells.toList.all bQ=ae
 bd: ∀id n,T.T.ty id=aa (.rc n)->T.T.arr id=ah->∃fs pl,P.underlying id=aa (.struct fs)/\cJ P (fs.mapM λf=>do pure (f.offset,<-Go.sizeOf f.type))=aa pl/\pl.toList=aCz U (U.fs n) 0
 arr: ∀id n,T.T.ty id=aa (.rc n)->T.T.arr id=ae->∃len e te,P.underlying id=aa (.array len e)/\iH P e=aa (dJ U te)/\U.fs n=List.replicate len te
 eq: ∀id n f,T.T.ty id=aa (.rc n)->U.eq n=aa f->∀(x y:U.D n) (a b:az),
  lA P .eql id a b (.agg (U.en n x)) (.agg (U.en n y))=aa (.v (.bool (f x y)))/\lA P .neq id a b (.agg (U.en n x)) (.agg (U.en n y))=aa (.v (.bool (!f x y)))
section
variable{U:hJ}{c c':Cx}{S:TS U.D}{S':PS}
def aCf{T:TP U.D}{id:av}{t:Ty}(h:Qa T.T id=aa t):T.T.ty id=aa t/\T.T.arr id=ah:=by
 unfold Qa at h;cases ha:T.T.arr id with
 |true=>rw[ha]at h;cases h
 |false=>rw[ha]at h;exact⟨h,rfl⟩
def MT(h:leC c c'): ∀{ks:List Nat} {ps:List PV},yY c ks ps->yY c' ks ps
 |[],[],_=>trivial
 |k::ks,p::ps,⟨⟨e,id,h1,h2,h3⟩,h4⟩=>⟨⟨e,id,h k e h1,h2,h3⟩,MT h h4⟩
 |[],_::_,hh=>hh.elim
 |_::_,[],hh=>hh.elim
def aD8(h:leC c c'){x:SV U.D}{p:PV}(r:uO U c x p):uO U c' x p:=by
 cases x with
 |val v=>exact r
 |tup l=>exact r
 |nl=>exact r
 |lc k off q=>obtain⟨e,id,h1,h2,h3⟩:=r;exact⟨e,id,h k e h1,h2,h3⟩
 |ep v=>exact r
 |rw k=>obtain⟨e,h1,h2⟩:=r;exact⟨e,h k e h1,h2⟩
 |rp k i off q=>obtain⟨e,id,h1,h2,h3⟩:=r;exact⟨e,id,h k e h1,h2,h3⟩
 |cl f caps=>obtain⟨ps,h1,h2⟩:=r;exact⟨ps,h1,MT h h2⟩
 |nf=>exact r
 |zr l=>exact r
 |no=>trivial
def aXr(h:leC c c'){x:X U}{p:PV×Bool}(r:qB U c x p):qB U c' x p:=⟨aD8 h r.1,r.2⟩
def T1(h:leC c c')(F:lX U c S S'):lX U c' S S':=λt=>aXr h (F t)
def leC.refl(c:Cx):leC c c:=λ_ _ h=>h
def leC.trans{c'':Cx}(h:leC c c')(h':leC c' c''):leC c c'':=λk e hh=>h' k e (h k e hh)
def bX(p:PV)(ow:Bool):aDA [] p ow:=λo s h=>by cases h
def aN7{rs:jC}{p:PV}{ow ow':Bool}(h:aDA rs p ow)(ha:isAgg p=ae):aDA rs p ow':=λo s hm=>by
 rcases h o s hm with h1|⟨_,h2,_⟩
 .exact .inl h1
 .rw[ha]at h2;cases h2
def aED{rs:jC}{p:PV}{ow ow':Bool}(h:aDA rs p ow)(ho:ow=ae->(ow'||kN p)=ae):aDA rs p ow':=λo s hm=>by
 rcases h o s hm with h1|⟨h1,h2,h3,h4⟩
 .exact .inl h1
 .refine .inr ⟨h1,h2,?_,h4⟩;cases ow with
  |true=>exact ho rfl
  |false=>simp only[Bool.false_or]at h3;rw[h3,Bool.or_true]
def aNG{v:V U}{p:PV}(h:VR U v.t v.x p)(hr:lV v.t=ae):isAgg p=ae:=by
 obtain⟨t,x⟩:=v;cases t with
 |rc n=>obtain⟨cs,rfl,_⟩:=SG h.wk;rfl
 |_=>cases hr
def oO{v:V U}{p:PV}(h:VR U v.t v.x p)(hr:lV v.t=ah):isAgg p=ah:=by
 obtain⟨t,x⟩:=v;cases t with
 |rc n=>cases hr
 |int k=>rw[SE h.wk];rfl
 |bool=>rw[SE h.wk];rfl
 |str=>rw[JJ h.wk];rfl
 |sl t=>rcases aDM h.wk with⟨_,h1|h1|⟨z,h1⟩⟩|⟨_,h1⟩<;>rw[h1]<;>rfl
def vP{x:X U}{p:PV}{ow:Bool}(h:qB U c x (p,ow)):qB U c (tM U x) (p,ah):=by
 obtain⟨sv,rs⟩:=x;obtain⟨h1,h2⟩:=h;cases sv with
 |val v=>
  cases hr:lV v.t with
  |true=>simp only[tM,hr,aI];exact⟨h1,aN7 h2 (aNG h1 hr)⟩
  |false=>simp only[tM,hr,aJ];exact⟨h1,bX _ _⟩
 |nl=>
  refine⟨h1,λo s hm=>?_⟩
  simp only[tM,List.mem_singleton,aB]at hm;have h3:p= .nil:=h1;exact .inr ⟨hm.1,by rw[h3];rfl,by rw[h3];rfl,λ_=>by rw[h3];rfl⟩
 |_=>exact⟨h1,bX _ _⟩
def qJ(S':PS)(t k:Nat)(x:PV×Bool):(S'.set t x).at k=if k=t then x else S'.at k:=by
 unfold PS.set PS.at;simp only;by_cases h:k=t
 .subst h;simp
 .have:am k t=ah:=by rw[<-Bool.not_eq_true];intro hh;exact h (aE hh)
  rw[this,bH h];rfl
def xG(S:TS U.D)(t k:Nat)(x:X U):lW ((t,x)::S) k=if k=t then x else lW S k:=by
 show(bif am t k then x else lW S k)=_;by_cases h:k=t
 .subst h;simp
 .have:am t k=ah:=by rw[<-Bool.not_eq_true];intro hh;exact h (aE hh).symm
  rw[this,bH h];rfl
def sP(F:lX U c S S'){t:Nat}{x:X U}{y:PV×Bool}(h:qB U c x y):lX U c ((t,x)::S) (S'.set t y):=λk=>by
 rw[xG,qJ];by_cases e:k=t
 .rw[bI e,bI e];exact h
 .rw[bH e,bH e];exact F k
def A8(F:lX U c S S'){d:Option Tmp}{x:X U}{v:PV}{own:Bool}(h:qB U c x (v,own)):lX U c (aCr U S d x) (S'.put d v own):=by
 cases d with
 |none=>exact F
 |some d=>exact sP F h
def rM(F:lX U c S S')(x:az):lX U c (vM U S x) (mY S' x):=by
 cases x with
 |tmp t=>exact sP F (vP (ow:=(S'.at t).2) (F t))
 |_=>exact F
def Rh(F:lX U c S S'){t:Nat}{x:X U}(h:qB U c x (S'.at t)):lX U c ((t,x)::S) S':=λk=>by
 rw[xG];by_cases e:k=t
 .rw[bI e,e];exact h
 .rw[bH e];exact F k
def dD(F:lX U c S S')(x:az):qB U c (jI U S x) (cQ S' x,iC S' x):=by
 cases x with
 |tmp t=>
  refine⟨(F t).1,aED (F t).2 λh=>?_⟩
  simp only[iC,h,Bool.true_or]
 |const v=>
  have hv: ∀y,VR U y.t y.x (Bz v)->qB U c (.val y,[]) (Bz v,iC S' (.const v)):=λy h=>⟨h,bX _ _⟩
  have h0: ∀(w:Value) (t:Ty) (h:Bz v= .v w),P2 U (jH U t) (Bz v).cells:=λw t h j z hz=>by
   rw[h]at hz;cases j<;>simp[PV.cells]at hz
  cases v with
  |bool b=>exact hv ⟨.bool,b⟩ ⟨rfl,h0 _ _ rfl⟩
  |int k n=>exact hv ⟨.int k,n⟩ ⟨rfl,h0 _ _ rfl⟩
  |string s=>exact hv ⟨.str,s.data.toList⟩ ⟨rfl,λj z hz=>by cases j<;>simp[Bz,PV.cells]at hz⟩
  |slice b l k=>
   cases b with
   |some b=>exact⟨trivial,bX _ _⟩
   |none=>
    refine⟨rfl,λo s hm=>?_⟩
    simp only[jI,bQJ,List.mem_singleton,aB]at hm;exact .inr ⟨hm.1,rfl,rfl,λ_=>rfl⟩
  |nilFunc=>exact⟨rfl,bX _ _⟩
  |agg cs=>cases cs;exact⟨rfl,bX _ _⟩
  |_=>exact⟨trivial,bX _ _⟩
 |func f=>exact⟨⟨[],rfl,trivial⟩,bX _ _⟩
 |global g=>exact⟨trivial,bX _ _⟩
def Lt: ∀{l r:List PV},aDD l r=ae->l=r:=by
 intro l;induction l with
 |nil=>intro r h;cases r with|nil=>rfl|cons x r=>cases h
 |cons x l ih=>
  intro r h;cases r with
  |nil=>cases x<;>first|cases h|(rename_i v;cases v<;>cases h)
  |cons y r=>
   unfold aDD at h;split at h
   .rename_i heq;cases heq
   .rename_i e1 e2;cases e1;cases e2;simp only[aC,aD]at h;rw[h.1.1,h.1.2,ih h.2]
   .rename_i e1 e2;cases e1;cases e2;simp only[aC,aD]at h;rw[h.1,ih h.2]
   .rename_i e1 e2;cases e1;cases e2;rw[ih h]
   .rename_i e1 e2;cases e1;cases e2;simp only[aC,List.isEmpty_iff]at h;rw[h.1.1,h.1.2,ih h.2]
   .rename_i e1 e2;cases e1;cases e2;rw[ih h]
   .cases h
def lK(hU:hQ U){t:Ty}{s:SV U.D}{v:V U}{p:PV}(h:IV U t s=aa v)(r:uO U c s p):v.t=t/\VR U v.t v.x p:=by
 cases s with
 |val w=>
  simp only[IV]at h;cases hb:w.t.beq t with
  |false=>rw[hb]at h;cases h
  |true=>rw[hb]at h;cases h;exact⟨Ty.beq_eq hb,r⟩
 |nl=>
  simp only[IV]at h;split at h
  .cases h;have hp:p= .nil:=r;subst hp;exact⟨rfl,rfl,λj z hz=>by cases j<;>simp[PV.cells]at hz⟩
  .cases h
 |zr l=>
  simp only[IV]at h;split at h
  .rename_i n;cases hb:aDD l ((U.lt n).flatMap aNh)with
   |false=>rw[hb]at h;cases h
   |true=>
    rw[hb]at h;cases h;have hp:p= .agg l:=r;subst hp;rw[Lt hb];refine⟨rfl,?_,λj z hz=>?_⟩
    .show PV.agg (wks _)= .agg _;rw[hU.zc n]
    .have hm:(PV.sl z [])∈(U.lt n).flatMap aNh:=ef hz;rw[List.mem_flatMap]at hm;obtain⟨t,_,h1⟩:=hm;cases t<;>simp[aNh]at h1
  .cases h
 |_=>cases h
def aDF(hU:hQ U){t:Option Ty}{s:SV U.D}{p:PV}(r:uO U c s p):uO U c (bIf U t s) p:=by
 unfold bIf;split
 .split
  .split
   .rename_i v hv;exact(lK hU hv r).2
   .trivial
  .trivial
 .exact r
def pB{D:Nat->Type}{t u:Ty}{x:Den D t}{y:Den D u}(h:UG t u x=aa y):(⟨t,x⟩:TV D)=⟨u,y⟩:=by
 unfold UG at h;split at h
 .rename_i e _;subst e;cases h;rfl
 .cases h
end
end Go.TV
namespace Go.TV
open Go.AI Go.PI
section
variable{P:aw}{U:hJ}{T:TP U.D}
def kD(l:List PV):(wks l).length=l.length:=by rw[mL,List.length_map]
def rT(l r:List PV):wks (l++r)=wks l++wks r:=by simp only[mL,List.map_append]
def DI(l:List PV)(n:Nat):wks (l.drop n)=(wks l).drop n:=by simp only[mL,List.map_drop]
def DH(l:List PV)(n:Nat):wks (l.take n)=(wks l).take n:=by simp only[mL,List.map_take]
def sO{c:PV}(h:gd (wk c)=ae): ∀cs,c≠ .agg cs:=λcs e=>by subst e;simp[wk,gd]at h
def pD{c:PV}(h: ∀cs,c≠ .agg cs):c.cells=[c]:=by
 cases c with
 |agg cs=>exact(h cs rfl).elim
 |_=>rfl
def aVB{c:PV}(h:gd (wk c)=ae):c.one=ae:=by
 cases c with
 |agg cs=>simp[wk,gd]at h
 |tup cs=>simp[wk,gd]at h
 |und=>simp[wk,gd]at h
 |_=>rfl
def aQZ{l:List PV}(h:(wks l).all gd=ae):l.all PV.one=ae:=by
 rw[mL,List.all_map,bJ]at h;rw[bJ];exact λx hx=>aVB (h x hx)
def SD{ts us:List Ty}{cs ds:List PV}(hl:ts.length=cs.length)(h:P2 U ts cs)(h':P2 U us ds):P2 U (ts++us) (cs++ds):=λj z hj=>by
 by_cases bi:j<cs.length
 .rw[List.getElem?_append_left bi]at hj;obtain⟨e,h1,h2⟩:=h j z hj;exact⟨e,by rw[List.getElem?_append_left (by omega)];exact h1,h2⟩
 .rw[eo (by omega)]at hj
  obtain⟨e,h1,h2⟩:=h' _ z hj;exact⟨e,by rw[eo (by omega),hl];exact h1,h2⟩
def aDH{ts:List Ty}{cs:List PV}(h:P2 U ts cs)(o n:Nat):P2 U ((ts.drop o).take n) ((cs.drop o).take n):=λj z hj=>by
 rw[List.getElem?_take]at hj⊢;split at hj
 .rename_i hjn;rw[List.getElem?_drop]at hj⊢;rw[bI hjn];exact h _ z hj
 .cases hj
def DG{ts:List Ty}{cs:List PV}(h:cs.all gd=ae):P2 U ts cs:=λj z hj=>by
 have:=bJ.1 h _ (ef hj);simp[gd]at this
def aNu(ts:List Ty):P2 U ts []:=λj z hj=>by simp at hj
variable(hU:hQ U)
include hU
def Ad(t:Ty):(jH U t).length=dJ U t:=by
 cases t with
 |rc n=>exact hU.ltl n
 |_=>rfl
omit hU in
def JS(ts us:List Ty):eQ U (ts++us)=eQ U ts+eQ U us:=by
 induction ts with
 |nil=>simp[eQ]
 |cons t ts ih=>simp only[aY,eQ,ih,Nat.add_assoc]
def vX(l:List (V U)):List PV:=l.flatMap λv=>(dK U v.t v.x).cells
omit hU in
def jJ(v:V U)(l:List (V U)):vX (v::l)=(dK U v.t v.x).cells++vX l:=rfl
def RM{l:List (V U)}{i:Nat}{v:V U}(h:l[i]?=aa v):
    ((vX l).drop (eQ U ((l.map λv=>v.t).take i))).take (dJ U v.t)=(dK U v.t v.x).cells:=by
 induction l generalizing i with
 |nil=>simp at h
 |cons w l ih=>
  cases i with
  |zero=>
   simp only[aU,aA]at h;subst h;rw[jJ,List.take_zero,eQ,List.drop_zero];exact List.take_left' (iT hU _ _)
  |succ i=>
   rw[aT]at h;rw[jJ,aO,List.take_succ_cons,eQ];rw[<-ih h];congr 1;rw[<-List.drop_drop];congr 1;exact List.drop_left' (iT hU _ _)
def KY{ts:List Ty}{i:Nat}{t:Ty}(h:ts[i]?=aa t):((ts.flatMap (jH U)).drop (eQ U (ts.take i))).take (dJ U t)=jH U t:=by
 induction ts generalizing i with
 |nil=>simp at h
 |cons w l ih=>
  cases i with
  |zero=>
   simp only[aU,aA]at h;subst h;rw[aN,List.take_zero,eQ,List.drop_zero];exact List.take_left' (Ad hU _)
  |succ i=>
   rw[aT]at h;rw[aN,List.take_succ_cons,eQ];rw[<-ih h];congr 1;rw[<-List.drop_drop];congr 1;exact List.drop_left' (Ad hU _)
def B1{n i:Nat}{x:U.D n}{v:V U}(h:(U.un n x)[i]?=aa v):((U.en n x).drop (kF U n i)).take (dJ U v.t)=(dK U v.t v.x).cells:=by
 rw[hU.en n x,kF,<-hU.ty n x];exact RM hU h
def E6{n i:Nat}{x:U.D n}{v:V U}(h:(U.un n x)[i]?=aa v):(U.fs n)[i]?=aa v.t:=by
 rw[<-hU.ty n x,List.getElem?_map,h];rfl
def E7{n i:Nat}{t:Ty}(h:(U.fs n)[i]?=aa t):((U.lt n).drop (kF U n i)).take (dJ U t)=jH U t:=by
 rw[hU.lt n];exact KY hU h
structure SR(t:Ty)(x:Den U.D t)(cs:List PV):Prop where
 wk:wks cs=(dK U t x).cells
 z:P2 U (jH U t) cs
def SR.len{t:Ty}{x:Den U.D t}{cs:List PV}(h:SR t x cs):cs.length=dJ U t:=by
 rw[<-kD,h.wk,iT hU]
def SR.gd{t:Ty}{x:Den U.D t}{cs:List PV}(h:SR t x cs){c:PV}(hc:c∈cs):gd (PI.wk c)=ae:=by
 have h1:=tZ hU t x;rw[<-h.wk,mL,List.all_map,bJ]at h1;exact h1 c hc
def SR.one{t:Ty}{x:Den U.D t}{cs:List PV}(h:SR t x cs):cs.all PV.one=ae:=aQZ (by rw[h.wk];exact tZ hU t x)
def SR.fld{n i:Nat}{x:U.D n}{cs:List PV}(h:SR (U:=U) (.rc n) x cs){v:V U}(hv:(U.un n x)[i]?=aa v):SR v.t v.x ((cs.drop (kF U n i)).take (dJ U v.t)):=by
 refine⟨?_,?_⟩
 .rw[DH,DI,h.wk];exact B1 hU hv
 .have:=aDH h.z (kF U n i) (dJ U v.t);rw[show jH U (.rc n)=U.lt n from rfl,E7 hU (E6 hU hv)]at this
  exact this
omit hU in
def VR.sr{t:Ty}{x:Den U.D t}{p:PV}(h:VR U t x p):SR t x p.cells:=by
 refine⟨?_,h.z⟩;have h1:=h.wk;cases t with
 |rc n=>obtain⟨cs,rfl,h2⟩:=SG h1;exact h2
 |int k=>rw[SE h1];rfl
 |bool=>rw[SE h1];rfl
 |str=>rw[JJ h1];rfl
 |sl t=>
  have hg:gd (PI.wk p)=ae:=by rw[h1];exact eT _ _
  rw[pD (sO hg),dK,oY (eT _ _),wks,wks,h1,dK]
def AM(hT:rQ P U T){id:av}{t:Ty}(ht:T.T.ty id=aa t){x:Den U.D t}{cs:List PV}{off:Nat}(h:SR t x ((cs.drop off).take (dJ U t))):
    ∃p,rA P id cs off=aa p/\VR U t x p/\p.cells=(cs.drop off).take (dJ U t)/\isAgg p=lV t:=by
 have hl:=h.len hU;unfold rA;rw[hT.ag id t ht];cases hr:lV t with
 |true=>
  simp only[hT.sz id t ht,hl,Nat.beq_refl,aI];refine⟨_,rfl,⟨?_,h.z⟩,rfl,rfl⟩;cases t with
  |rc n=>simp only[PI.wk,h.wk];rfl
  |_=>cases hr
 |false=>
  simp only;have hs:dJ U t=1:=by cases t<;>first|rfl|cases hr
  rw[hs]at h hl⊢;have bi:off<cs.length:=by
   rw[List.length_take,List.length_drop]at hl;omega
  have so:(cs.drop off).take 1=[cs[off]]:=by
   rw[List.drop_eq_getElem_cons bi];rfl
  rw[so]at h⊢;refine⟨cs[off],by rw[aV bi],?_,?_,?_⟩
  .have hg:=h.gd hU (List.mem_singleton.2 rfl);refine⟨?_,?_⟩
   .have h1:=h.wk;rw[wks,wks]at h1;cases t with
    |rc n=>cases hr
    |int k=>exact List.head_eq_of_cons_eq h1
    |bool=>exact List.head_eq_of_cons_eq h1
    |str=>exact List.head_eq_of_cons_eq h1
    |sl t=>rw[dK,oY (eT _ _)]at h1;exact List.head_eq_of_cons_eq h1
   .rw[pD (sO hg)];exact h.z
  .exact pD (sO (h.gd hU (List.mem_singleton.2 rfl)))
  .have:=sO (h.gd hU (List.mem_singleton.2 rfl));cases hc:cs[off]<;>first|rfl|exact(this _ hc).elim
def xH{p:List Nat}: ∀{v w:V U} {o:Nat} {cs:List PV},A7 U p v=aa (w,o)->SR v.t v.x cs->SR w.t w.x ((cs.drop o).take (dJ U w.t))/\o+dJ U w.t<=dJ U v.t:=by
 induction p with
 |nil=>
  intro v w o cs h r;simp only[A7,aA,aB]at h;obtain⟨rfl,rfl⟩:=h;refine⟨?_,by omega⟩
  rw[List.drop_zero,List.take_of_length_le (by rw[r.len hU];exact aS _)]
  exact r
 |cons i p ih=>
  intro v w o cs h r;unfold A7 at h;split at h
  .rename_i y hy;split at h
   .rename_i z hz;simp only[aA,aB]at h;obtain⟨h1,h2⟩:=h;obtain⟨t,x⟩:=v;unfold Li at hy;split at hy
    .rename_i n x' heq;cases heq;have jx:A7 U p y=aa (w,z.2):=by rw[hz,<-h1]
     obtain⟨g1,g2⟩:=ih jx (r.fld hU hy);have co:kF U n i+dJ U y.t<=U.sz n:=by
      have hr:cs.length=U.sz n:=r.len hU;have:=(r.fld hU hy).len hU;rw[List.length_take,List.length_drop,hr]at this;have hp:=pZ hU y.t;omega
     have ho:o=kF U n i+z.2:=by rw[<-h2];rfl
     subst ho;refine⟨?_,?_⟩
     .rw[List.drop_take,List.drop_drop,List.take_take,Nat.min_eq_left (by omega)]at g1
      exact g1
     .show _<=U.sz n;omega
    .cases hy
   .cases h
  .cases h
end
end Go.TV
namespace Go.TV
open Go.AI Go.PI
section
variable{P:aw}{U:hJ}{T:TP U.D}{c:Cx}{W:Type}{r:W}
def oK{N:Type}{a:Option N}{K:N->Option W}(h:ob a K=aa r): ∃x,a=aa x/\K x=aa r:=by
 cases a with
 |none=>cases h
 |some x=>exact⟨x,rfl,h⟩
def fJ{b:Bool}{K:Option W}(h:jY b K=aa r):b=ae/\K=aa r:=by
 cases b with
 |false=>cases h
 |true=>exact⟨rfl,h⟩
def Fw{b:Bool}{A B:Option W}(h:bR b A B=aa r):(b=ae/\A=aa r)∨(b=ah/\B=aa r):=by
 cases b with
 |false=>exact .inr ⟨rfl,h⟩
 |true=>exact .inl ⟨rfl,h⟩
def aSh(ts:List Ty)(x:Value):P2 U ts (PV.v x).cells:=λj z hz=>by
 cases j<;>simp[PV.cells]at hz
def iG(k:IntKind)(n:Int):VR U (.int k) n (.v (.int k n)):=⟨rfl,aSh _ _⟩
def fP(b:Bool):VR U .bool b (.v (.bool b)):=⟨rfl,aSh _ _⟩
def FW(s:List UInt8):VR U .str s (.str s):=⟨rfl,λj z hz=>by cases j<;>simp[PV.cells]at hz⟩
def iP{k:IntKind}{n:Int}{p:PV}(h:VR U (.int k) n p):p= .v (.int k n):=SE h.wk
def of_bool{b:Bool}{p:PV}(h:VR U .bool b p):p= .v (.bool b):=SE h.wk
def Ab{s:List UInt8}{p:PV}(h:VR U .str s p):p= .str s:=JJ h.wk
def QS{n:Nat}{x:U.D n}{p:PV}(h:VR U (.rc n) x p): ∃cs,p= .agg cs/\wks cs=U.en n x:=SG h.wk
def tK{t:Ty}{l:List (Den U.D t)}{p:PV}(h:VR U (.sl t) l p):pA (dJ U t) p=aa (l.map (dK U t))/\((l=[]/\(p= .emp∨p= .nil∨p= .sl (dJ U t) []))∨(l≠ []/\p= .sl (dJ U t) (l.map (dK U t)))):=by
 have hz: ∀z',p= .sl z' []->z'=dJ U t:=λz' e=>by
  obtain⟨e',h1,h2⟩:=h.z 0 z' (by rw[e];rfl)
  simp only[jH,aU,aA,Ty.sl.injEq]at h1;rw[h2,<-h1]
 have hw:PI.wk p=eD (dJ U t) (l.map (dK U t)):=h.wk;refine⟨aHS hw hz,?_⟩;rcases aDM hw with⟨h1,h2⟩|⟨h1,h2⟩
 .refine .inl ⟨by simpa using h1,?_⟩
  rcases h2 with h2|h2|⟨z,h2⟩
  .exact .inl h2
  .exact .inr (.inl h2)
  .exact .inr (.inr (by rw[h2,hz z h2]))
 .exact .inr ⟨by simpa using h1,h2⟩
def zM(t:Ty)(l:List (Den U.D t)){z:Nat}{es:List PV}(hz:z=dJ U t)(he:es=l.map (dK U t)):VR U (.sl t) l (eD z es):=by
 subst hz he;refine⟨aHx (eT _ _),λj z hj=>?_⟩
 rw[oY (eT _ _)]at hj;have:=eT (dJ U t) (l.map (dK U t));cases j with
 |zero=>
  simp only[aU,aA]at hj;rw[hj]at this;simp[gd]at this
 |succ j=>simp at hj
def KJ{op:BinOp}{t:av}{x y:az}{u w:Value}(hu:bQ u=ae)(hw:bQ w=ae):lA P op t x y (.v u) (.v w)=(gT P op t x y u w).map Bz:=by
 have h1:=El hu;have h2:=El hw;simp only[lA,aDx,pY,hu,hw,aI,gT,h1,h2,Bool.and_self]
def eI(s:List UInt8):Value:= .string ⟨s.toArray⟩
def aF6{op:BinOp}{t:av}{x y:az}{s u:List UInt8}:lA P op t x y (.str s) (.str u)=(gT P op t x y (eI s) (eI u)).map Bz:=by
 simp only[lA,aDx,pY,gT,eI,cN,bQ,Bool.and_self,aI]
def bq(s u:List UInt8):(s==u)=aj (s=u):=by by_cases h:s=u<;>simp[h]
def aPc{op:BinOp}{t:av}{x y:az}{k:IntKind}{a b:Int}{K:V U->Option W}(h:aGZ U op k a b K=aa r):
    ∃v w,K v=aa r/\lA P op t x y (.v (.int k a)) (.v (.int k b))=aa w/\VR U v.t v.x w:=by
 have go: ∀(v:V U) (w:Value),K v=aa r->gT P op t x y (.int k a) (.int k b)=aa w->VR U v.t v.x (Bz w)->∃v w,K v=aa r/\lA P op t x y (.v (.int k a)) (.v (.int k b))=aa w/\VR U v.t v.x w:=
  λv w hk ha hv=>⟨v,Bz w,hk,by rw[KJ rfl rfl,ha];rfl,hv⟩
 cases op with
 |eql=>exact go _ _ h bDL (by rw[show(a==b)=aj (a=b) from rfl];exact fP _)
 |neq=>exact go _ _ h bDE (fP _)
 |lss=>exact go _ _ h bDH (fP _)
 |leq=>exact go _ _ h bDI (fP _)
 |gtr=>exact go _ _ h bDJ (fP _)
 |geq=>exact go _ _ h bDK (fP _)
 |add=>exact go _ _ h bDO (iG _ _)
 |sub=>exact go _ _ h bDz (iG _ _)
 |mul=>exact go _ _ h bDG (iG _ _)
 |quo=>
  obtain⟨hb,hk⟩:=fJ h;exact go _ _ hk (bDD (by simpa using hb)) (iG _ _)
 |rem=>
  obtain⟨hb,hk⟩:=fJ h;exact go _ _ hk (bDC (by simpa using hb)) (iG _ _)
 |and=>exact go _ _ h bDN (iG _ _)
 |or=>exact go _ _ h bLa (iG _ _)
 |xor=>exact go _ _ h bDy (iG _ _)
 |andNot=>exact go _ _ h aGC (iG _ _)
 |_=>cases h
def aXu{op:BinOp}{t:av}{x y:az}{k j:IntKind}{a b:Int}{K:V U->Option W}(h:bAw U op k a b K=aa r):
    ∃v w,K v=aa r/\lA P op t x y (.v (.int k a)) (.v (.int j b))=aa w/\VR U v.t v.x w:=by
 have go: ∀(v:V U) (w:Value),K v=aa r->gT P op t x y (.int k a) (.int j b)=aa w->VR U v.t v.x (Bz w)->∃v w,K v=aa r/\lA P op t x y (.v (.int k a)) (.v (.int j b))=aa w/\VR U v.t v.x w:=
  λv w hk ha hv=>⟨v,Bz w,hk,by rw[KJ rfl rfl,ha];rfl,hv⟩
 cases op with
 |shl=>
  obtain⟨hb,hk⟩:=fJ h;exact go _ _ hk (bDB (by simpa using hb)) (iG _ _)
 |shr=>
  obtain⟨hb,hk⟩:=fJ h;exact go _ _ hk (bDA (by simpa using hb)) (iG _ _)
 |_=>cases h
def pH{op:BinOp}{t:av}{x y:az}{s u:List UInt8}{v:Value}(h:cJ P (Op.stringOp op ⟨s.toArray⟩ ⟨u.toArray⟩)=aa v)(hv:cN v=ae)(mh:op= .eql∨op= .neq∨op= .lss∨op= .leq∨op= .gtr∨op= .geq∨op= .add):
    gT P op t x y (eI s) (eI u)=aa v:=by
 have e:cJ P (do eqGuard op t x y (eI s) (eI u);binOp op t (eI s) (eI u))=aa v:=by
  rcases mh with rfl|rfl|rfl|rfl|rfl|rfl|rfl<;>
   simp only[eI,bM,eqGuard,bD,Bool.not_false,Bool.false_eq_true,if_false,if_true,bS,aL,binOp,h]
 unfold gT cS;rw[show(cN (eI s)&&cN (eI u))=ae from rfl,aI,e]
 simp only[hv,aI]
def aNO{op:BinOp}{t:av}{x y:az}{a b:List UInt8}{K:V U->Option W}(h:aEa U op a b K=aa r):
    ∃v w,K v=aa r/\lA P op t x y (.str a) (.str b)=aa w/\VR U v.t v.x w:=by
 have go: ∀(v:V U) (w:Value),K v=aa r->gT P op t x y (eI a) (eI b)=aa w->VR U v.t v.x (Bz w)->∃v w,K v=aa r/\lA P op t x y (.str a) (.str b)=aa w/\VR U v.t v.x w:=
  λv w hk ha hv=>⟨v,Bz w,hk,by rw[aF6,ha];rfl,hv⟩
 have hl: ∀s:List UInt8,(⟨s.toArray⟩:ByteArray).toList=s:=λs=>by rw[ByteArray.toList_mk]
 cases op with
 |eql=>exact go _ _ h (pH (v:= .bool (aj (a=b))) (by simp only[Op.stringOp,hl,bq];rfl) rfl (by simp)) (fP _)
 |neq=>exact go _ _ h (pH (v:= .bool (!decide (a=b))) (by simp only[Op.stringOp,hl,bq];rfl) rfl (by simp)) (fP _)
 |lss=>exact go _ _ h (pH (v:= .bool (Op.bytesLess a b)) (by simp only[Op.stringOp,hl,bq];rfl) rfl (by simp)) (fP _)
 |leq=>exact go _ _ h (pH (v:= .bool (Op.bytesLess a b||aj (a=b))) (by simp only[Op.stringOp,hl,bq];rfl) rfl (by simp)) (fP _)
 |gtr=>exact go _ _ h (pH (v:= .bool (!(Op.bytesLess a b||aj (a=b)))) (by simp only[Op.stringOp,hl,bq];rfl) rfl (by simp)) (fP _)
 |geq=>exact go _ _ h (pH (v:= .bool (!Op.bytesLess a b)) (by simp only[Op.stringOp,hl,bq];rfl) rfl (by simp)) (fP _)
 |add=>
  obtain⟨hb,hk⟩:=fJ h;rw[d7]at hb;refine go _ _ hk (pH (v:= .string (⟨a.toArray⟩++⟨b.toArray⟩)) ?_ rfl (by simp)) ?_
  .simp only[Op.stringOp];rw[bH]
   .rfl
   .show¬((((⟨a.toArray⟩:ByteArray).data.size+(⟨b.toArray⟩:ByteArray).data.size:Nat):Int)>9223372036854775807);simp only[List.size_toArray];omega
  .show VR U .str _ (.str (((⟨a.toArray⟩:ByteArray)++⟨b.toArray⟩).data.toList));rw[ByteArray.data_append];simp only[Array.toList_append];exact FW _
 |_=>cases h
def aQO(hU:hQ U)(hT:rQ P U T){op:BinOp}{t:av}{x y:az}{a b:SV U.D}{p p':PV}{K:V U->Option W}(h:aDd U op (T.T.ty t) a b K=aa r)(ra:uO U c a p)(rb:uO U c b p'):
    ∃v w,K v=aa r/\lA P op t x y p p'=aa w/\VR U v.t v.x w:=by
 unfold aDd at h;split at h
 .rename_i k n j m;rw[iP ra,iP rb];cases hs:aAF op with
  |true=>rw[hs]at h;exact aXu h
  |false=>
   rw[hs]at h;simp only[aJ]at h;cases hj:aj (k=j)with
   |false=>rw[hj]at h;cases h
   |true=>
    rw[hj]at h;have:=of_decide_eq_true hj;subst this;exact aPc h
 .rename_i n m;rw[of_bool ra,of_bool rb];split at h
  .rename_i _ ht;have hu:P.underlying t=aa .bool:=hT.un t .bool ht;exact⟨_,_,h,by rw[KJ rfl rfl,bDM hu];rfl,fP _⟩
  .rename_i _ ht;have hu:P.underlying t=aa .bool:=hT.un t .bool ht;exact⟨_,_,h,by rw[KJ rfl rfl,bDF hu];rfl,fP _⟩
  .cases h
 .rw[Ab ra,Ab rb];exact aNO h
 .rename_i n x1 m y1;split at h
  .rename_i i ht;split at h
   .rename_i f x2 y2 hf h1 h2;have e1:=pB h1;have e2:=pB h2;have ra':VR U (.rc i) x2 p:=by have:=ra;unfold uO at this;rw[e1]at this;exact this
    have rb':VR U (.rc i) y2 p':=by have:=rb;unfold uO at this;rw[e2]at this;exact this
    obtain⟨cs,rfl,hc⟩:=QS ra';obtain⟨ds,rfl,hd⟩:=QS rb';have jy: ∀{cs:List PV} {x:U.D i},wks cs=U.en i x->cs=U.en i x:=by
     intro cs x hx;have h3:=hU.eqc i f x hf;rw[<-hx]at h3;rw[<-hx];clear hx;induction cs with
     |nil=>rfl
     |cons c cs ih=>
      simp only[wks,aP,aC]at h3;rw[wks,<-ih h3.2];congr 1;have h4:=h3.1;cases hc:wk c<;>rw[hc]at h4<;>first|exact SE hc|exact JJ hc|cases h4
    have he:=hT.eq t i f ht hf x2 y2 x y;rw[<-jy hc,<-jy hd]at he;split at h
    .exact⟨_,_,h,he.1,fP _⟩
    .exact⟨_,_,h,he.2,fP _⟩
    .cases h
   .cases h
  .cases h
 .rename_i e l;have hp:p'= .nil:=rb;subst hp;obtain⟨_,hl⟩:=tK ra;have key: ∀(op:BinOp),l.isEmpty=ah->(∃e',T.T.ty t=aa (.sl e'))->lA P op t x y p .nil=a2v op p:=by
   intro op bn ⟨e',ht⟩;obtain⟨fm,hu,_⟩:=hT.un t _ ht;rcases hl with⟨rfl,_⟩|⟨_,rfl⟩
   .cases bn
   .simp only[lA,aDx,pY,hu]
  have cw:l.isEmpty=ah->∃z es,p= .sl z es:=λbn=>by
   rcases hl with⟨rfl,_⟩|⟨_,h1⟩
   .cases bn
   .exact⟨_,_,h1⟩
  split at h
  .rename_i ht;obtain⟨bn,hk⟩:=fJ h;simp only[Bool.not_eq_true']at bn;obtain⟨z,es,rfl⟩:=cw bn;exact⟨_,_,hk,by rw[key _ bn ⟨_,ht⟩];rfl,fP _⟩
  .rename_i ht;obtain⟨bn,hk⟩:=fJ h;simp only[Bool.not_eq_true']at bn;obtain⟨z,es,rfl⟩:=cw bn;exact⟨_,_,hk,by rw[key _ bn ⟨_,ht⟩];rfl,fP _⟩
  .cases h
 .cases h
end
end Go.TV
namespace Go.TV
open Go.AI Go.PI
section
variable{P:aw}{U:hJ}{T:TP U.D}{c:Cx}{W:Type}{r:W}
def aWv{op:UnOp}{a:SV U.D}{p:PV}{K:V U->Option W}(h:a8H U op a K=aa r)(ra:uO U c a p): ∃v w,K v=aa r/\bCW P op p=aa w/\VR U v.t v.x w:=by
 unfold a8H at h;split at h
 .rw[of_bool ra];exact⟨_,_,h,rfl,fP _⟩
 .rename_i k n;rw[iP ra];refine⟨_,.v (.int k (k.wrap (0-n))),h,?_,iG _ _⟩;cases k<;>rfl
 .cases h
def IT: ∀{l:List Int} {s:List UInt8},qH l=aa s->kA (l.map λn=>PV.v (.int .u8 n))=aa s
 |[],s,h=>by simp only[qH,aA]at h;subst h;rfl
 |n::l,s,h=>by
  unfold qH at h;split at h
  .rename_i s' hs;cases h;simp only[aO,kA,IT hs,aK]
  .cases h
def aIc(hT:rQ P U T){sq:Bool}{s d:av}{a:SV U.D}{p:PV}{K:V U->Option W}(h:IN U sq (T.T.ty s) (T.T.ty d) a K=aa r)(ra:uO U c a p):
    ∃v w,K v=aa r/\VR U v.t v.x w/\(zD P s d p=aa w∨(sq=ae/\zD P s d p=ad/\BN P s d p=aa w)):=by
 unfold IN at h;split at h
 .rename_i k1 j k n hs hd;rw[iP ra];have h1:P.underlying s=aa (.int k1):=hT.un s _ hs;have h2:P.underlying d=aa (.int j):=hT.un d _ hd;refine⟨_,.v (.int j (j.wrap n)),h,iG _ _,.inl ?_⟩;have:=a27 (k:=k) (a:=n) h1 h2;simp only[aIH,bQ,aI]at this;simp only[zD,pY,bQ,aI,this];rfl
 .rename_i x hs hd;rw[Ab ra];have h1:P.underlying s=aa .string:=hT.un s _ hs;have h2:P.underlying d=aa .string:=hT.un d _ hd;refine⟨_,.str x,h,FW _,.inl ?_⟩;simp only[zD,pY,cS,convert,bM,bU,h1,h2,aL,bS,cN,aI];rfl
 .rename_i l hs hd;cases sq with
  |false=>cases h
  |true=>
   obtain⟨x,hx,hk⟩:=oK h;obtain⟨e,h1,he,_⟩:=hT.un s _ hs;have h2:P.underlying d=aa .string:=hT.un d _ hd;have h3:P.underlying e=aa (.int .u8):=hT.un e _ he;obtain⟨vg,hl⟩:=tK ra;refine⟨_,.str x,hk,FW _,.inr ⟨rfl,?_,?_⟩⟩
   .have:pY p=ad:=by
     rcases hl with⟨_,rfl|rfl|rfl⟩|⟨_,rfl⟩<;>rfl
    simp only[zD,this]
   .have gn:pA 1 p=aa (l.map λn=>PV.v (.int .u8 n)):=vg
    simp only[BN,h1,h2,h3,gn,IT hx,aK]
 .cases h
def aF3{w:Bool}{a b:X U}{p q:PV}{o1 o2:Bool}{K:X U->Option W}(h:HR U w a b K=aa r)(ra:qB U c a (p,o1))(rb:qB U c b (q,o2)):
    ∃x,K x=aa r/\qB U c x (bif w then p else q,ah):=by
 unfold HR at h;split at h
 .rename_i t x u y ea eb;split at h
  .rename_i y' hy;have e:=pB hy;have h1:=ra.1;have h2:=rb.1;rw[ea]at h1;rw[eb,e]at h2;refine⟨_,h,?_,bX _ _⟩;cases w with
   |true=>exact h1
   |false=>exact h2
  .cases h
 .rcases Fw h with⟨rfl,hk⟩|⟨rfl,hk⟩
  .exact⟨_,hk,vP ra⟩
  .exact⟨_,hk,vP rb⟩
def aO2(hT:rQ P U T){t:av}{x:SV U.D}{p:PV}{K:X U->Option W}(h:aCL U (T.T.ty t) x K=aa r)(ra:uO U c x p):
    ∃y w,K y=aa r/\C7 P t p=aa w/\qB U c y (w,ah):=by
 unfold aCL at h;split at h
 .rename_i e e' l ht;cases he:e.beq e' with
  |false=>rw[he]at h;cases h
  |true=>
   rw[he]at h;obtain⟨fm,hu,_⟩:=hT.un t _ ht;obtain⟨_,hl⟩:=tK ra;refine⟨_,i64 (l.length:Int),h,?_,iG _ _,bX _ _⟩;simp only[C7,hu];rcases hl with⟨rfl,rfl|rfl|rfl⟩|⟨_,rfl⟩<;>simp
 .rename_i l ht;have hu:P.underlying t=aa .string:=hT.un t _ ht;rw[Ab ra];refine⟨_,i64 (l.length:Int),h,?_,iG _ _,bX _ _⟩;simp only[C7,hu]
 .rename_i e ht;have hp:p= .nil:=ra;subst hp;obtain⟨fm,hu,_⟩:=hT.un t _ ht;exact⟨_,i64 0,h,by simp only[C7,hu],iG _ _,bX _ _⟩
 .cases h
def aGH{mx:Bool}{ts:Array av}{ty:av}{a b:SV U.D}{p q:PV}{K:X U->Option W}(h:a3g U mx a b K=aa r)(ra:uO U c a p)(rb:uO U c b q):
    ∃y w,K y=aa r/\oH P mx ts ty [p,q]=aa w/\qB U c y (w,ah):=by
 unfold a3g at h;split at h
 .rename_i x y;rw[iP ra,iP rb];refine⟨_,_,h,?_,iG _ _,bX _ _⟩;cases mx with
  |true=>
   simp only[oH,SO,pY,bQ,aI,cS,Builtin.max_,List.foldlM_cons,List.foldlM_nil,Builtin.max2,bM,bS,aL,cN];by_cases fw:x<y
   .simp[fw];rfl
   .simp[fw];rfl
  |false=>
   simp only[oH,SO,pY,bQ,aI,aJ,cS,Builtin.min_,List.foldlM_cons,List.foldlM_nil,Builtin.min2,bM,bS,aL,cN];by_cases fw:y<x
   .simp[fw];rfl
   .simp[fw];rfl
 .cases h
def oJ{x:Option (SV U.D)}{y:Option PV}{i:Option Int}(h:aGa U x=aa i)(hr: ∀a,x=aa a->∃b,y=aa b/\uO U c a b)(hn:x=ad->y=ad):
    (i=ad/\y=ad)∨∃n k,i=aa n/\y=aa (.v (.int k n)):=by
 unfold aGa at h;split at h
 .cases h;exact .inl ⟨rfl,hn rfl⟩
 .rename_i k n;cases h;obtain⟨b,h1,h2⟩:=hr _ rfl;exact .inr ⟨n,k,rfl,by rw[h1,iP h2]⟩
 .cases h
def iO{S:TS U.D}{S':PS}(F:lX U c S S')(x:Option az):(∀a,(x.map λx=>(jI U S x).1)=aa a->∃b,x.map (cQ S')=aa b/\uO U c a b)/\((x.map λx=>(jI U S x).1)=ad->x.map (cQ S')=ad):=by
 cases x with
 |none=>exact⟨λa h=>(by cases h),λ_=>rfl⟩
 |some x=>exact⟨λa h=>by cases h;exact⟨_,rfl,(dD F x).1⟩,λh=>by cases h⟩
def DU{N:Type}{l s:List N}{lo hi:Int}(h:slc l lo hi=aa s):0<=lo/\lo<=hi/\hi<=(l.length:Int)/\s=(l.take hi.toNat).drop lo.toNat:=by
 unfold slc at h;cases hb:aj (0<=lo)&&aj (lo<=hi)&&aj (hi<=(l.length:Int))with
 |false=>rw[hb]at h;cases h
 |true=>
  rw[hb]at h;simp only[aI,aA]at h;simp only[aC,aD]at hb;exact⟨hb.1.1,hb.1.2,hb.2,h.symm⟩
def Ru(s:List UInt8)(l h:Nat):((⟨s.toArray⟩:ByteArray).extract l h).data.toList=(s.take h).drop l:=by
 rw[ByteArray.data_extract];simp only[Array.toList_extract,List.extract_eq_take_drop];rw[List.drop_take]
def aXp(hT:rQ P U T){S:TS U.D}{S':PS}(F:lX U c S S'){p:PSt}{t:av}{x:SV U.D}{a:PV}{lo hi mx:Option az}{K:X U->Option W}(h:a8L U S (T.T.ty t) x lo hi mx K=aa r)(ra:uO U c x a):
    ∃y w own,K y=aa r/\kZ P p t a (lo.map (cQ S')) (hi.map (cQ S')) (mx.map (cQ S'))=aa (w,own)/\qB U c y (w,own):=by
 unfold a8L at h;split at h
 .rename_i s l hh ht hl kf hm;have h1:=oJ hl (iO F lo).1 (iO F lo).2;have h2:=oJ kf (iO F hi).1 (iO F hi).2;have h3:=oJ hm (iO F mx).1 (iO F mx).2;obtain⟨q,hq,hk⟩:=oK h;obtain⟨b1,b2,b3,rfl⟩:=DU hq;have hu:P.underlying t=aa .string:=hT.un t _ ht;rw[Ab ra];rcases h3 with⟨_,h3⟩|⟨_,_,h3,_⟩
  .refine⟨_,.str ((s.take (hh.getD (s.length:Int)).toNat).drop (l.getD 0).toNat),ah,hk,?_,FW _,bX _ _⟩;have key: ∀(lv hv:Option Value),(lv=ad/\l=ad∨∃n k,l=aa n/\lv=aa (.int k n))->(hv=ad/\hh=ad∨∃n k,hh=aa n/\hv=aa (.int k n))->
          cS P (Instr.sliceAt t (.string ⟨s.toArray⟩) lv hv ad)=aa (.string ((⟨s.toArray⟩:ByteArray).extract (l.getD 0).toNat (hh.getD (s.length:Int)).toNat)):=by
    intro lv hv hlv hhv;have co:(⟨s.toArray⟩:ByteArray).size=s.length:=by show s.toArray.size=_;simp
    have e:cJ P (Instr.sliceBounds ah s.length s.length lv hv ad)=aa ((l.getD 0).toNat,(hh.getD (s.length:Int)).toNat,s.length):=by
     rcases hlv with⟨rfl,rfl⟩|⟨n,k,rfl,rfl⟩<;>rcases hhv with⟨rfl,rfl⟩|⟨m,j,rfl,rfl⟩
     .simp[Instr.sliceBounds,bM,bS]
     .simp only[Option.getD_none,Option.getD_some]at b1 b2 b3;simp[Instr.sliceBounds,Instr.sliceBound,asIntOf,bM,bS,b2,b3]
     .simp only[Option.getD_none,Option.getD_some]at b1 b2 b3;simp[Instr.sliceBounds,Instr.sliceBound,asIntOf,bM,bS,b1,b2]
     .simp only[Option.getD_some]at b1 b2 b3;have b0:0<=m:=by omega
      have b4:(m.toNat:Int)=m:=by omega
      simp[Instr.sliceBounds,Instr.sliceBound,asIntOf,bM,bS,b0,b1,b2,b3,b4]
    simp only[cS,Instr.sliceAt,Instr.slice,bM,bU,hu,aL,Option.isSome_none,Bool.false_eq_true,if_false,bS,co,e,cN,bQ,aI]
   have hv1: ∃lv,Tt (lo.map (cQ S'))=aa lv/\(lv=ad/\l=ad∨∃n k,l=aa n/\lv=aa (.int k n)):=by
    rcases h1 with⟨rfl,e⟩|⟨n,k,rfl,e⟩
    .exact⟨ad,by rw[e];rfl,.inl ⟨rfl,rfl⟩⟩
    .exact⟨aa (.int k n),by rw[e];rfl,.inr ⟨n,k,rfl,rfl⟩⟩
   have hv2: ∃hv,Tt (hi.map (cQ S'))=aa hv/\(hv=ad/\hh=ad∨∃n k,hh=aa n/\hv=aa (.int k n)):=by
    rcases h2 with⟨rfl,e⟩|⟨n,k,rfl,e⟩
    .exact⟨ad,by rw[e];rfl,.inl ⟨rfl,rfl⟩⟩
    .exact⟨aa (.int k n),by rw[e];rfl,.inr ⟨n,k,rfl,rfl⟩⟩
   obtain⟨lv,e1,g1⟩:=hv1;obtain⟨hv,e2,g2⟩:=hv2;simp only[kZ,hu,e1,e2,h3,key lv hv g1 g2,aK,Bz,Ru]
  .cases h3
 .rename_i e e' s l hh ht hl kf hm;have h1:=oJ hl (iO F lo).1 (iO F lo).2;have h2:=oJ kf (iO F hi).1 (iO F hi).2;have h3:=oJ hm (iO F mx).1 (iO F mx).2;cases he:e.beq e' with
  |false=>rw[he]at h;cases h
  |true=>
   rw[he]at h;have:=Ty.beq_eq he;subst this;obtain⟨q,hq,hk⟩:=oK h;obtain⟨b1,b2,b3,rfl⟩:=DU hq;obtain⟨fm,hu,gx,_⟩:=hT.un t _ ht;have co:=hT.sz fm e gx;have i1:nU (lo.map (cQ S'))=aa l:=by rcases h1 with⟨rfl,e⟩|⟨n,k,rfl,e⟩<;>rw[e]<;>rfl
   have i2:nU (hi.map (cQ S'))=aa hh:=by rcases h2 with⟨rfl,e⟩|⟨n,k,rfl,e⟩<;>rw[e]<;>rfl
   have i3:nU (mx.map (cQ S'))=aa ad:=by rcases h3 with⟨_,e⟩|⟨n,k,e,_⟩;rw[e];rfl;cases e
   obtain⟨_,rq⟩:=tK ra;refine⟨_,eD (dJ U e) (((s.map (dK U e)).take (hh.getD (s.length:Int)).toNat).drop (l.getD 0).toNat),ah,hk,?_,zM _ _ rfl (by rw[List.map_drop,List.map_take]),bX _ _⟩
   rcases rq with⟨rfl,h4⟩|⟨_,rfl⟩
   .have b2:l.getD 0<=hh.getD 0:=b2;have b3:hh.getD 0<=0:=b3;have c1:(aj (0<=l.getD 0)&&aj (l.getD 0<=hh.getD 0)&&aj (hh.getD 0<=0))=ae:=by
     simp only[aC,aD];exact⟨⟨b1,b2⟩,b3⟩
    rcases h4 with rfl|rfl|rfl
    .simp only[kZ,hu,co,i1,i2,i3,c1,aI];simp[eD]
    .simp only[kZ,hu,co,i1,i2,i3,c1,aI];simp[eD]
    .simp only[kZ,hu,co,i1,i2,i3,Nat.beq_refl,Bool.true_and];rw[show(aj (0<=l.getD 0)&&aj (l.getD 0<=hh.getD ((([]:List PV).length:Nat):Int))&&aj (hh.getD ((([]:List PV).length:Nat):Int)<=((([]:List PV).length:Nat):Int)))=ae from c1];simp[eD]
   .have c1:(am (dJ U e) (dJ U e)&&aj (0<=l.getD 0)&&aj (l.getD 0<=hh.getD (s.length:Int))&&aj (hh.getD (s.length:Int)<=(s.length:Int)))=ae:=by
     simp only[Nat.beq_refl,Bool.true_and,aC,aD];exact⟨⟨b1,b2⟩,b3⟩
    simp only[kZ,hu,co,i1,i2,i3,List.length_map];rw[c1];rfl
 .rename_i e e' s l hh m ht hl kf hm;have h1:=oJ hl (iO F lo).1 (iO F lo).2;have h2:=oJ kf (iO F hi).1 (iO F hi).2;have h3:=oJ hm (iO F mx).1 (iO F mx).2;cases he:e.beq e' with
  |false=>rw[he]at h;cases h
  |true=>
   rw[he]at h;have:=Ty.beq_eq he;subst this;rw[aI]at h;obtain⟨fm,hu,gx,_⟩:=hT.un t _ ht;have co:=hT.sz fm e gx;have i1:nU (lo.map (cQ S'))=aa l:=by rcases h1 with⟨rfl,e⟩|⟨n,k,rfl,e⟩<;>rw[e]<;>rfl
   have i2:nU (hi.map (cQ S'))=aa (aa hh):=by rcases h2 with⟨e,_⟩|⟨n,k,e0,e⟩;cases e;rw[e];cases e0;rfl
   have i3:nU (mx.map (cQ S'))=aa (aa m):=by rcases h3 with⟨e,_⟩|⟨n,k,e0,e⟩;cases e;rw[e];cases e0;rfl
   obtain⟨_,rq⟩:=tK ra;cases hk0:bEL mx with
   |true=>
    rw[hk0,aI]at h;have hc:=(fJ h).1
    replace h:=(fJ h).2
    simp only[aC,aD,List.isEmpty_iff]at hc;obtain⟨⟨⟨rfl,hl0⟩,rfl⟩,rfl⟩:=hc;refine⟨_,.emp,ae,h,?_,zM (U:=U) e [] (es:=[]) rfl rfl,?_⟩
    .rcases rq with⟨_,h4⟩|⟨h4,_⟩
     .rcases h4 with rfl|rfl|rfl
      all_goals simp[kZ,hu,co,i1,i2,i3,hl0]
     .exact absurd rfl h4
    .intro o s' ro;simp only[List.mem_singleton,aB]at ro;exact .inr ⟨ro.1,rfl,rfl,λ_=>rfl⟩
   |false=>
   rw[hk0,aJ]at h;obtain⟨hc,h⟩:=fJ h;simp only[aC,aD]at hc;obtain⟨q,hq,hk⟩:=oK h;obtain⟨b1,b2,b3,rfl⟩:=DU hq;rcases rq with⟨rfl,_⟩|⟨_,rfl⟩
   .simp only[aX]at b3;omega
   .refine⟨_,eD (dJ U e) (((s.map (dK U e)).take hh.toNat).drop (l.getD 0).toNat),ae,hk,?_,zM _ _ rfl (by rw[List.map_drop,List.map_take]),?_⟩
    .have c1:(am (dJ U e) (dJ U e)&&aj (0<=l.getD 0)&&aj (l.getD 0<(aa hh).getD (s.length:Int))&&aj ((aa hh).getD (s.length:Int)<=(s.length:Int))&&(aa hh).isSome&&aj ((aa hh).getD (s.length:Int)=m))=ae:=by
      simp only[Nat.beq_refl,Bool.true_and,aC,aD,Option.getD_some,Option.isSome_some,and_true];exact⟨⟨⟨b1,hc.2⟩,b3⟩,hc.1⟩
     simp only[kZ,hu,co,i1,i2,i3,List.length_map];rw[c1];rfl
    .intro o s' ro;simp only[List.mem_singleton,aB]at ro;refine .inr ⟨ro.1,?_,rfl,λ_=>?_⟩
     .have:=eT (dJ U e) (((s.map (dK U e)).take hh.toNat).drop (l.getD 0).toNat);cases hc:eD (dJ U e) (((s.map (dK U e)).take hh.toNat).drop (l.getD 0).toNat)<;>first|rfl|(rw[hc]at this;cases this)
     .exact BY (eT _ _)
 .cases h
end
end Go.TV
namespace Go.TV
open Go.AI Go.PI
section
variable{P:aw}{U:hJ}{T:TP U.D}{c:Cx}{W:Type}{r:W}(hU:hQ U)(hT:rQ P U T)
def KW{o n:Nat}: ∀{rs:jC} {x:Nat×Bool},x∈RD o n rs->(x.1+o,x.2)∈rs/\x.1<n
 |[],x,h=>by cases h
 |y::rs,x,h=>by
  unfold RD at h;cases hb:an o y.1&&d8 y.1 (o+n)with
  |false=>
   rw[hb]at h;obtain⟨h1,h2⟩:=KW h;exact⟨aG _ h1,h2⟩
  |true=>
   rw[hb]at h;simp only[aC,d7,gZ,aD]at hb;rcases List.mem_cons.1 h with rfl|h
   .refine⟨?_,by simp only;omega⟩
    have:y.1-o+o=y.1:=by omega
    simp only[this];exact aH ..
   .obtain⟨h1,h2⟩:=KW h;exact⟨aG _ h1,h2⟩
def DR{id:av}{n f:Nat}{w:Ty}(hT:rQ P U T)(ht:Qa T.T id=aa (.rc n))(hw:(U.fs n)[f]?=aa w):
    ∃fs fd,P.underlying id=aa (.struct fs)/\fs[f]?=aa fd/\T.T.ty fd.type=aa w/\fd.offset=kF U n f:=by
 obtain⟨ht,ha⟩:=aCf ht;obtain⟨fs,hu,co,hf⟩:=hT.un id _ ht ha;have bi:f<(U.fs n).length:=by
  rcases b7 f (U.fs n).length with h|h
  .exact h
  .rw[d9 h]at hw;cases hw
 have jv:f<fs.size:=by rw[co];exact bi
 have ve:fs[f]?=aa fs[f]:=Array.getElem?_eq_getElem jv;obtain⟨h1,h2⟩:=hf f _ ve;exact⟨fs,fs[f],hu,ve,by rw[h1,hw],h2⟩
def aEC{rs:jC}{cs:List PV}{o n:Nat}{ow:Bool}{q:PV}(h:aDA rs (.agg cs) ow)(hq:q.cells=(cs.drop o).take n):aDA (RD o n rs) q ah:=λi s hi=>by
 obtain⟨h1,h2⟩:=KW hi;rcases h _ _ h1 with⟨_,h3⟩|⟨_,h3,_⟩
 .have h4:q.cells[i]?=aa .nil:=by
   rw[hq,List.getElem?_take,bI h2,List.getElem?_drop,Nat.add_comm];exact h3
  cases jf:isAgg q with
  |true=>exact .inl ⟨rfl,h4⟩
  |false=>
   have:q.cells=[q]:=pD λds e=>by rw[e]at jf;cases jf
   rw[this]at h4;cases i with
   |zero=>
    simp only[aU,aA]at h4;subst h4;exact .inr ⟨rfl,rfl,rfl,λ_=>rfl⟩
   |succ i=>simp at h4
 .cases h3
include hU hT
def aHK{t:av}{n f:Nat}{v w:V U}{rs:jC}{p:PV}{ow:Bool}(ht:Qa T.T t=aa (.rc n))(hv:v.t.beq (.rc n)=ae)(hw:Li U v f=aa w)(ra:qB U c (.val v,rs) (p,ow)):
    ∃q,En P t p f=aa q/\qB U c (.val w,RD (kF U n f) (dJ U w.t) rs) (q,ah):=by
 obtain⟨t',x⟩:=v;have:=Ty.beq_eq hv;subst this;obtain⟨cs,rfl,hcs⟩:=QS ra.1;have hsr:SR (U:=U) (.rc n) x cs:=(VR.sr ra.1);have ph:(U.un n x)[f]?=aa w:=hw;obtain⟨fs,fd,hu,ve,fu,jr⟩:=DR hT ht (E6 hU ph);obtain⟨q,h1,h2,h3,h4⟩:=AM hU hT fu (hsr.fld hU ph);refine⟨q,?_,h2,aEC ra.2 h3⟩;simp only[En,hu,ve,jr];exact h1
def qG{t:av}{n f:Nat}(ht:Qa T.T t=aa (.rc n))(hf:f<(U.fs n).length):
    (∀id off,hY P t (.ptr id off) f=aa (.ptr id (off+kF U n f)))/\(∀es i off,hY P t (.pin es i off) f=aa (.pin es i (off+kF U n f))):=by
 obtain⟨w,hw⟩: ∃w,(U.fs n)[f]?=aa w:=⟨_,aV hf⟩;obtain⟨fs,fd,hu,ve,fu,jr⟩:=DR hT ht hw;have hz:am (dJ U w) 0=ah:=by
  rw[dN,bC];have:=pZ hU w;omega
 constructor
 .intro id off;simp only[hY,hu,ve,hT.sz _ _ fu,hz,aJ,jr]
 .intro es i off;simp only[hY,hu,ve,hT.sz _ _ fu,hz,aJ,jr]
def Lm{t:av}{n f:Nat}{v w:V U}{p:PV}(ht:Qa T.T t=aa (.rc n))(hv:v.t.beq (.rc n)=ae)(hw:Li U v f=aa w)(ra:uO U c (.ep v) p):
    ∃q,hY P t p f=aa q/\uO U c (.ep w) q:=by
 obtain⟨es,i,off,e,rfl,he,hcs⟩:=ra;obtain⟨t',x⟩:=v;have:=Ty.beq_eq hv;subst this;have ph:(U.un n x)[f]?=aa w:=hw;have bi:f<(U.fs n).length:=by
  have:=E6 hU ph;rcases b7 f (U.fs n).length with h|h
  .exact h
  .rw[d9 h]at this;cases this
 refine⟨_,(qG hU hT ht bi).2 _ _ _,_,_,_,_,rfl,he,?_⟩;have hfc:=B1 hU ph;have vi:(e.cells.drop off).take (U.sz n)=U.en n x:=hcs;rw[<-hfc,<-vi];have hle:kF U n f+dJ U w.t<=U.sz n:=by
  have h1:((U.en n x).drop (kF U n f)).take (dJ U w.t)=(dK U w.t w.x).cells:=hfc;have h2:=congrArg List.length h1;rw[List.length_take,List.length_drop,hU.len,iT hU]at h2;have:=pZ hU w.t;omega
 rw[List.drop_take,List.drop_drop,List.take_take,Nat.min_eq_left (by omega)]
omit hU hT in
def zT(te:Ty): ∀j:Nat,eQ U (List.replicate j te)=j*dJ U te
 |0=>by simp[eQ]
 |j+1=>by
  rw[List.replicate_succ,Nat.succ_mul];simp only[eQ];rw[zT te j];omega
def K6{t:av}{n j:Nat}{v w:V U}{p:PV}{k:IntKind}(ht:T.T.ty t=aa (.rc n))(ha:T.T.arr t=ae)(hv:v.t.beq (.rc n)=ae)(hw:Li U v j=aa w)(ra:uO U c (.ep v) p):
    ∃q,gE P t p (.v (.int k (j:Int)))=aa q/\uO U c (.ep w) q:=by
 obtain⟨es,i,off,e,rfl,he,hcs⟩:=ra;obtain⟨t',x⟩:=v;have:=Ty.beq_eq hv;subst this;have ph:(U.un n x)[j]?=aa w:=hw;have bi:j<(U.fs n).length:=by
  have:=E6 hU ph;rcases b7 j (U.fs n).length with h|h
  .exact h
  .rw[d9 h]at this;cases this
 obtain⟨len,el,te,hu,hz,hf⟩:=hT.arr t n ht ha;have hj:j<len:=by rw[hf,List.length_replicate]at bi;exact bi
 have hin:cR (j:Int) len=ae:=by simp only[cR,aC,aD];omega
 have ho:kF U n j=j*dJ U te:=by rw[kF,hf,List.take_replicate,Nat.min_eq_left (by omega)];exact zT _ _
 refine⟨.pin es i (off+Int.toNat (j:Int)*dJ U te),by simp only[gE,hu,hz,hin,aI],_,_,_,_,rfl,he,?_⟩
 have hfc:=B1 hU ph;have vi:(e.cells.drop off).take (U.sz n)=U.en n x:=hcs;rw[<-hfc,<-vi];have hle:kF U n j+dJ U w.t<=U.sz n:=by
  have h1:((U.en n x).drop (kF U n j)).take (dJ U w.t)=(dK U w.t w.x).cells:=hfc;have h2:=congrArg List.length h1;rw[List.length_take,List.length_drop,hU.len,iT hU]at h2;have:=pZ hU w.t;omega
 rw[List.drop_take,List.drop_drop,List.take_take,Nat.min_eq_left (by omega),Int.toNat_natCast,ho]
omit hU hT in
def A6{N:Type}{l:List N}{n:Int}{y:N}(h:cU l n=aa y):0<=n/\l[n.toNat]?=aa y/\n.toNat<l.length:=by
 unfold cU at h;cases hb:aj (0<=n)with
 |false=>rw[hb]at h;cases h
 |true=>
  rw[hb]at h;refine⟨of_decide_eq_true hb,h,?_⟩;rcases b7 n.toNat l.length with h1|h1
  .exact h1
  .rw[aI,d9 h1]at h;cases h
def K5{t:av}{e e':Ty}{l:List (Den U.D e')}{y:Den U.D e'}{k:IntKind}{n:Int}{p:PV}(ht:T.T.ty t=aa (.sl e))(he:e.beq e'=ae)(hy:cU l n=aa y)(ra:uO U c (.val ⟨.sl e',l⟩) p):
    ∃q,gE P t p (.v (.int k n))=aa q/\uO U c (.ep ⟨e',y⟩) q:=by
 have:=Ty.beq_eq he;subst this;obtain⟨h0,h1,h2⟩:=A6 hy;obtain⟨fm,hu,gx,_⟩:=hT.un t _ ht;obtain⟨_,hl⟩:=tK ra;rcases hl with⟨hl,_⟩|⟨_,rfl⟩
 .have hl:l=[]:=hl;subst hl;simp at h2
 .refine⟨.pin (l.map (dK U e)) n.toNat 0,?_,_,_,_,_,rfl,by rw[List.getElem?_map,h1];rfl,?_⟩
  .have c1:(am (dJ U e) (dJ U e)&&cR n (l.map (dK U e)).length)=ae:=by
    simp only[Nat.beq_refl,Bool.true_and,cR,List.length_map,aC,aD];exact⟨h0,by omega⟩
   simp only[gE,hu,hT.sz _ _ gx,c1,aI]
  .rw[List.drop_zero,List.take_of_length_le (by rw[iT hU];exact aS _)]
omit hU in
def aG0{t:av}{s:List UInt8}{b:UInt8}{k:IntKind}{n:Int}{p:PV}(ht:T.T.ty t=aa .str)(hy:cU s n=aa b)(ra:uO U c (.val ⟨.str,s⟩) p):
    BM P t p (.v (.int k n))=aa (.v (.int .u8 (b.toNat:Int))):=by
 obtain⟨h0,h1,h2⟩:=A6 hy;have hu:P.underlying t=aa .string:=hT.un t _ ht;rw[Ab ra];have co:(⟨s.toArray⟩:ByteArray)[n.toNat]?=aa b:=by
  have h3:s[n.toNat]'h2=b:=by rw[aV h2]at h1;exact Option.some.inj h1
  show(if h:n.toNat<(⟨s.toArray⟩:ByteArray).size then aa _ else ad)=_
  rw[dif_pos (show n.toNat<(⟨s.toArray⟩:ByteArray).size by show n.toNat<s.toArray.size;simpa using h2)]
  congr 1
 simp only[BM,hu,pY,bQ,aI,cS,Instr.index,asIntOf,bM,bS,aL,bU,h0,if_true,co,cN];rfl
end
end Go.TV
namespace Go.TV
open Go.AI Go.PI
section
variable{P:aw}{U:hJ}{T:TP U.D}{c:Cx}{W:Type}{r:W}
def Qw: ∀(x a b e:List PV),b.length=x.length->BK (a++b++e) a.length x=a++x++e
 |[],a,b,e,h=>by
  have:b=[]:=List.length_eq_zero_iff.1 h;subst this;simp[BK]
 |y::x,a,b,e,h=>by
  cases b with
  |nil=>simp at h
  |cons z b=>
   have h1:(a++(z::b)++e).set a.length y=(a++ [y])++b++e:=by
    rw[aQ,List.set_append_right _ _ (aS _)];simp
   have h2:=Qw x (a++ [y]) b e (by simpa using h)
   rw[BK,h1];simp only[aZ,aM,aX]at h2;rw[h2];simp
def aCs: ∀(ss:List (List PV)) (i:Nat) (s x:List PV),ss[i]?=aa s->s.length=x.length->BK ss.flatten (ss.take i).flatten.length x=(ss.set i x).flatten:=by
 intro ss i s x h hl;have h1:i<ss.length:=by
  rcases b7 i ss.length with h1|h1
  .exact h1
  .rw[d9 h1]at h;cases h
 have hs:ss[i]=s:=by rw[aV h1]at h;exact Option.some.inj h
 have e1:ss.flatten=(ss.take i).flatten++s++(ss.drop (i+1)).flatten:=by
  have h3:ss=ss.take i++(ss[i]::ss.drop (i+1)):=by rw[<-List.drop_eq_getElem_cons h1,List.take_append_drop]
  conv=>lhs;rw[h3]
  rw[List.flatten_append,List.flatten_cons,hs,aQ]
 have e2:(ss.set i x).flatten=(ss.take i).flatten++x++(ss.drop (i+1)).flatten:=by
  rw[List.set_eq_take_append_cons_drop,bI h1,List.flatten_append,List.flatten_cons,aQ]
 rw[e1,e2];exact Qw x _ s _ hl
def C5(U:hJ):List (V U×Bool)->List (List PV)->Prop
 |[],[]=>True
 |y::l,s::ss=>(SR y.1.t y.1.x s/\(y.2=ae->∀o b,(o,b)∈AS U y.1.t->s[o]?=aa .nil))/\C5 U l ss
 |_,_=>False
def Qg: ∀{l:List (V U×Bool)} {ss:List (List PV)} {i:Nat} {y:V U×Bool},C5 U l ss->l[i]?=aa y->∃s,ss[i]?=aa s/\SR y.1.t y.1.x s
 |[],[],i,y,_,h=>by simp at h
 |z::l,s::ss,0,y,h,e=>by simp only[aU,aA]at e;subst e;exact⟨s,rfl,h.1.1⟩
 |z::l,s::ss,i+1,y,h,e=>by rw[aT]at e;obtain⟨s',h1,h2⟩:=Qg h.2 e;exact⟨s',by rw[aT];exact h1,h2⟩
 |[],_::_,_,_,h,_=>h.elim
 |_::_,[],_,_,h,_=>h.elim
def Qf: ∀{l:List (V U×Bool)} {ss:List (List PV)} {i:Nat} {y:V U×Bool} {s:List PV},C5 U l ss->(SR y.1.t y.1.x s/\(y.2=ae->∀o b,(o,b)∈AS U y.1.t->s[o]?=aa .nil))->C5 U (setF U l i y) (ss.set i s)
 |[],[],i,y,s,h,_=>by simp[setF,C5]
 |z::l,s'::ss,0,y,s,h,e=>⟨e,h.2⟩
 |z::l,s'::ss,i+1,y,s,h,e=>⟨h.1,Qf h.2 e⟩
 |[],_::_,_,_,_,h,_=>h.elim
 |_::_,[],_,_,_,h,_=>h.elim
def DW: ∀{l:List (V U×Bool)} {i:Nat} {y z:V U×Bool},l[i]?=aa z->y.1.t=z.1.t->(setF U l i y).map (λx=>x.1.t)=l.map λx=>x.1.t
 |[],i,y,z,h,_=>by simp at h
 |w::l,0,y,z,h,e=>by simp only[aU,aA]at h;subst h;simp[setF,e]
 |w::l,i+1,y,z,h,e=>by rw[aT]at h;simp only[setF,aO,DW h e]
def aAg: ∀(ts:List Ty) (i o:Nat) (t:Ty),ts[i]?=aa t->(aCz U ts o)[i]?=aa (o+eQ U (ts.take i),dJ U t)
 |[],i,o,t,h=>by simp at h
 |u::ts,0,o,t,h=>by simp only[aU,aA]at h;subst h;simp[aCz,eQ]
 |u::ts,i+1,o,t,h=>by
  rw[aT]at h;rw[aCz,aT,aAg ts i _ t h,List.take_succ_cons,eQ,Nat.add_assoc]
variable(hU:hQ U)(hT:rQ P U T)
include hU
def SA(t:Ty):wks (P1 U t)=(dK U t (pN U t)).cells:=by
 cases t with
 |rc n=>exact hU.zc n
 |int k=>rfl
 |bool=>rfl
 |str=>rfl
 |sl t=>rfl
omit hU in
def aNt(ts:List Ty): ∀c∈ts.flatMap aNh,∀z es,c≠ .sl z es:=by
 intro c hc z es e;rw[List.mem_flatMap]at hc;obtain⟨t,_,h⟩:=hc;cases t<;>simp[aNh,e]at h
def SB(t:Ty):SR t (pN U t) (P1 U t):=⟨SA hU t,λj z hj=>(aNt _ _ (ef hj) z [] rfl).elim⟩
def P0(t:Ty): ∀o b,(o,b)∈AS U t->(P1 U t)[o]?=aa .nil:=by
 intro o b h;cases t with
 |rc n=>
  have h1:=bJ.1 (hU.nz n) _ h;unfold aS4 at h1;split at h1
  .rename_i e;exact e
  .cases h1
 |sl t=>
  simp only[AS,List.mem_singleton,aB]at h;rw[h.1];rfl
 |_=>cases h
def PZ: ∀(ts:List Ty),C5 U (BA U ts) (ts.map (P1 U))
 |[]=>trivial
 |t::ts=>⟨⟨SB hU t,λ_=>P0 hU t⟩,PZ ts⟩
omit hU in
def PX: ∀(ts:List Ty),(BA U ts).map (λx=>x.1.t)=ts
 |[]=>rfl
 |t::ts=>by rw[BA,aO,PX ts]
def aB2(n:Nat):((U.fs n).map (P1 U)).flatten=P1 U (.rc n):=by
 show _=(U.lt n).flatMap aNh;rw[hU.lt n];induction U.fs n with
 |nil=>rfl
 |cons t ts ih=>rw[aO,List.flatten_cons,ih,aN,List.flatMap_append];rfl
def zU: ∀{l:List (V U×Bool)} {ss:List (List PV)},C5 U l ss->∀i,((ss.take i).flatten).length=eQ U ((l.map λx=>x.1.t).take i)
 |[],[],_,i=>by simp[eQ]
 |y::l,s::ss,h,0=>by simp[eQ]
 |y::l,s::ss,h,i+1=>by
  rw[List.take_succ_cons,List.flatten_cons,aZ,zU h.2 i,h.1.1.len hU,aO,List.take_succ_cons];rfl
 |[],_::_,h,_=>h.elim
 |_::_,[],h,_=>h.elim
def RW{S:TS U.D}{S':PS}(F:lX U c S S'){ts:List Ty}{place:Nat->Option (Nat×Nat)}(hp: ∀i t,ts[i]?=aa t->place i=aa (eQ U (ts.take i),dJ U t)):
    ∀(parts:List (Nat×az)) (l l':List (V U×Bool)) (ss:List (List PV)),C5 U l ss->l.map (λx=>x.1.t)=ts->aDb U S l parts=aa l'->
      ∃ss',AK place ss.flatten (parts.map λ(i,x)=>(i,cQ S' x))=aa ss'.flatten/\C5 U l' ss'/\l'.map (λx=>x.1.t)=ts
 |[],l,l',ss,hs,ht,h=>by
  simp only[aDb,aA]at h;subst h;exact⟨ss,rfl,hs,ht⟩
 |(i,x)::rest,l,l',ss,hs,ht,h=>by
  unfold aDb at h;split at h
  .rename_i y hy;split at h
   .rename_i v hv;obtain⟨gw,kw⟩:=lK hU hv (dD F x).1;obtain⟨s,hsi,hsr⟩:=Qg hs hy;have hsr':=VR.sr kw;have hlen:s.length=(cQ S' x).cells.length:=by rw[hsr.len hU,hsr'.len hU,gw]
    have hti:ts[i]?=aa y.1.t:=by rw[<-ht,List.getElem?_map,hy];rfl
    have jr:(ss.take i).flatten.length=eQ U (ts.take i):=by rw[zU hU hs,ht]
    have jo:C5 U (setF U l i (v,match(jI U S x).1 with| .nl=>ae|_=>ah)) (ss.set i (cQ S' x).cells):=by
     refine Qf hs ⟨hsr',λhn o b ho=>?_⟩
     split at hn
     .rename_i e;have h1:=(dD F x).1;rw[e]at h1 hv;have hp:cQ S' x= .nil:=h1;simp only[IV]at hv;split at hv
      .cases hv;simp only[AS,List.mem_singleton,aB]at ho;rw[hp,ho.1];rfl
      .cases hv
     .cases hn
    obtain⟨ss',g1,g2,g3⟩:=RW F hp rest _ l' _ jo (by rw[DW hy gw];exact ht) h
    refine⟨ss',?_,g2,g3⟩;rw[aO];simp only[AK,hp i _ hti];have hle:eQ U (ts.take i)+dJ U y.1.t<=ss.flatten.length:=by
     have h1:=zU hU hs (i+1);have h2:(ss.take (i+1)).flatten.length<=ss.flatten.length:=by
      conv=>rhs;rw[<-List.take_append_drop (i+1) ss]
      rw[List.flatten_append,aZ];omega
     have h3:eQ U (ts.take (i+1))=eQ U (ts.take i)+dJ U y.1.t:=by
      have bi:i<ts.length:=by
       rcases b7 i ts.length with h|h
       .exact h
       .rw[d9 h]at hti;cases hti
      rw[List.take_succ_eq_append_getElem bi,JS];have:ts[i]=y.1.t:=by rw[aV bi]at hti;exact Option.some.inj hti
      rw[this];simp[eQ]
     rw[ht]at h1;omega
    have c1:(am (cQ S' x).cells.length (dJ U y.1.t)&&an (eQ U (ts.take i)+dJ U y.1.t) ss.flatten.length&&(cQ S' x).cells.all PV.one)=ae:=by
     rw[hsr'.one hU,<-hlen,hsr.len hU,Nat.beq_refl,Bool.true_and,bE,d7];exact hle
    rw[c1,aI,<-jr,aCs ss i s _ hsi hlen];exact g1
   .cases h
  .cases h
def aEm: ∀{l:List (V U×Bool)} {ss:List (List PV)},C5 U l ss->wks ss.flatten=vX (aHA l)/\P2 U ((l.map λx=>x.1.t).flatMap (jH U)) ss.flatten
 |[],[],_=>⟨rfl,aNu _⟩
 |y::l,s::ss,h=>by
  obtain⟨h1,h2⟩:=aEm h.2;refine⟨?_,?_⟩
  .rw[List.flatten_cons,rT,h1,h.1.1.wk,aHA,jJ]
  .rw[List.flatten_cons,aO,aN];exact SD (by rw[Ad hU,h.1.1.len hU]) h.1.1.z h2
 |[],_::_,h=>h.elim
 |_::_,[],h=>h.elim
omit hU in
def aGI{o:Nat}: ∀{rs:jC} {x:Nat×Bool},x∈bAx o rs->∃j,x.1=j+o/\(j,x.2)∈rs
 |[],x,h=>by cases h
 |y::rs,x,h=>by
  unfold bAx at h;rcases List.mem_cons.1 h with rfl|h
  .exact⟨y.1,rfl,aH ..⟩
  .obtain⟨j,h1,h2⟩:=aGI h;exact⟨j,h1,aG _ h2⟩
def ZK: ∀{l:List (V U×Bool)} {ss:List (List PV)} {o:Nat},C5 U l ss->∀i b,(i,b)∈aGz U l o->∃j,i=j+o/\ss.flatten[j]?=aa .nil
 |[],[],o,_,i,b,h=>by cases h
 |y::l,s::ss,o,hs,i,b,h=>by
  unfold aGz at h;rcases List.mem_append.1 h with h1|h1
  .split at h1
   .rename_i hy;obtain⟨j,e1,e2⟩:=aGI h1;have:=hs.1.2 hy j b e2;have bi:j<s.length:=by
     rcases b7 j s.length with h2|h2
     .exact h2
     .rw[d9 h2]at this;cases this
    exact⟨j,e1,by rw[List.flatten_cons,List.getElem?_append_left bi];exact this⟩
   .cases h1
  .obtain⟨j,e1,e2⟩:=ZK hs.2 i b h1;refine⟨s.length+j,by rw[hs.1.1.len hU];omega,?_⟩
   rw[List.flatten_cons,eo (by omega),Nat.add_sub_cancel_left];exact e2
 |[],_::_,_,h,_,_,_=>h.elim
 |_::_,[],_,h,_,_,_=>h.elim
include hT
def aIr{S:TS U.D}{S':PS}(F:lX U c S S'){t:av}{n:Nat}{parts:List (Nat×az)}{l:List (V U×Bool)}{x:U.D n}(ht:T.T.ty t=aa (.rc n))(hl:aDb U S (BA U (U.fs n)) parts=aa l)(hx:U.of n (aHA l)=aa x):
    ∃w,zZ P t (parts.map λ(i,x)=>(i,cQ S' x))=aa w/\qB U c (.val ⟨.rc n,x⟩,aGz U l 0) (w,ah):=by
 obtain⟨place,tf,hpb⟩: ∃place:Nat->Option (Nat×Nat),(∀i t',(U.fs n)[i]?=aa t'->place i=aa (eQ U ((U.fs n).take i),dJ U t'))/\∀ps,zZ P t ps=(AK place (P1 U (.rc n)) ps).map .agg:=by
  cases vn:T.T.arr t with
  |false=>
   obtain⟨fs,pl,hu,di,hpp⟩:=hT.bd t n ht vn;refine⟨λi=>pl[i]?,λi t' hi=>?_,λps=>by simp only[zZ,hT.zc t _ ht,hu,di]⟩
   have:=aAg (U:=U) (U.fs n) i 0 t' hi;rw[<-hpp,Array.getElem?_toList,Nat.zero_add]at this;exact this
  |true=>
   obtain⟨len,e,te,hu,hz,hf⟩:=hT.arr t n ht vn;refine⟨λi=>aa (i*dJ U te,dJ U te),λi t' hi=>?_,λps=>by simp only[zZ,hT.zc t _ ht,hu,hz]⟩
   rw[hf,List.getElem?_replicate]at hi;split at hi
   .rename_i hi2;obtain rfl:=Option.some.inj hi;rw[hf,List.take_replicate,Nat.min_eq_left (by omega),zT]
   .cases hi
 obtain⟨ss',g1,g2,g3⟩:=RW hU F tf parts _ _ _ (PZ hU (U.fs n)) (PX _) hl;rw[aB2 hU n]at g1;obtain⟨g4,g5⟩:=aEm hU g2;have hun:=hU.un_of n _ x hx;refine⟨.agg ss'.flatten,?_,⟨?_,?_⟩,?_⟩
 .rw[hpb,g1,aK]
 .show PV.agg (wks ss'.flatten)= .agg (U.en n x);rw[g4,hU.en n x,hun];rfl
 .show P2 U (U.lt n) ss'.flatten;rw[hU.lt n,<-g3];exact g5
 .intro i b hi;obtain⟨j,e1,e2⟩:=ZK hU g2 i b hi;exact .inl ⟨rfl,by rw[e1];exact e2⟩
omit hT hU in
def SF{c:PV}(h:gd (wk c)=ae):c.pur=ae:=by
 cases c with
 |agg cs=>simp[wk,gd]at h
 |tup cs=>simp[wk,gd]at h
 |und=>simp[wk,gd]at h
 |_=>first|rfl|simp[wk,gd]at h
omit hT in
def uQ{t:Ty}{x:Den U.D t}{p:PV}(h:VR U t x p):PI.shape (lV t) (dJ U t) p=ae:=by
 have hs:=VR.sr h;have hp: ∀c∈p.cells,c.pur=ae:=λc hc=>SF (hs.gd hU hc)
 cases hr:lV t with
 |true=>
  cases t with
  |rc n=>
   obtain⟨cs,rfl,_⟩:=QS h;simp only[PI.shape,Bool.true_and,aC,dN,aD,bJ];exact⟨hs.len hU,hp⟩
  |_=>cases hr
 |false=>
  have ha:isAgg p=ah:=oO (v:=⟨t,x⟩) h hr;have hc:p.cells=[p]:=pD λds e=>by rw[e]at ha;cases ha
  have hz:dJ U t=1:=by cases t<;>first|rfl|cases hr
  have:=hp p (by rw[hc];exact List.mem_singleton.2 rfl)
  rw[hz];cases p<;>first|(cases ha;done)|simpa [PI.shape]using this
omit hU hT in
def Qe{N:Type}: ∀(l:List N) (i:Nat) (x:N),aNW l i x=l.set i x
 |[],_,_=>by cases ‹Nat› <;>rfl
 |y::l,0,x=>rfl
 |y::l,i+1,x=>by rw[aNW,Qe l i x];rfl
omit hT in
def aIs{S:TS U.D}{S':PS}(F:lX U c S S'){e:Ty}: ∀(parts:List (Nat×az)) (l l':List (Den U.D e)),aDa U S e l parts=aa l'->
    oQ (lV e) (dJ U e) (l.map (dK U e)) (parts.map λ(i,x)=>(i,cQ S' x))=aa (l'.map (dK U e))
 |[],l,l',h=>by simp only[aDa,aA]at h;subst h;rfl
 |(i,x)::rest,l,l',h=>by
  unfold aDa at h;split at h
  .rename_i v hv;split at h
   .rename_i w hw;cases hb:d8 i l.length with
    |false=>rw[hb]at h;cases h
    |true=>
     rw[hb]at h;obtain⟨gw,kw⟩:=lK hU hv (dD F x).1;have e1:=pB hw;have hvr':VR U e w (cQ S' x):=by
      have:VR U (⟨v.t,v.x⟩:TV U.D).t (⟨v.t,v.x⟩:TV U.D).x (cQ S' x):=kw;rw[e1]at this;exact this
     have g:=aIs F rest _ _ h;rw[aO];simp only[oQ,List.length_map,hb,uQ hU hvr',Bool.and_self,aI];rw[hvr'.wk,<-List.map_set,<-Qe];exact g
   .cases h
  .cases h
omit hU hT in
def Qq{N:Type}(f:N->PV)(x:N)(y:PV)(h:y=f x): ∀n,nN y n=(qZ x n).map f
 |0=>rfl
 |n+1=>by rw[nN,qZ,aO,Qq f x y h n,h]
def G4{S:TS U.D}{S':PS}(F:lX U c S S'){p:PSt}{o:Oper}{t:av}{e:Ty}{len:Nat}{parts:Array (Nat×az)}{l:List (Den U.D e)}(ho:o.op= .buildSlice t len parts)(ht:T.T.ty t=aa (.sl e))(hb:an (len*dJ U e) 1000000=ae)(hl:aDa U S e (qZ (pN U e) len) parts.toList=aa l):
    ∃w,fB P p S' o=aa (w,ae,p)/\qB U c (.val ⟨.sl e,l⟩,[(0,ae)]) (w,ae):=by
 obtain⟨fm,hu,gx,_⟩:=hT.un t _ ht;refine⟨eD (dJ U e) (l.map (dK U e)),?_,zM _ _ rfl rfl,?_⟩
 .have pf:(P1 U e).length=dJ U e:=(SB hU e).len hU;have c1:(an (len*dJ U e) 1000000&&am (P1 U e).length (dJ U e)&&an 1 (dJ U e)&&(lV e||am (dJ U e) 1))=ae:=by
   rw[hb,pf,Nat.beq_refl];have h1:an 1 (dJ U e)=ae:=by rw[d7];exact pZ hU e
   rw[h1];cases e<;>rfl
  have hz:wk (bif lV e then .agg (P1 U e)else(P1 U e).headD .und)=dK U e (pN U e):=by
   have:=SA hU e;cases e with
   |rc n=>simp only[lV,aI,wk,this];rfl
   |_=>rfl
  have hg:=aIs hU F parts.toList _ _ hl;rw[<-Qq (dK U e) (pN U e) _ hz]at hg;simp only[fB,ho,hu,hT.sz _ _ gx,hT.ag _ _ gx,hT.zc _ _ gx,c1,aI,hg]
 .intro i s hi;simp only[List.mem_singleton,aB]at hi;refine .inr ⟨hi.1,?_,rfl,λ_=>BY (eT _ _)⟩
  have:=eT (dJ U e) (l.map (dK U e));cases hc:eD (dJ U e) (l.map (dK U e))<;>first|rfl|(rw[hc]at this;cases this)
end
end Go.TV
namespace Go.TV
open Go.AI Go.PI
section
variable{P:aw}{U:hJ}{T:TP U.D}{c c0:Cx}{W:Type}{r:W}{q p:PSt}{M:TM U.D}
def aDe{k t:Nat}(h:k≠t):am k t=ah:=by rw[dN];exact bG h
def kI(m:List (Nat×BC U.D))(k j:Nat)(y:BC U.D):dL (qU m k y) j=if j=k then(dL m k).map λ_=>y else dL m j:=by
 induction m with
 |nil=>simp[dL,qU]
 |cons x m ih=>
  obtain⟨a,b⟩:=x;unfold qU;by_cases h:a=k
  .subst h;simp only[Nat.beq_refl,aI];by_cases hj:j=a
   .subst hj;simp[dL]
   .have hja:am a j=ah:=aDe λe=>hj e.symm
    simp only[dL,hja,aJ,bH hj]
  .simp only[aDe h,aJ];by_cases hj:j=k
   .subst hj;have:=ih;rw[bI rfl]at this;simp only[dL,aDe h,aJ,if_true];exact this
   .rw[bH hj]at ih⊢;simp only[dL];cases am a j with
    |true=>rfl
    |false=>exact ih
def gP(m:List (Nat×BC U.D))(k j:Nat)(y:BC U.D):dL ((k,y)::m) j=if j=k then aa y else dL m j:=by
 by_cases h:j=k
 .subst h;simp[dL]
 .have:am k j=ah:=aDe λe=>h e.symm
  simp only[dL,this,aJ,bH h]
def yN{p p':PSt}{e:Ce}{b:BC U.D}(h:Di U c p e b)(hg: ∀id,e.id=aa id->p'.get id=p.get id):Di U c p' e b:=by
 cases b with
 |bx s r=>obtain⟨id,cs,h1,h2,h3⟩:=h;exact⟨id,cs,h1,by rw[hg id h1];exact h2,h3⟩
 |row t l=>
  obtain⟨h1,h2,h3⟩:=h;refine⟨h1,h2,?_⟩;rcases h3 with h3|⟨id,h3,h4⟩
  .exact .inl h3
  .exact .inr ⟨id,h3,by rw[hg id h3];exact h4⟩
 |gone=>trivial
def aC6{c c':Cx}(h:leC c c'){s:SV U.D}{cs:List (PV×Bool)}(r:Aj U c s cs):Aj U c' s cs:=by
 cases s with
 |cl f caps=>obtain⟨p,b,h1,h2⟩:=r;exact⟨p,b,h1,aD8 h h2⟩
 |_=>exact r
def aIw{c c':Cx}(h:leC c c'){p:PSt}{e:Ce}{b:BC U.D}(r:Di U c p e b):Di U c' p e b:=by
 cases b with
 |bx s rs=>obtain⟨id,cs,h1,h2,h3,h4⟩:=r;exact⟨id,cs,h1,h2,aC6 h h3,h4⟩
 |row t l=>exact r
 |gone=>trivial
def MR.write(Mm:MR U q c0 c M p){k:Nat}{b b':BC U.D}{e:Ce}{id:Nat}{p':PSt}{w:List Nat}(hb:dL M.bx k=aa b)(he:c k=aa e)(hid:e.id=aa id)
    (hn:p'.next=p.next) (hg: ∀j,j≠id->p'.get j=p.get j) (hd: ∀j,j∈p'.dirty↔j=id∨j∈p.dirty) (hw: ∀j,j∈p'.wr->j=id∨j∈p.wr) (hr:Di U c p' e b'):
    MR U q c0 c ⟨qU M.bx k b',w⟩ p' where
 dom j h:=by
  simp only[kI]at h;by_cases hj:j=k
  .rw[bI hj,hb]at h;cases h
  .rw[bH hj]at h;exact Mm.dom j h
 bx j y h:=by
  simp only[kI]at h;by_cases hj:j=k
  .subst hj;rw[bI rfl,hb]at h;simp only[aK,aA]at h;subst h;exact⟨e,he,hr⟩
  .rw[bH hj]at h;obtain⟨e',h1,h2⟩:=Mm.bx j y h;exact⟨e',h1,yN h2 λi hi=>hg i λei=>hj (Mm.inj j k e' e id h1 he (by rw[<-ei];exact hi) hid)⟩
 lt j e' i h1 h2:=by rw[hn];exact Mm.lt j e' i h1 h2
 inj:=Mm.inj
 next:=by rw[hn];exact Mm.next
 bor:=Mm.bor
 loc:=Mm.loc
 old i hi ho:=by
  rw[hg i λe1=>ho ((hd i).2 (.inl e1))]
  exact Mm.old i hi λh=>ho ((hd i).2 (.inr h))
 dirty i hi bi:=by
  rcases(hd i).1 hi with rfl|h
  .have hk:k<100:=by
    rcases b7 k 100 with h|h
    .exact h
    .have:=Mm.loc k e i he h hid;omega
   exact⟨k,e,Mm.bor k e he hk,hid⟩
  .exact Mm.dirty i h bi
 wr i hi:=by
  rcases hw i hi with rfl|h
  .refine⟨by rw[hn];exact Mm.lt k e i he hid,λbi=>?_⟩
   have hk:k<100:=by
    rcases b7 k 100 with h|h
    .exact h
    .have:=Mm.loc k e i he h hid;omega
   exact⟨k,e,Mm.bor k e he hk,hid⟩
  .rw[hn];exact Mm.wr i h
def MR.upd(Mm:MR U q c0 c M p){k:Nat}{b b':BC U.D}{e:Ce}{id:Nat}{o:kL}(hb:dL M.bx k=aa b)(he:c k=aa e)(hid:e.id=aa id)(hr:Di U c (p.upd id o) e b'):
    MR U q c0 c ⟨qU M.bx k b',k::M.wr⟩ (p.upd id o)/\(WR U c M p->WR U c ⟨qU M.bx k b',k::M.wr⟩ (p.upd id o)):=by
 have bi:=Mm.lt k e id he hid;refine⟨Mm.write hb he hid rfl (λj hj=>by rw[lF bi,bH hj]) (λj=>mQ) (λj hj=>mQ.1 hj) hr,λhw i hi k' e' h1 h2=>?_⟩
 show(am k k'||eA k' M.wr)=ae;rcases mQ.1 hi with rfl|h
 .rw[Mm.inj k k' e e' i he h1 hid h2,Nat.beq_refl,Bool.true_or]
 .rw[hw i h k' e' h1 h2,Bool.or_true]
def HH: ∀{m:List (Nat×BC U.D)} {k:Nat} {b:BC U.D},dL m k=aa b->qU m k b=m
 |[],k,b,h=>rfl
 |(a,x)::m,k,b,h=>by
  simp only[dL]at h;unfold qU;cases hb:am a k with
  |true=>
   rw[hb]at h;simp only[aI,aA]at h;subst h;rw[<-aE hb];rfl
  |false=>rw[hb]at h;simp only[aJ]at h⊢;rw[HH h]
def Re{p:PSt}{id:Nat}{o:kL}(h:id<p.next)(k:Nat):(p.mark id o).get k=if k=id then aa o else p.get k:=by
 have:=lF (o:=o) h k;simp only[PSt.get,PSt.upd,PSt.mark]at this⊢;exact this
def MR.mark(Mm:MR U q c0 c M p){k:Nat}{b b':BC U.D}{e:Ce}{id:Nat}{o:kL}(hb:dL M.bx k=aa b)(he:c k=aa e)(hid:e.id=aa id)(hr:Di U c (p.mark id o) e b'):
    MR U q c0 c ⟨qU M.bx k b',M.wr⟩ (p.mark id o)/\(WR U c M p->WR U c ⟨qU M.bx k b',M.wr⟩ (p.mark id o)):=by
 have bi:=Mm.lt k e id he hid;exact⟨Mm.write hb he hid rfl (λj hj=>by rw[Re bi,bH hj]) (λj=>mQ) (λj hj=> .inr hj) hr,λhw=>hw⟩
def vL{o:Nat}: ∀{rs:jC},EC o rs=ae↔∃s,(o,s)∈rs
 |[]=>by simp[EC]
 |x::rs=>by
  obtain⟨a,b⟩:=x;simp only[EC,b9,dN,aD,vL (rs:=rs),List.mem_cons,aB];constructor
  .rintro(rfl|⟨s,h⟩)
   .exact⟨b,.inl ⟨rfl,rfl⟩⟩
   .exact⟨s,.inr h⟩
  .rintro⟨s,⟨rfl,_⟩|h⟩
   .exact .inl rfl
   .exact .inr ⟨s,h⟩
def aAA{o n:Nat}: ∀{rs:jC} {x:Nat×Bool},x∈a6c o n rs->x∈rs/\¬(o<=x.1/\x.1<o+n)
 |[],x,h=>by cases h
 |y::rs,x,h=>by
  unfold a6c at h;cases hb:an o y.1&&d8 y.1 (o+n)with
  |true=>
   rw[hb]at h;obtain⟨h1,h2⟩:=aAA h;exact⟨aG _ h1,h2⟩
  |false=>
   rw[hb]at h;rcases List.mem_cons.1 h with rfl|h
   .refine⟨aH ..,λ⟨h1,h2⟩=>?_⟩
    have:(an o x.1&&d8 x.1 (o+n))=ae:=by
     simp only[aC,d7,gZ,aD];exact⟨h1,h2⟩
    rw[this]at hb;cases hb
   .obtain⟨h1,h2⟩:=aAA h;exact⟨aG _ h1,h2⟩
def uU(P:aw)(take:Bool)(p:PSt)(t:av)(a:PV):Option (PV×Bool×PSt):=
 match jZ P p t a with
 |some v=>bif take&&C9 v then aa (v,(fX p a).2,(fX p a).1)else aa (v,ah,p)
 |none=>ad
variable(hU:hQ U)(hT:rQ P U T)
include hU
def SR.self(t:Ty)(x:Den U.D t):SR t x (dK U t x).cells:=⟨Lg (tZ hU t x),DG (tZ hU t x)⟩
def Qp{t:Ty}{l:List (Den U.D t)}{i:Nat}{y:Den U.D t}(h:l[i]?=aa y):(((l.map (dK U t)).flatMap PV.cells).drop (i*dJ U t)).take (dJ U t)=(dK U t y).cells:=by
 induction l generalizing i with
 |nil=>simp at h
 |cons x l ih=>
  cases i with
  |zero=>
   simp only[aU,aA]at h;subst h;rw[Nat.zero_mul,List.drop_zero,aO,aN];exact List.take_left' (iT hU _ _)
  |succ i=>
   rw[aT]at h;rw[aO,aN,<-ih h,Nat.succ_mul,Nat.add_comm];congr 1;rw[<-List.drop_drop];congr 1;exact List.drop_left' (iT hU _ _)
include hT
def a3H{take:Bool}{t:av}{a:SV U.D}{p0:PV}{K:X U->TM U.D->Option W}(h:a8Q U T.T take M t a K=aa r)(ra:uO U c a p0)(Mm:MR U q c0 c M p):
    ∃x M' v own p',K x M'=aa r/\uU P take p t p0=aa (v,own,p')/\qB U c x (v,own)/\MR U q c0 c M' p'/\(WR U c M p->WR U c M' p'):=by
 unfold a8Q at h;split at h
 ·
  rename_i v;obtain⟨es,i,off,e,rfl,he,hcs⟩:=ra;split at h
  .rename_i ty fu;cases hb:v.t.beq ty with
   |false=>rw[hb]at h;cases h
   |true=>
    rw[hb]at h;obtain⟨vt,vx⟩:=v;have:=Ty.beq_eq hb;subst this;obtain⟨w,h1,h2,_⟩:=AM hU hT fu (cs:=e.cells) (off:=off) (x:=vx) (by rw[hcs];exact SR.self hU _ _)
    have hl:jZ P p t (.pin es i off)=aa w:=by simp only[jZ,he];exact h1
    refine⟨_,_,w,ah,p,h,?_,⟨h2,bX _ _⟩,Mm,λhw=>hw⟩
    simp only[uU,hl,fX];cases take&&C9 w<;>rfl
  .cases h
 ·
  rename_i k off path;obtain⟨e,id,he,hid,rfl⟩:=ra;split at h
  .rename_i cont rs hf;obtain⟨e',gb,bu,cs,fb,bc,hcs,kx⟩:=Mm.bx k _ hf;rw[he]at gb;cases gb;rw[hid]at fb;cases fb;split at h
   ·
    rename_i cv;split at h
    .rename_i ty w o fu hp;cases hb:w.t.beq ty&&am o off with
     |false=>rw[hb]at h;cases h
     |true=>
      rw[hb]at h;simp only[aI]at h;simp only[aC,dN,aD]at hb;obtain⟨lj,rfl⟩:=hb;obtain⟨wt,wx⟩:=w;have:=Ty.beq_eq lj;subst this;obtain⟨h1,h2,h3⟩:=hcs;have hsr:SR cv.t cv.x (cs.map (·.1)):=⟨h1,h2⟩;obtain⟨g1,g2⟩:=xH hU hp hsr;obtain⟨v,k1,k2,k3,k4⟩:=AM hU hT fu g1;have hl:jZ P p t (.ptr id o)=aa v:=by simp only[jZ,bc];exact k1
      have bi:=Mm.lt k e id he hid;have rg: ∀gf,(∀i s,(i,s)∈gf->(i,s)∈rs/\i≠o)->∀x b,cs[o]?=aa (x,b)->Di U c (p.mark id (.box (cs.set o (x,ah)))) e (.bx (.val cv) gf):=by
       intro gf dc x b hx;have qy:o<cs.length:=by
        rcases b7 o cs.length with h|h
        .exact h
        .rw[d9 h]at hx;cases hx
       have ma:(cs.set o (x,ah)).map (·.1)=cs.map (·.1):=by
        rw[List.map_set];apply List.ext_getElem?;intro j;rw[List.getElem?_set];by_cases hj:o=j
        .subst hj;rw[List.length_map,bI rfl,bI qy,List.getElem?_map,hx];rfl
        .rw[bH hj]
       refine⟨id,_,hid,by rw[Re bi,bI rfl],⟨by rw[ma];exact h1,by rw[ma];exact h2,λy hy=>?_⟩,λi s hi=>?_⟩
       .rcases List.mem_or_eq_of_mem_set hy with hy|rfl
        .exact h3 y hy
        .exact h3 (x,b) (ef hx)
       .obtain⟨m1,m2⟩:=dc i s hi;obtain⟨x',kv,gy⟩:=kx i s m1;exact⟨x',by rw[List.getElem?_set,bH (λe=>m2 e.symm)];exact kv,gy⟩
      have hisSl:CI wt=ae->C9 v=ae:=by
       intro hs;cases wt with
       |sl et=>
        have hv:v≠ .nil:=by
         intro hv;have hc:v.cells=[v]:=by rw[hv];rfl
         rw[k3]at hc;have hm:v∈cs.map (·.1):=List.mem_of_mem_drop (List.mem_of_mem_take (by rw[hc];exact List.mem_singleton.2 rfl))
         obtain⟨y,hy,e1⟩:=List.mem_map.1 hm;exact h3 y hy (by rw[e1];exact hv)
        obtain⟨_,cw⟩:=tK k2;rcases cw with⟨_,h4|h4|h4⟩|⟨_,h4⟩
        .rw[h4];rfl
        .exact(hv h4).elim
        .rw[h4];rfl
        .rw[h4];rfl
       |_=>cases hs
      have hslNo:CI wt=ah->C9 v=ah:=by
       intro hs;cases wt with
       |sl et=>cases hs
       |int k=>rw[iP k2];rfl
       |bool=>rw[of_bool k2];rfl
       |str=>rw[Ab k2];rfl
       |rc n=>obtain⟨cx,hc,_⟩:=QS k2;rw[hc];rfl
      cases hc:take&&CI wt&&EC o rs with
      |true=>
       rw[hc]at h;simp only[aC]at hc;obtain⟨⟨rfl,cw⟩,hmr⟩:=hc;obtain⟨s,hs⟩:=vL.1 hmr;obtain⟨x,hx,_⟩:=kx o s hs;have hvx:v=x:=by
        have hwt1:lV wt=ah:=by cases wt<;>first|rfl|cases cw
        have hc1:v.cells=[v]:=pD λds e=>by rw[e,hwt1]at k4;cases k4
        have hc2:(cs.map (·.1))[o]?=aa x:=by rw[List.getElem?_map,hx];rfl
        have hc3:((cs.map (·.1)).drop o).take 1=[v]:=by
         have:dJ U wt=1:=by cases wt<;>first|rfl|cases hwt1
         rw[this]at k3;rw[<-k3,hc1]
        have hc4:=congrArg (·[0]?) hc3;simp only[List.getElem?_take,List.getElem?_drop,aU]at hc4;rw[bI (by omega),Nat.add_zero,hc2]at hc4
        exact(Option.some.inj hc4).symm
       have qa:fX p (.ptr id o)=(p.mark id (.box (cs.set o (x,ah))),ae):=by simp only[fX,bc,hx]
       obtain⟨m1,m2⟩:=Mm.mark hf he hid (rg (a6c o 1 rs) (λi s hi=>by
        obtain⟨y1,y2⟩:=aAA hi;exact⟨y1,λe=>y2 ⟨by simp only;omega,by simp only;omega⟩⟩) x ae hx)
       refine⟨_,_,v,ae,_,h,?_,⟨k2,?_⟩,m1,m2⟩
       .simp only[uU,hl,hisSl cw,Bool.and_self,aI,qa]
       .intro i s' hi;obtain⟨y1,y2⟩:=KW hi;obtain⟨x',kv,gy⟩:=kx _ _ y1;have hi0:i=0:=by simp only at y2;omega
        subst hi0;simp only[Nat.zero_add]at kv;rw[hx]at kv;cases kv;refine .inr ⟨rfl,?_,rfl,λe1=>by rw[hvx];exact gy e1⟩
        rw[k4];cases wt<;>first|rfl|cases cw
      |false=>
       rw[hc]at h;simp only[aJ]at h;cases kc:take&&C9 v with
       |false=>
        exact⟨_,_,v,ah,p,h,by simp only[uU,hl,kc,aJ],⟨k2,bX _ _⟩,Mm,λhw=>hw⟩
       |true=>
        have hred:uU P take p t (.ptr id o)=aa (v,(fX p (.ptr id o)).2,(fX p (.ptr id o)).1):=by simp only[uU,hl,kc,aI]
        simp only[aC]at kc;have cw:CI wt=ae:=by
         cases hh:CI wt with
         |true=>rfl
         |false=>rw[hslNo hh]at kc;cases kc.2
        have hnm:EC o rs=ah:=by rw[kc.1,cw]at hc;simpa using hc
        refine⟨_,M,v,(fX p (.ptr id o)).2,(fX p (.ptr id o)).1,h,hred,⟨k2,bX _ _⟩,?_⟩;cases hx:cs[o]? with
        |none=>rw[show fX p (.ptr id o)=(p,ah) by simp only[fX,bc,hx]];exact⟨Mm,λhw=>hw⟩
        |some y=>
         obtain⟨x,b⟩:=y;cases b with
         |false=>rw[show fX p (.ptr id o)=(p,ah) by simp only[fX,bc,hx]];exact⟨Mm,λhw=>hw⟩
         |true=>
          rw[show fX p (.ptr id o)=(p.mark id (.box (cs.set o (x,ah))),ae) by simp only[fX,bc,hx]]
          have:=Mm.mark hf he hid (rg rs (λi s hi=>⟨hi,λe=>by
           rw[e]at hi;rw[vL.2 ⟨s,hi⟩]at hnm;cases hnm⟩) x ae hx)
          rwa [HH hf]at this
    .cases h
   ·
    rename_i f caps;obtain⟨pv,b,rfl,hpv⟩:=hcs;split at h
    .cases hb:T.T.fn t&&am off 0 with
     |false=>rw[hb]at h;cases h
     |true=>
      rw[hb]at h;simp only[aC,dN,aD]at hb;obtain⟨fy,rfl⟩:=hb;obtain⟨ha,_,_⟩:=hT.fn t fy;have hl:jZ P p t (.ptr id 0)=aa pv:=by simp only[jZ,bc,rA,ha];rfl
      have hpv2:=hpv;obtain⟨ps,e1,_⟩:=hpv2;refine⟨_,_,pv,ah,p,h,?_,⟨hpv,bX _ _⟩,Mm,λhw=>hw⟩
      have:C9 pv=ah:=by rw[e1];rfl
      simp only[uU,hl,this,Bool.and_false,aJ]
    .cases h
   .cases h
  .cases h
 ·
  rename_i k i off path;obtain⟨e,id,he,hid,hi0,hi1,rfl⟩:=ra;split at h
  .rename_i et l hf;obtain⟨e',gb,hn,hz,bh⟩:=Mm.bx k _ hf;rw[he]at gb;cases gb;rcases bh with⟨dj,_⟩|⟨bu,fb,bc⟩
   .rw[hid]at dj;cases dj
   .rw[hid]at fb;cases fb;obtain⟨y,hy,h⟩:=oK h;obtain⟨_,hy1,_⟩:=A6 hy;split at h
    .rename_i ty w o fu hp;cases hb:w.t.beq ty&&am o off with
     |false=>rw[hb]at h;cases h
     |true=>
      rw[hb]at h;simp only[aI]at h;simp only[aC,dN,aD]at hb;obtain⟨lj,rfl⟩:=hb;obtain⟨wt,wx⟩:=w;have:=Ty.beq_eq lj;subst this;obtain⟨g1,g2⟩:=xH hU hp (SR.self hU et y);have so:=Qp hU hy1;rw[<-so,List.drop_take,List.drop_drop,List.take_take,Nat.min_eq_left (by simp only at g2⊢;omega)]at g1
      obtain⟨v,k1,k2,k3,k4⟩:=AM hU hT fu g1;have hl:jZ P p t (.ptr id (i.toNat*e.z+o))=aa v:=by simp only[jZ,bc,hz];exact k1
      refine⟨_,_,v,ah,p,h,?_,⟨k2,bX _ _⟩,Mm,λhw=>hw⟩
      have qa:fX p (.ptr id (i.toNat*e.z+o))=(p,ah):=by simp only[fX,bc]
      simp only[uU,hl,qa];cases take&&C9 v<;>rfl
    .cases h
  .cases h
 .cases h
end
end Go.TV
namespace Go.TV
open Go.AI Go.PI
section
variable{P:aw}{U:hJ}{T:TP U.D}{c c0:Cx}{W:Type}{r:W}{q p:PSt}{M:TM U.D}
def aEd{N:Type}(l s:List N)(o o' n m:Nat)(h1:o'+m<=n)(h2:o+n<=l.length):
    l.take (o+o')++s++l.drop (o+o'+m)=l.take o++(((l.drop o).take n).take o'++s++((l.drop o).take n).drop (o'+m))++l.drop (o+n):=by
 have e1:l.take (o+o')=l.take o++((l.drop o).take n).take o':=by
  rw[List.take_add,List.take_take,Nat.min_eq_left (by omega)]
 have e2:l.drop (o+o'+m)=((l.drop o).take n).drop (o'+m)++l.drop (o+n):=by
  rw[List.drop_take,List.drop_drop];have:l.drop (o+n)=(l.drop (o+(o'+m))).drop (n-(o'+m)):=by rw[List.drop_drop];congr 1;omega
  rw[this,List.take_append_drop,Nat.add_assoc]
 rw[e1,e2];simp only[aQ]
def SC{ts:List Ty}{cs s:List PV}{o n:Nat}(h:P2 U ts cs)(hs:P2 U ((ts.drop o).take n) s)(hl:s.length=n)(hle:o+n<=cs.length):P2 U ts (cs.take o++s++cs.drop (o+n)):=λj z hj=>by
 have bi:(cs.take o).length=o:=by rw[List.length_take];omega
 rw[aQ]at hj;by_cases h1:j<o
 .rw[List.getElem?_append_left (by omega),List.getElem?_take,bI h1]at hj
  exact h j z hj
 .rw[eo (by omega),bi]at hj
  by_cases h2:j-o<n
  .rw[List.getElem?_append_left (by omega)]at hj
   obtain⟨e,g1,g2⟩:=hs _ z hj;rw[List.getElem?_take,bI h2,List.getElem?_drop]at g1;exact⟨e,by rw[<-g1];congr 1;omega,g2⟩
  .rw[eo (by omega),List.getElem?_drop]at hj
   have:o+n+(j-o-s.length)=j:=by omega
   rw[this]at hj;exact h j z hj
variable(hU:hQ U)(hT:rQ P U T)
include hU
def UM{l:List (V U)}{i:Nat}{v w:V U}(h:l[i]?=aa v)(ht:w.t=v.t):
    vX (l.set i w)=(vX l).take (eQ U ((l.map λv=>v.t).take i))++(dK U w.t w.x).cells++(vX l).drop (eQ U ((l.map λv=>v.t).take i)+dJ U v.t):=by
 induction l generalizing i with
 |nil=>simp at h
 |cons x l ih=>
  cases i with
  |zero=>
   simp only[aU,aA]at h;subst h;rw[List.set_cons_zero,jJ,jJ,List.take_zero,eQ,List.take_zero,aW,Nat.zero_add,List.drop_left' (iT hU _ _)]
  |succ i=>
   rw[aT]at h;rw[List.set_cons_succ,jJ,jJ,ih h,aO,List.take_succ_cons,eQ,Nat.add_assoc];have hl:=iT hU x.t x.x;rw[<-hl,List.take_length_add_append,List.drop_length_add_append];simp only[aQ]
def ZJ{path:List Nat}: ∀{v w c' old:V U} {o:Nat} {cs s:List PV},aCj U path v w=aa c'->A7 U path v=aa (old,o)->SR v.t v.x cs->SR w.t w.x s->
    c'.t=v.t/\w.t=old.t/\SR c'.t c'.x (cs.take o++s++cs.drop (o+dJ U w.t)):=by
 induction path with
 |nil=>
  intro v w c' old o cs s h hp r rs;simp only[A7,aA,aB]at hp;obtain⟨rfl,rfl⟩:=hp;unfold aCj at h;cases hb:v.t.beq w.t with
  |false=>rw[hb]at h;cases h
  |true=>
   rw[hb]at h;simp only[aI,aA]at h;subst h;have:=Ty.beq_eq hb;refine⟨this.symm,this.symm,?_⟩;rw[List.take_zero,aW,Nat.zero_add,List.drop_eq_nil_of_le (by rw[r.len hU,this];exact aS _),bA]
   exact rs
 |cons i path ih=>
  intro v w c' old o cs s h hp r rs;obtain⟨vt,vx⟩:=v;unfold aCj at h;split at h
  .rename_i n x heq;cases heq;split at h
   .rename_i y hy;split at h
    .rename_i y' mq;split at h
     .rename_i z hz;cases h;unfold A7 at hp;rw[show Li U ⟨.rc n,x⟩ i=aa y from hy]at hp
      simp only at hp;split at hp
      .rename_i r' ca;simp only[aA,aB]at hp;obtain⟨rfl,rfl⟩:=hp;have de:A7 U path y=aa (r'.1,r'.2):=by rw[ca]
       have hpart:=r.fld hU hy;obtain⟨g1,g2,g3⟩:=ih mq de hpart rs;obtain⟨g4,g5⟩:=xH hU de hpart;have hun:=hU.un_of n _ z hz;have fc:cs.length=U.sz n:=r.len hU;have di:=hpart.len hU;rw[List.length_take,List.length_drop,fc]at di;have hsp:=pZ hU y.t;have hle:kF U n i+dJ U y.t<=cs.length:=by omega
       refine⟨rfl,g2,?_⟩;show SR (.rc n) z (cs.take (kF U n i+r'.2)++s++cs.drop (kF U n i+r'.2+dJ U w.t));rw[aEd cs s (kF U n i) r'.2 (dJ U y.t) (dJ U w.t) (by rw[g2];exact g5) hle]
       refine⟨?_,?_⟩
       .rw[rT,rT,DH,DI,r.wk,g3.wk];show _=U.en n z;rw[hU.en n z,hun];have:=UM hU hy g1;rw[hU.ty n x]at this;show _=vX _;rw[this];show(U.en n x).take _++_++(U.en n x).drop _=_;rw[hU.en n x];rfl
       .refine SC r.z ?_ (by rw[g3.len hU,g1]) hle
        have h5:(((jH U (.rc n)).drop (kF U n i)).take (dJ U y.t))=jH U y.t:=E7 hU (E6 hU hy);have h6:jH U y'.t=jH U y.t:=by rw[g1]
        rw[h5,<-h6];exact g3.z
      .cases hp
     .cases h
    .cases h
   .cases h
  .cases h
omit hU in
def a57(x:PV)(b:Bool):(fl x b).1=match x with| .nil=> .emp|x=>x:=by cases x<;>rfl
omit hU in
def bF8(x:PV)(b:Bool):wk (fl x b).1=wk x:=by cases x<;>rfl
omit hU in
def Ah(x:PV)(b:Bool):(fl x b).1≠ .nil:=by cases x<;>simp[fl]
omit hU in
def SR.fl{t:Ty}{x:Den U.D t}{cs:List PV}(h:SR t x cs)(b:Bool):SR t x ((cs.map λc=>fl c b).map (·.1)):=by
 refine⟨?_,λj z hj=>?_⟩
 .rw[<-h.wk,mL,mL,List.map_map,List.map_map];exact List.map_congr_left λc _=>bF8 c b
 .rw[List.map_map,List.getElem?_map,aF]at hj;obtain⟨y,hy,e⟩:=hj;have mq:y= .sl z []:=by
   have e:(PI.fl y b).1= .sl z []:=e;rw[a57]at e;split at e
   .cases e
   .exact e
  exact h.z j z (by rw[hy,mq])
omit hU in
def aEB{rs:jC}{t:Ty}{x:Den U.D t}{pv:PV}{ow:Bool}(h:aDA rs pv ow)(hv:VR U t x pv):bIm rs (pv.cells.map λc=>fl c ow):=λo s hi=>by
 rcases h o s hi with⟨h1,h2⟩|⟨rfl,h1,h2,h3⟩
 .exact⟨.emp,by rw[List.getElem?_map,h2];rfl,λ_=>rfl⟩
 .have hc:pv.cells=[pv]:=pD λds e=>by rw[e]at h1;cases h1
  rw[hc];cases hn:kN pv with
  |true=>
   have:pv= .nil:=by cases pv<;>first|rfl|cases hn
   subst this;exact⟨.emp,rfl,λ_=>rfl⟩
  |false=>
   rw[hn,Bool.or_false]at h2;subst h2;refine⟨pv,?_,h3⟩;have:fl pv ae=(pv,ae):=by cases pv<;>first|rfl|cases hn
   simp[this]
def aXl(hT:rQ P U T){t:av}{a:SV U.D}{x:X U}{p0 p1:PV}{ow:Bool}{K:TM U.D->Option W}(h:stT U T.T M t a x K=aa r)(ra:uO U c a p0)(rx:qB U c x (p1,ow))(Mm:MR U q c0 c M p):
    ∃M' p',K M'=aa r/\oR P p t p0 p1 ow=aa p'/\MR U q c0 c M' p'/\(WR U c M p->WR U c M' p'):=by
 unfold stT at h;split at h
 ·
  rename_i k off path;obtain⟨e,id,he,hid,rfl⟩:=ra;have bi:=Mm.lt k e id he hid;split at h
  .rename_i cont rs hf;obtain⟨e',gb,bu,cs,fb,bc,hcs,kx⟩:=Mm.bx k _ hf;rw[he]at gb;cases gb;rw[hid]at fb;cases fb;split at h
   .rename_i cv;split at h
    .rename_i ty w o fu hp;cases hb:w.t.beq ty&&am o off with
     |false=>rw[hb]at h;cases h
     |true=>
      rw[hb]at h;simp only[aI]at h;simp only[aC,dN,aD]at hb;obtain⟨lj,rfl⟩:=hb;have:=Ty.beq_eq lj;split at h
      .rename_i v hv;split at h
       .rename_i c' mi;obtain⟨gw,kw⟩:=lK hU hv rx.1;obtain⟨h1,h2,h3⟩:=hcs;have hsr:SR cv.t cv.x (cs.map (·.1)):=⟨h1,h2⟩;have hs:=VR.sr kw;obtain⟨g1,g2,g3⟩:=ZJ hU mi hp hsr (hs.fl ow);obtain⟨g4,g5⟩:=xH hU hp hsr;have fc:cs.length=dJ U cv.t:=by have:=hsr.len hU;rwa [List.length_map]at this
        have co:iH P t=aa (dJ U ty):=hT.sz t ty fu;have hn:p1.cells.length=dJ U ty:=by rw[hs.len hU,gw]
        have hle:o+dJ U ty<=cs.length:=by rw[fc,<-this];exact g5
        have c1:(am p1.cells.length (dJ U ty)&&an (o+dJ U ty) cs.length&&p1.cells.all PV.one)=ae:=by
         rw[hs.one hU,hn,Nat.beq_refl,Bool.true_and,bE,d7];exact hle
        refine⟨_,p.upd id (.box (cs.take o++p1.cells.map (λc=>fl c ow)++cs.drop (o+dJ U ty))),h,by simp only[oR,bc,co,c1,aI],Mm.upd hf he hid ?_⟩
        refine⟨id,_,hid,by rw[lF bi,bI rfl],⟨?_,?_,?_⟩,?_⟩
        .rw[<-g3.wk,gw];simp only[List.map_append,List.map_take,List.map_drop]
        .rw[gw]at g3;have:=g3.z;simp only[List.map_append,List.map_take,List.map_drop];exact this
        .intro y hy;rcases List.mem_append.1 hy with hy|hy
         .rcases List.mem_append.1 hy with hy|hy
          .exact h3 y (List.mem_of_mem_take hy)
          .obtain⟨z,_,rfl⟩:=List.mem_map.1 hy;exact Ah z ow
         .exact h3 y (List.mem_of_mem_drop hy)
        .intro i s hi;have htl:(cs.take o).length=o:=by rw[List.length_take];omega
         rcases List.mem_append.1 hi with hi|hi
         .obtain⟨j,e1,e2⟩:=aGI hi;simp only at e1;subst e1;obtain⟨y,hy,hys⟩:=aEB rx.2 kw j s e2;refine⟨y,?_,hys⟩;have hj:j<p1.cells.length:=by
           rcases b7 j p1.cells.length with h|h
           .exact h
           .rw[d9 (by rw[List.length_map];exact h)]at hy;cases hy
          rw[aQ,eo (by omega),htl,Nat.add_sub_cancel,List.getElem?_append_left (by rw[List.length_map];exact hj)]
          exact hy
         .obtain⟨e1,e2⟩:=aAA hi;obtain⟨y,hy,hys⟩:=kx i s e1;refine⟨y,?_,hys⟩;simp only at e2;rw[aQ];by_cases h4:i<o
          .rw[List.getElem?_append_left (by omega),List.getElem?_take,bI h4];exact hy
          .have h5:o+dJ U ty<=i:=by omega
           rw[eo (by omega),htl,eo (by rw[List.length_map];omega),List.length_map,hn,List.getElem?_drop]
           have:o+dJ U ty+(i-o-dJ U ty)=i:=by omega
           rw[this];exact hy
       .cases h
      .cases h
    .cases h
   ·
    split at h
    .rename_i f caps hx;cases hb:T.T.fn t&&am off 0&&stT.isF U cont with
     |false=>rw[hb]at h;cases h
     |true=>
      rw[hb]at h;simp only[aI]at h;simp only[aC,dN,aD]at hb;obtain⟨⟨fy,rfl⟩,hF⟩:=hb;obtain⟨_,co,_⟩:=hT.fn t fy;have hx1:uO U c (.cl f caps) p1:=by have:=rx.1;rw[hx]at this;exact this
      obtain⟨ps,ke,fk⟩:=hx1;have hcs1: ∃y,cs=[y]:=by
       cases cont with
       |cl f' cm=>obtain⟨pv,b,e1,_⟩:=hcs;exact⟨_,e1⟩
       |nf=>obtain⟨b,e1⟩:=hcs;exact⟨_,e1⟩
       |_=>cases hF
      obtain⟨y,rfl⟩:=hcs1;subst ke;refine⟨_,p.upd id (.box [(.fn f [] ps,ow)]),h,?_,Mm.upd hf he hid ?_⟩
      .simp only[oR,bc,co];rfl
      .exact⟨id,_,hid,by rw[lF bi,bI rfl],⟨_,_,rfl,ps,rfl,fk⟩,λo s hi=>by cases hi⟩
    .cases h
  .cases h
 ·
  rename_i k i off path;obtain⟨e,id,he,hid,hi0,hi1,rfl⟩:=ra;have bi:=Mm.lt k e id he hid;split at h
  .rename_i et l hf;obtain⟨e',gb,hn,hz,bh⟩:=Mm.bx k _ hf;rw[he]at gb;cases gb;rcases bh with⟨dj,_⟩|⟨bu,fb,bc⟩
   .rw[hid]at dj;cases dj
   .rw[hid]at fb;cases fb;obtain⟨y,hy,h8⟩:=oK h;clear h;have h:=h8;clear h8;obtain⟨_,hy1,hylt⟩:=A6 hy;split at h
    .rename_i ty w o fu hp;cases hb:w.t.beq ty&&am o off with
     |false=>rw[hb]at h;cases h
     |true=>
      rw[hb]at h;simp only[aI]at h;simp only[aC,dN,aD]at hb;obtain⟨lj,rfl⟩:=hb;have:=Ty.beq_eq lj;split at h
      .rename_i v hv;split at h
       .rename_i c' mi;split at h
        .rename_i z jx;obtain⟨gw,kw⟩:=lK hU hv rx.1;have hs:=VR.sr kw;have hsr:=SR.self hU et y;have hs2:SR v.t v.x (dK U v.t v.x).cells:=SR.self hU v.t v.x;obtain⟨g1,g2,g3⟩:=ZJ hU mi hp hsr hs2;obtain⟨g4,g5⟩:=xH hU hp hsr;have ec:=pB jx;have co:iH P t=aa (dJ U ty):=hT.sz t ty fu;have hpn:p1.cells.length=dJ U ty:=by rw[hs.len hU,gw]
         have ki:((l.map (dK U et)).flatMap PV.cells).length=l.length*dJ U et:=by
          have:=hP (z:=dJ U et) (es:=l.map (dK U et)) (λe' gb=>by obtain⟨a,_,rfl⟩:=List.mem_map.1 gb;exact iT hU _ _)
          rw[List.length_map]at this;exact this
         have hmul:i.toNat*dJ U et+dJ U et<=l.length*dJ U et:=by rw[<-Nat.succ_mul];exact Nat.mul_le_mul_right _ hylt
         have hoz:o+dJ U ty<=dJ U et:=by rw[<-this];exact g5
         have c1:(am p1.cells.length (dJ U ty)&&an (i.toNat*e.z+o+dJ U ty) ((l.map (dK U et)).flatMap PV.cells).length&&p1.cells.all PV.one)=ae:=by
          rw[hs.one hU,hpn,Nat.beq_refl,Bool.true_and,bE,d7,ki,hz];omega
         refine⟨_,p.upd id (.row e.z (lV et) (((l.map (dK U et)).flatMap PV.cells).take (i.toNat*e.z+o)++PI.wks p1.cells++((l.map (dK U et)).flatMap PV.cells).drop (i.toNat*e.z+o+dJ U ty))),h,by simp only[oR,bc,co,c1,aI],Mm.upd hf he hid ?_⟩
         refine⟨by rw[List.length_set];exact hn,hz,.inr ⟨id,hid,?_⟩⟩
         rw[lF bi,bI rfl];congr 2;have hz2:(dK U et z).cells=(dK U et y).cells.take o++PI.wks p1.cells++(dK U et y).cells.drop (o+dJ U ty):=by
          have h6:=g3.wk;have e6:(⟨c'.t,c'.x⟩:TV U.D)=⟨et,z⟩:=ec;have h7:(dK U (⟨c'.t,c'.x⟩:TV U.D).t (⟨c'.t,c'.x⟩:TV U.D).x).cells=(dK U et z).cells:=by rw[e6]
          rw[<-h7,<-h6];simp only[rT,DH,DI,gw];rw[Lg (tZ hU et y),hs.wk];congr 2;exact Lg (tZ hU v.t v.x)
         have hfs:((l.set i.toNat z).map (dK U et)).flatMap PV.cells=BK (eY (l.map (dK U et))) (i.toNat*dJ U et) (dK U et z).cells:=by
          rw[List.map_set];exact Rj (λe' gb=>by obtain⟨a,_,rfl⟩:=List.mem_map.1 gb;exact iT hU _ _) (by rw[List.length_map];exact hylt) (iT hU _ _)
         rw[hfs,aAd _ _ _ (by rw[iT hU];show _<=((l.map (dK U et)).flatMap PV.cells).length;rw[ki];exact hmul),iT hU,hz2,hz]
         show((l.map (dK U et)).flatMap PV.cells).take (i.toNat*dJ U et+o)++_++((l.map (dK U et)).flatMap PV.cells).drop (i.toNat*dJ U et+o+dJ U ty)=_;rw[aEd _ _ (i.toNat*dJ U et) o (dJ U et) (dJ U ty) hoz (by rw[ki];exact hmul),Qp hU hy1]
         rfl
        .cases h
       .cases h
      .cases h
    .cases h
  .cases h
 .cases h
end
end Go.TV
namespace Go.TV
open Go.AI Go.PI
section
variable{P:aw}{U:hJ}{T:TP U.D}{c c0:Cx}{W:Type}{r:W}{q p:PSt}{M:TM U.D}
def mU(c:Cx)(k:Nat)(e:Ce):Cx:=λj=>if j=k then aa e else c j
def kW{k:Nat}{e:Ce}(h:c k=ad):leC c (mU c k e):=λj e' hj=>by
 unfold mU;by_cases e1:j=k
 .subst e1;rw[h]at hj;cases hj
 .rw[bH e1];exact hj
def aAJ{p:PSt}{o:kL}{id:Nat}(h:id<p.next):(p.new o).get id=p.get id:=by
 rw[lG,bH (by omega)]
def MR.new(Mm:MR U q c0 c M p){k:Nat}(hk:100<=k)(hf:dL M.bx k=ad){o:kL}{b:BC U.D}{n z:Nat}(hr:Di U (mU c k ⟨aa p.next,n,z⟩) (p.new o) ⟨aa p.next,n,z⟩ b):
    MR U q c0 (mU c k ⟨aa p.next,n,z⟩) ⟨(k,b)::M.bx,M.wr⟩ (p.new o)/\(WR U c M p->WR U (mU c k ⟨aa p.next,n,z⟩) ⟨(k,b)::M.bx,M.wr⟩ (p.new o)):=by
 have hc:=Mm.dom k hf;refine⟨⟨λj h=>?_,λj y h=>?_,λj e id h1 h2=>?_,λj j' e e' id h1 h2 h3 h4=>?_,Nat.le_succ_of_le Mm.next,λj e h1 h2=>?_,λj e id h1 h2 h3=>?_,λid hi ho=>?_,Mm.dirty,λid hi=>?_⟩,λhw id hi j e h1 h2=>?_⟩
 .rw[gP]at h;by_cases e1:j=k
  .rw[bI e1]at h;cases h
  .rw[bH e1]at h;unfold mU;rw[bH e1];exact Mm.dom j h
 .rw[gP]at h;by_cases e1:j=k
  .rw[bI e1]at h;simp only[aA]at h;subst h;exact⟨_,by unfold mU;rw[bI e1],hr⟩
  .rw[bH e1]at h;obtain⟨e,g1,g2⟩:=Mm.bx j y h;exact⟨e,kW hc j e g1,yN (aIw (kW hc) g2) λid hid=>aAJ (Mm.lt j e id g1 hid)⟩
 .unfold mU at h1;by_cases e1:j=k
  .rw[bI e1]at h1;cases h1;cases h2;exact Nat.lt_succ_self _
  .rw[bH e1]at h1;exact Nat.lt_succ_of_lt (Mm.lt j e id h1 h2)
 .unfold mU at h1 h2;by_cases e1:j=k<;>by_cases e2:j'=k
  .rw[e1,e2]
  .rw[bI e1]at h1;rw[bH e2]at h2;cases h1;cases h3;have:=Mm.lt j' e' _ h2 h4;omega
  .rw[bH e1]at h1;rw[bI e2]at h2;cases h2;cases h4;have:=Mm.lt j e _ h1 h3;omega
  .rw[bH e1]at h1;rw[bH e2]at h2;exact Mm.inj j j' e e' id h1 h2 h3 h4
 .unfold mU at h1;by_cases e1:j=k
  .omega
  .rw[bH e1]at h1;exact Mm.bor j e h1 h2
 .unfold mU at h1;by_cases e1:j=k
  .rw[bI e1]at h1;cases h1;cases h3;exact Mm.next
  .rw[bH e1]at h1;exact Mm.loc j e id h1 h2 h3
 .rw[aAJ (Nat.lt_of_lt_of_le hi Mm.next)];exact Mm.old id hi ho
 .obtain⟨g1,g2⟩:=Mm.wr id hi;exact⟨Nat.lt_succ_of_lt g1,g2⟩
 .unfold mU at h1;by_cases e1:j=k
  .rw[bI e1]at h1;cases h1;cases h2;have:=(Mm.wr _ hi).1;omega
  .rw[bH e1]at h1;exact hw id hi j e h1 h2
def MR.new0(Mm:MR U q c0 c M p){k:Nat}(hk:100<=k)(hf:dL M.bx k=ad){b:BC U.D}{n z:Nat}(hr:Di U (mU c k ⟨ad,n,z⟩) p ⟨ad,n,z⟩ b):
    MR U q c0 (mU c k ⟨ad,n,z⟩) ⟨(k,b)::M.bx,M.wr⟩ p/\(WR U c M p->WR U (mU c k ⟨ad,n,z⟩) ⟨(k,b)::M.bx,M.wr⟩ p):=by
 have hc:=Mm.dom k hf;have un: ∀{j:Nat} {e:Ce} {id:Nat},mU c k ⟨ad,n,z⟩ j=aa e->e.id=aa id->c j=aa e:=by
  intro j e id h1 h2;unfold mU at h1;by_cases e1:j=k
  .rw[bI e1]at h1;cases h1;cases h2
  .rw[bH e1]at h1;exact h1
 refine⟨⟨λj h=>?_,λj y h=>?_,λj e id h1 h2=>Mm.lt j e id (un h1 h2) h2,λj j' e e' id h1 h2 h3 h4=>Mm.inj j j' e e' id (un h1 h3) (un h2 h4) h3 h4,Mm.next,λj e h1 h2=>?_,λj e id h1 h2 h3=>Mm.loc j e id (un h1 h3) h2 h3,Mm.old,Mm.dirty,Mm.wr⟩,λhw id hi j e h1 h2=>hw id hi j e (un h1 h2) h2⟩
 .rw[gP]at h;by_cases e1:j=k
  .rw[bI e1]at h;cases h
  .rw[bH e1]at h;unfold mU;rw[bH e1];exact Mm.dom j h
 .rw[gP]at h;by_cases e1:j=k
  .rw[bI e1]at h;simp only[aA]at h;subst h;exact⟨_,by unfold mU;rw[bI e1],hr⟩
  .rw[bH e1]at h;obtain⟨e,g1,g2⟩:=Mm.bx j y h;exact⟨e,kW hc j e g1,aIw (kW hc) g2⟩
 .unfold mU at h1;by_cases e1:j=k
  .omega
  .rw[bH e1]at h1;exact Mm.bor j e h1 h2
def MR.gone(Mm:MR U q c0 c M p){k:Nat}{b:BC U.D}(hb:dL M.bx k=aa b)(w:List Nat):MR U q c0 c ⟨qU M.bx k .gone,w⟩ p:=by
 refine⟨λj h=>?_,λj y h=>?_,Mm.lt,Mm.inj,Mm.next,Mm.bor,Mm.loc,Mm.old,Mm.dirty,Mm.wr⟩
 .simp only[kI]at h;by_cases hj:j=k
  .rw[bI hj,hb]at h;cases h
  .rw[bH hj]at h;exact Mm.dom j h
 .simp only[kI]at h;by_cases hj:j=k
  .subst hj;rw[bI rfl,hb]at h;simp only[aK,aA]at h;subst h;obtain⟨e,h1,_⟩:=Mm.bx j b hb;exact⟨e,h1,trivial⟩
  .rw[bH hj]at h;exact Mm.bx j y h
variable(hU:hQ U)(hT:rQ P U T)
def rH{k:Nat}{b:BC U.D}{K:TM U.D->Option W}(h:GU U M k b K=aa r):dL M.bx k=ad/\K ⟨(k,b)::M.bx,M.wr⟩=aa r:=by
 unfold GU at h;split at h
 .rename_i e;exact⟨e,h⟩
 .cases h
include hU hT
def a7r{S':PS}{o:Oper}{d:Option Tmp}{t:av}{K:X U->TM U.D->Option W}(ho:o.op= .alloc t)(h:a80 U T.T M d t K=aa r)(Mm:MR U q c0 c M p):
    ∃c' x M' v p',K x M'=aa r/\fB P p S' o=aa (v,ah,p')/\leC c c'/\qB U c' x (v,ah)/\MR U q c0 c' M' p'/\(WR U c M p->WR U c' M' p'):=by
 unfold a80 at h;split at h
 .rename_i d;split at h
  .rename_i ty fu;obtain⟨hf,hk⟩:=rH h;have hz:=hT.zc t ty fu;have hc:=Mm.dom _ hf;have hsr:=SB hU ty;obtain⟨g1,g2⟩:=Mm.new (o:= .box ((P1 U ty).map λc=>fl c ah)) (n:=0) (z:=0) (b:= .bx (.val ⟨ty,pN U ty⟩) (AS U ty)) (Nat.le_add_right 100 d) hf ⟨p.next,_,rfl,by rw[lG,bI rfl],⟨(hsr.fl ah).wk,(hsr.fl ah).z,λy hy=>by
          obtain⟨z,_,rfl⟩:=List.mem_map.1 hy;exact Ah z ah⟩,λi s hi=>⟨.emp,by rw[List.getElem?_map,P0 hU ty i s hi];rfl,λ_=>rfl⟩⟩
   exact⟨_,_,_,.ptr p.next 0,_,hk,by simp only[fB,ho,hz],kW hc,⟨⟨_,_,by unfold mU;rw[bI rfl],rfl,rfl⟩,bX _ _⟩,g1,g2⟩
  .cases fy:T.T.fn t with
   |false=>rw[fy]at h;cases h
   |true=>
    rw[fy]at h;obtain⟨hf,hk⟩:=rH h;obtain⟨_,_,hz⟩:=hT.fn t fy;have hc:=Mm.dom _ hf;obtain⟨g1,g2⟩:=Mm.new (o:= .box [(.v .nilFunc,ah)]) (n:=0) (z:=0) (b:= .bx .nf []) (Nat.le_add_right 100 d) hf ⟨p.next,_,rfl,by rw[lG,bI rfl],⟨_,rfl⟩,λi s hi=>by cases hi⟩
    exact⟨_,_,_,.ptr p.next 0,_,hk,by simp only[fB,ho,hz];rfl,kW hc,⟨⟨_,_,by unfold mU;rw[bI rfl],rfl,rfl⟩,bX _ _⟩,g1,g2⟩
 .cases h
omit hT in
def a63{S:TS U.D}{S':PS}(F:lX U c S S'){o:Oper}{d:Option Tmp}{t:av}{x:az}{K:X U->TM U.D->Option W}(ho:o.op= .box t x)(h:a8Y U T.T M d t (jI U S x) K=aa r)(Mm:MR U q c0 c M p):
    ∃c' x M' v p',K x M'=aa r/\fB P p S' o=aa (v,ah,p')/\leC c c'/\qB U c' x (v,ah)/\MR U q c0 c' M' p'/\(WR U c M p->WR U c' M' p'):=by
 have rx:=dD F x;unfold a8Y at h;split at h
 .rename_i d;split at h
  .rename_i ty fu;split at h
   .rename_i v hv;obtain⟨hf,hk⟩:=rH h;obtain⟨gw,kw⟩:=lK hU hv rx.1;have hsr:=VR.sr kw;have hc:=Mm.dom _ hf;have kx:=(vP rx).2;obtain⟨g1,g2⟩:=Mm.new (o:= .box ((cQ S' x).cells.map λc=>fl c ah)) (n:=0) (z:=0) (b:= .bx (.val v) (tM U (jI U S x)).2) (Nat.le_add_right 100 d) hf ⟨p.next,_,rfl,by rw[lG,bI rfl],⟨(hsr.fl ah).wk,(hsr.fl ah).z,λy hy=>by
            obtain⟨z,_,rfl⟩:=List.mem_map.1 hy;exact Ah z ah⟩,aEB kx kw⟩
    exact⟨_,_,_,.ptr p.next 0,_,hk,by simp only[fB,ho,hsr.one hU,aI],kW hc,⟨⟨_,_,by unfold mU;rw[bI rfl],rfl,rfl⟩,bX _ _⟩,g1,g2⟩
   .cases h
  .split at h
   .rename_i f caps hx;obtain⟨hf,hk⟩:=rH h;have h1:=rx.1;rw[hx]at h1;obtain⟨ps,ke,fk⟩:=h1;have hc:=Mm.dom _ hf;obtain⟨g1,g2⟩:=Mm.new (o:= .box [(.fn f [] ps,ah)]) (n:=0) (z:=0) (b:= .bx (.cl f caps) []) (Nat.le_add_right 100 d) hf ⟨p.next,_,rfl,by rw[lG,bI rfl],⟨_,_,rfl,ps,rfl,MT (kW hc) fk⟩,λi s hi=>by cases hi⟩
    have ke:cQ S' x= .fn f [] ps:=ke;exact⟨_,_,_,.ptr p.next 0,_,hk,by simp only[fB,ho,ke];rfl,kW hc,⟨⟨_,_,by unfold mU;rw[bI rfl],rfl,rfl⟩,bX _ _⟩,g1,g2⟩
   .cases h
 .cases h
omit hT in
def Qo(e:Ty): ∀n,iZ (wks (P1 U e)) n=((qZ (pN U e) n).map (dK U e)).flatMap PV.cells
 |0=>rfl
 |n+1=>by rw[iZ,qZ,aO,aN,Qo e n,SA hU]
omit hU hT in
def Eb{N:Type}(x:N): ∀n,(qZ x n).length=n
 |0=>rfl
 |n+1=>by rw[qZ,aM,Eb x n]
def a3d{S:TS U.D}{S':PS}(F:lX U c S S'){o:Oper}{d:Option Tmp}{t:av}{l k:az}{K:X U->TM U.D->Option W}(ho:o.op= .makeSlice t l k)(h:a8P U T.T M d t (bLE l) T.el (jI U S l).1 (jI U S k).1 K=aa r)(Mm:MR U q c0 c M p):
    ∃c' x M' v own p',K x M'=aa r/\fB P p S' o=aa (v,own,p')/\leC c c'/\qB U c' x (v,own)/\MR U q c0 c' M' p'/\(WR U c M p->WR U c' M' p'):=by
 have rl:=(dD F l).1;have rk:=(dD F k).1;unfold a8P at h;split at h
 .rename_i et fm n m fu vg hl hk;rw[hl]at rl;rw[hk]at rk;have el:cQ S' l= .v (.int .i64 n):=iP rl;have ek:cQ S' k= .v (.int .i64 m):=iP rk;clear rl rk hl hk;obtain⟨n',hn'⟩: ∃n':Int,n'=n:=⟨n,rfl⟩;subst hn';obtain⟨m',ro⟩: ∃m':Int,m'=m:=⟨m,rfl⟩;subst ro;obtain⟨hc,h⟩:=fJ h;simp only[aC,aD]at hc;obtain⟨⟨⟨hc1,hc2⟩,hc3⟩,hc4⟩:=hc;obtain⟨eid',hu,gx,gn⟩:=hT.un t _ fu;rw[vg]at gn;cases gn;obtain⟨info,z,hi,co,hby,hb1,hz,jh,hzc,hzp⟩:=hT.inf fm et gx;have jf:=hT.ag fm et gx;have ke:=pZ hU et;have c0: ∀(n' m':Int),0<=n'->n'<=m'->m'*(T.T.by' fm:Int)<=1073741824->m'<=1073741824->(aj (0<=n')&&aj (n'<=m')&&aj (m'*(info.bytes:Int)<=1073741824)&&aj (m'<=1073741824)&&z.cells.toList.all bQ&&am z.cells.size info.size&&an 1 info.size&&(lV et||am info.size 1))=ae:=by
   intro n' m' hc1 hc2 hc3 hc4;rw[jh,co,hby,hzp,Nat.beq_refl,(by rw[d7];exact ke:an 1 (dJ U et)=ae),bF hc1,bF hc2,bF hc3,bF hc4]
   cases et<;>rfl
  have c1:=c0 n' m' hc1 hc2 hc3 hc4;have th:fB P p S' o=bif aj (n'=0)then aa (.sl info.size [],ae,p)else bif aj (n'=m')then aa (.rs p.next 0 n'.toNat,ah,p.new (.row info.size (lV et) (iZ (wks (ofVs z.cells.toList)) n'.toNat)))else ad:=by
   simp only[fB,ho,hu,el,ek,hi,jf,hz,c1,aI]
  have qe:VR U (.sl et) [] (.sl (dJ U et) []):=⟨rfl,λj z' hj=>by
   cases j with
   |zero=>simp only[PV.cells,aU,aA,PV.sl.injEq]at hj;exact⟨et,rfl,hj.1.symm⟩
   |succ j=>simp[PV.cells]at hj⟩
  cases pf:bLE l with
  |true=>
   rw[pf]at h;obtain⟨hn,h⟩:=fJ h;have hn:=of_decide_eq_true hn;refine⟨c,_,_,.sl (dJ U et) [],ae,p,h,?_,leC.refl c,⟨qe,?_⟩,Mm,λhw=>hw⟩
   .rw[th,bF hn,aI,co]
   .intro i s hi;simp only[List.mem_singleton,aB]at hi;exact .inr ⟨hi.1,rfl,rfl,λe=>by rw[hi.2]at e;cases e⟩
  |false=>
   rw[pf]at h;obtain⟨hn,h⟩:=fJ h;have hn:=of_decide_eq_true hn;cases d with
   |none=>cases h
   |some d=>
    obtain⟨hf,hk⟩:=rH h;have hcn:=Mm.dom _ hf;by_cases h0:n'=0
    .have h00:n'.toNat=0:=by omega
     obtain⟨g1,g2⟩:=Mm.new0 (b:= .row et (qZ (pN U et) n'.toNat)) (n:=0) (z:=dJ U et) (Nat.le_add_right 100 d) hf ⟨by rw[Eb,h00],rfl,.inl ⟨rfl,by rw[h00];rfl⟩⟩
     refine⟨_,_,_,.sl (dJ U et) [],ae,p,hk,by rw[th,bF h0,aI,co],kW hcn,⟨⟨_,by unfold mU;rw[bI rfl],.inl ⟨rfl,rfl,.inl rfl⟩⟩,bX _ _⟩,g1,g2⟩
    .obtain⟨g1,g2⟩:=Mm.new (o:= .row (dJ U et) (lV et) (iZ (wks (ofVs z.cells.toList)) n'.toNat)) (b:= .row et (qZ (pN U et) n'.toNat)) (n:=n'.toNat) (z:=dJ U et) (Nat.le_add_right 100 d) hf ⟨by rw[Eb],rfl,.inr ⟨p.next,rfl,by rw[lG,bI rfl,hzc,Qo hU]⟩⟩
     refine⟨_,_,_,.rs p.next 0 n'.toNat,ah,_,hk,by rw[th,bG h0,aJ,bF hn,aI,co],kW hcn,⟨⟨_,by unfold mU;rw[bI rfl],.inr ⟨_,rfl,by
      have k1:(0:Int)<=n':=hc1;have k2: ¬(n':Int)=0:=h0;simp only;omega,rfl⟩⟩,bX _ _⟩,g1,g2⟩
 .cases h
omit hT in
def sR{n:Nat}: ∀(l:List (U.D n)),pC (U.sz n) l.length ((l.map (dK U (.rc n))).flatMap PV.cells)=l.map (dK U (.rc n))
 |[]=>rfl
 |x::l=>by
  rw[aM,pC,aO,aN];have hl:(dK U (.rc n) x).cells.length=U.sz n:=iT hU (.rc n) x;rw[List.take_left' hl,List.drop_left' hl,sR l];rfl
omit hU hT in
def Rp{t:Ty}(h:lV t=ah): ∀(l:List (Den U.D t)),(l.map (dK U t)).flatMap PV.cells=l.map (dK U t)
 |[]=>rfl
 |x::l=>by
  rw[aO,aN,Rp h l];have:(dK U t x).cells=[dK U t x]:=by
   cases t with
   |rc n=>cases h
   |sl t=>exact oY (eT _ _)
   |_=>rfl
  rw[this];rfl
omit hU hT in
def Rg{p:PSt}{x:PV×Bool}(h: ∀id off len,x.1≠ .rs id off len):bF5 p x=aa (x,p):=by
 obtain⟨pv,b⟩:=x;cases pv with
 |rs id off len=>exact(h id off len rfl).elim
 |_=>rfl
omit hU hT in
def Qc{S0:TS U.D}{S':PS}{t:Nat}(F:lX U c S0 S'):lX U c S0 (S'.set t (S'.at t)):=λk=>by
 rw[qJ];by_cases e:k=t
 .rw[bI e,<-e];exact F k
 .rw[bH e];exact F k
omit hT in
def TZ{S:TS U.D}{S':PS}(F:lX U c S S'){t:Nat}{R:TS U.D×TM U.D}(h:a8S U S M t=aa R)(Mm:MR U q c0 c M p):
    ∃S'' p',kB p S' t=aa (S'',p')/\lX U c R.1 S''/\MR U q c0 c R.2 p'/\(WR U c M p->WR U c R.2 p'):=by
 have hs:=F t;have same: ∀{x:SV U.D} {r:jC},lW S t=(x,r)->(∀id off len,(S'.at t).1≠ .rs id off len)->R=((t,(x,r))::S,M)->
      ∃S'' p',kB p S' t=aa (S'',p')/\lX U c R.1 S''/\MR U q c0 c R.2 p'/\(WR U c M p->WR U c R.2 p'):=by
  intro x r hx bn hR;subst hR;refine⟨S'.set t (S'.at t),p,by simp only[kB,Rg bn],?_,Mm,λhw=>hw⟩
  exact Qc (Rh F (show qB U c (x,r) (S'.at t) by rw[<-hx];exact hs))
 unfold a8S at h;split at h
 .rename_i k rr hx;split at h
  .rename_i e l hf;simp only[aA]at h;subst h;have h1:=hs.1;rw[hx]at h1;obtain⟨ce,ql,h1⟩:=h1;obtain⟨ce',hce',hn,hz,bh⟩:=Mm.bx k _ hf;rw[ql]at hce';cases hce';rcases h1 with⟨hid,hn0,hp⟩|⟨id,hid,hn1,hp⟩
   .have hl:l=[]:=List.length_eq_zero_iff.1 (by omega)
    subst hl;refine⟨S'.set t (S'.at t),p,by rw[kB,Rg (by rcases hp with hp|hp<;>(rw[hp];intro _ _ _ e;cases e))],?_,Mm.gone hf _,λhw i hi j e' g1 g2=>by
     show(am k j||eA j M.wr)=ae;rw[hw i hi j e' g1 g2,Bool.or_true]⟩
    refine sP F ⟨?_,bX _ _⟩;show VR U (.sl e) [] (S'.at t).1;rcases hp with hp|hp
    .rw[hp,hz];exact⟨rfl,λj z' hj=>by
      cases j with
      |zero=>simp only[PV.cells,aU,aA,PV.sl.injEq]at hj;exact⟨e,rfl,hj.1.symm⟩
      |succ j=>simp[PV.cells]at hj⟩
    .rw[hp];exact zM e [] (z:=dJ U e) (es:=[]) rfl rfl
   .rcases bh with⟨dj,_⟩|⟨bu,fb,bc⟩
    .rw[hid]at dj;cases dj
    .rw[hid]at fb;cases fb;have ki:((l.map (dK U e)).flatMap PV.cells).length=l.length*dJ U e:=by
      have:=hP (z:=dJ U e) (es:=l.map (dK U e)) (λe' gb=>by obtain⟨a,_,rfl⟩:=List.mem_map.1 gb;exact iT hU _ _)
      rw[List.length_map]at this;exact this
     have hpur:((l.map (dK U e)).flatMap PV.cells).all PV.pur=ae:=by
      rw[bJ];intro x hx;obtain⟨y,hy,hx⟩:=List.mem_flatMap.1 hx;obtain⟨a,_,rfl⟩:=List.mem_map.1 hy;exact a5U (bJ.1 (tZ hU e a) x hx)
     have ke:=pZ hU e;have c1:(an (0+ce.n*ce.z) ((l.map (dK U e)).flatMap PV.cells).length&&an 1 ce.z&&(lV e||am ce.z 1)&&((l.map (dK U e)).flatMap PV.cells).all PV.pur)=ae:=by
      rw[ki,hpur,hz,hn,Nat.zero_add,(by rw[d7];exact aS _:an (l.length*dJ U e) (l.length*dJ U e)=ae),(by rw[d7];exact ke:an 1 (dJ U e)=ae)]
      cases e<;>rfl
     have mu:(bif lV e then pC ce.z ce.n ((((l.map (dK U e)).flatMap PV.cells).drop 0).take (ce.n*ce.z))else((((l.map (dK U e)).flatMap PV.cells).drop 0).take (ce.n*ce.z)))=l.map (dK U e):=by
      rw[List.drop_zero,List.take_of_length_le (by rw[ki,hn,hz];exact aS _)]
      cases hr:lV e with
      |true=>
       cases e with
       |rc n=>rw[aI,hz,hn];exact sR hU l
       |_=>cases hr
      |false=>rw[aJ];exact Rp hr l
     have hat:S'.at t=(.rs id 0 ce.n,(S'.at t).2):=by rw[<-hp]
     obtain⟨m1,m2⟩:=Mm.upd (o:= .gone) (b':= .gone) hf ql hid trivial;refine⟨S'.set t (eD ce.z (l.map (dK U e)),ah),p.upd id .gone,?_,?_,m1,m2⟩
     .rw[kB,hat];simp only[bF5,bc,c1,aI,mu]
     .exact sP F ⟨zM _ _ hz rfl,bX _ _⟩
  .cases h
 .rename_i v rr hx;simp only[aA]at h;refine same hx ?_ h.symm;intro id off len e;have h1:=hs.1;rw[hx]at h1;have h2:VR U v.t v.x (S'.at t).1:=h1;have h3:=h2.wk;rw[e]at h3;obtain⟨vt,vx⟩:=v;cases vt with
  |sl t=>have:=eT (dJ U t) (List.map (dK U t) vx);simp only[dK]at h3;rw[<-h3]at this;cases this
  |_=>cases h3
 .rename_i rr hx;simp only[aA]at h;refine same hx ?_ h.symm;intro id off len e;have h1:=hs.1;rw[hx]at h1;have h2:(S'.at t).1= .nil:=h1;rw[h2]at e;cases e
 .rename_i f caps rr hx;simp only[aA]at h;refine same hx ?_ h.symm;intro id off len e;have h1:=hs.1;rw[hx]at h1;obtain⟨ps,h2,_⟩:=h1;rw[h2]at e;cases e
 .cases h
end
end Go.TV
namespace Go.TV
open Go.AI Go.PI
section
variable{P:aw}{U:hJ}{T:TP U.D}{c c0:Cx}{W:Type}{r:W}{q p:PSt}{M:TM U.D}
def Eo{S':PS}{x:az}(h:(iC S' x||kN (cQ S' x))=ae):iC S' x=ae:=by
 cases x with
 |tmp t=>simpa [iC,cQ,Bool.or_assoc]using h
 |const v=>
  cases v with
  |slice b l k=>
   cases b with
   |none=>rfl
   |some b=>simp[iC,cQ,Bz,kN]at h
  |_=>simp[iC,cQ,Bz,kN]at h
 |global g=>simp[iC,cQ,kN]at h
 |func f=>simp[iC,cQ,kN]at h
variable(hU:hQ U)(hT:rQ P U T)
include hU hT
def a7m{S:TS U.D}{S':PS}(F:lX U c S S'){cl:Call}{s x:az}{K:X U->Option W}(h:a8Z U T.T T.el cl.argTypes.toList (jI U S s) (jI U S x).1 K=aa r):
    ∃y v own,K y=aa r/\wU P S' cl s x=aa (v,own,mY S' s)/\qB U c y (v,own):=by
 have rs:=dD F s;have rx:=(dD F x).1;unfold a8Z at h;split at h
 .rename_i t t1 kc;split at h
  .rename_i et fm e1 fu vg hty1;split at h
   .rename_i a l b w hs hx;split at h
    .rename_i l' w' hl hw;obtain⟨cf,mw⟩:=lK hU hs rs.1;obtain⟨hxt,hxv⟩:=lK hU hx rx;have e2:=pB hl;have e3:=pB hw;have mw:VR U (.sl et) l' (cQ S' s):=by
      have:VR U (⟨a,l⟩:TV U.D).t (⟨a,l⟩:TV U.D).x (cQ S' s):=mw;rw[e2]at this;exact this
     have hxv:VR U (.sl et) w' (cQ S' x):=by
      have:VR U (⟨b,w⟩:TV U.D).t (⟨b,w⟩:TV U.D).x (cQ S' x):=hxv;rw[e3]at this;exact this
     obtain⟨eid',hu,gx,gn⟩:=hT.un t _ fu;rw[vg]at gn;cases gn;obtain⟨eid1,hu1,_⟩:=hT.un t1 _ hty1;obtain⟨info,z,hi,co,hby,hb1,hz,jh,hzc,hzp⟩:=hT.inf fm et gx;obtain⟨g1,g2⟩:=tK mw;obtain⟨k1,k2⟩:=tK hxv;have c1:(an 1 info.size&&an 1 info.bytes&&am z.cells.size info.size)=ae:=by
      rw[jh,Nat.beq_refl,co,(by rw[d7];exact pZ hU et:an 1 (dJ U et)=ae),(by rw[d7];exact hb1:an 1 info.bytes=ae)];rfl
     have lu:isAgg (cQ S' s)=ah:=oO (v:=⟨.sl et,l'⟩) mw rfl;have ti:wU P S' cl s x=(match w'.map (dK U et)with
              |[]=>aa (cQ S' s,iC S' s,mY S' s)
              |xs=>bif iC S' s&&an (((l'.map (dK U et)).length+(w'.map (dK U et)).length)*info.bytes) 1073741824 then aa (eD info.size (l'.map (dK U et)++w'.map (dK U et)),ae,mY S' s)else ad):=by
      have e4:pA info.size (cQ S' s)=aa (l'.map (dK U et)):=by rw[co];exact g1
      have e5:wR info.size (.slice eid1) (cQ S' x)=aa (w'.map (dK U et)):=by rw[co];exact k1
      simp only[wU,kc,hu,hu1,hi,e4,e5,hz,c1,aI];rfl
     cases hm:EC 0 (jI U S s).2 with
     |true=>
      rw[hm]at h;obtain⟨hc,h⟩:=fJ h;obtain⟨st,hst2⟩:=vL.1 hm;have how:iC S' s=ae:=by
       rcases rs.2 0 st hst2 with⟨h1,_⟩|⟨_,_,h1,_⟩
       .rw[lu]at h1;cases h1
       .exact Eo h1
      cases w' with
      |nil=>
       refine⟨_,cQ S' s,iC S' s,h,by rw[ti];rfl,?_,rs.2⟩
       show VR U (.sl et) (l'++ []) (cQ S' s);rw[bA];exact mw
      |cons w0 w'=>
       refine⟨_,eD info.size (l'.map (dK U et)++(w0::w').map (dK U et)),ae,h,?_,zM _ _ co (by rw[<-List.map_append]),?_⟩
       .rw[ti,how];simp only[aO,List.length_map,aM,hby];have mi:an ((l'.length+(w'.length+1))*T.T.by' fm) 1073741824=ae:=hc
        rw[mi];rfl
       .intro o s' gl;have hg:=eT info.size (l'.map (dK U et)++(w0::w').map (dK U et));rcases rs.2 o s' gl with⟨h1,_⟩|⟨h1,_⟩
        .rw[lu]at h1;cases h1
        .refine .inr ⟨h1,?_,rfl,λ_=>BY hg⟩
         cases hc:eD info.size (l'.map (dK U et)++(w0::w').map (dK U et))<;>first|rfl|(rw[hc]at hg;cases hg)
     |false=>
      rw[hm]at h;obtain⟨hc,h⟩:=fJ h;cases w' with
      |nil=>exact⟨_,cQ S' s,iC S' s,h,by rw[ti];rfl,mw,bX _ _⟩
      |cons w0 w'=>cases hc
    .cases h
   .cases h
  .cases h
 .cases h
def aQW{S:TS U.D}{S':PS}(F:lX U c S S'){ts:List av}{t1 t2:av}{s zz n x:az}{K:V U->V U->Option W}(h:aDh U T.T T.el ts t1 t2 (jI U S s) (jI U S zz).1 (jI U S n).1 (jI U S x).1 K=aa r):
    ∃y w v,K y w=aa r/\aAi P ts t1 t2 (cQ S' s) (iC S' s) (cQ S' zz) (cQ S' n) (cQ S' x)=aa v/\qB U c (.val y,[(0,ae)]) (v,ae)/\uO U c (.ep w) (aCB v):=by
 have rs:=dD F s;have rz:=(dD F zz).1;have rn:=(dD F n).1;have rx:=(dD F x).1;unfold aDh at h;split at h
 .rename_i t tz;split at h
  .rename_i et fm e1 fu vg hty1;split at h
   .rename_i a l b y kk k v hs hz hn hx;split at h
    .rename_i l' y0 w' hl hy hw;rw[hn]at rn;cases hb:EC 0 (jI U S s).2&&am t1 t&&am t2 fm with
     |false=>rw[hb]at h;cases h
     |true=>
      rw[hb]at h;simp only[aC,dN,aD]at hb;obtain⟨⟨hm,rfl⟩,rfl⟩:=hb;obtain⟨hc,h⟩:=fJ h;simp only[aC,aD]at hc;obtain⟨cf,mw⟩:=lK hU hs rs.1;obtain⟨hzt,hzv⟩:=lK hU hz rz;obtain⟨hxt,hxv⟩:=lK hU hx rx;have e2:=pB hl;have e3:=pB hy;have e4:=pB hw;have mw:VR U (.sl et) l' (cQ S' s):=by
       have:VR U (⟨a,l⟩:TV U.D).t (⟨a,l⟩:TV U.D).x (cQ S' s):=mw;rw[e2]at this;exact this
      have hzv:VR U (.sl et) [y0] (cQ S' zz):=by
       have:VR U (⟨b,y⟩:TV U.D).t (⟨b,y⟩:TV U.D).x (cQ S' zz):=hzv;rw[e3]at this;exact this
      have hxv:VR U et w' (cQ S' x):=by
       have:VR U (⟨v.t,v.x⟩:TV U.D).t (⟨v.t,v.x⟩:TV U.D).x (cQ S' x):=hxv;rw[e4]at this;exact this
      obtain⟨eid',hu,gx,gn⟩:=hT.un t1 _ fu;rw[vg]at gn;cases gn;obtain⟨eid1,hu1,_⟩:=hT.un tz _ hty1;obtain⟨info,z,hi,co,hby,hb1,jx,jh,hzc,hzp⟩:=hT.inf t2 et gx;obtain⟨g1,g2⟩:=tK mw;obtain⟨k1,_⟩:=tK hzv;have lu:isAgg (cQ S' s)=ah:=oO (v:=⟨.sl et,l'⟩) mw rfl;obtain⟨st,hst2⟩:=vL.1 hm;have how:iC S' s=ae:=by
       rcases rs.2 0 st hst2 with⟨h1,_⟩|⟨_,_,h1,_⟩
       .rw[lu]at h1;cases h1
       .exact Eo h1
      have e5:pA info.size (cQ S' s)=aa (l'.map (dK U et)):=by rw[co];exact g1
      have e6:wR info.size (.slice eid1) (cQ S' zz)=aa [dK U et y0]:=by rw[co];exact k1
      have e7:cQ S' n= .v (.int kk k):=iP rn;have hlen:((l'.map (dK U et)).length+1)*info.bytes=(l'.length+1)*T.T.by' t2:=by rw[List.length_map,hby]
      have hlen2:(k:Int)=((l'.map (dK U et)).length:Int):=by rw[List.length_map];exact hc.2
      have c1:(an 1 info.size&&an 1 info.bytes&&am z.cells.size info.size&&iC S' s&&an (((l'.map (dK U et)).length+1)*info.bytes) 1073741824&&am t1 t1&&am t2 t2&&aj ((k:Int)=((l'.map (dK U et)).length:Int))&&PI.shape (lV et) info.size (cQ S' x))=ae:=by
       rw[hlen,hc.1,bF hlen2,jh,co,uQ hU hxv,how,(by rw[d7];exact pZ hU et:an 1 (dJ U et)=ae),(by rw[d7];exact hb1:an 1 info.bytes=ae)]
       simp only[Nat.beq_refl,Bool.and_self]
      have bn:l'.map (dK U et)++ [wk (cQ S' x)]≠ []:=by simp
      have lz:PV.sl info.size (l'.map (dK U et)++ [wk (cQ S' x)])=eD info.size (l'.map (dK U et)++ [wk (cQ S' x)]):=by
       cases hh:l'.map (dK U et)++ [wk (cQ S' x)]with
       |nil=>exact(bn hh).elim
       |cons a b=>rfl
      refine⟨_,_,eD info.size (l'.map (dK U et)++ [wk (cQ S' x)]),h,?_,⟨zM _ _ co (by rw[List.map_append,hxv.wk];rfl),?_⟩,?_⟩
      .simp only[aAi,hu,hu1,hi,hT.ag _ _ gx,e5,e6,jx,e7];rw[c1,<-lz];rfl
      .intro o s' gl;simp only[List.mem_singleton,aB]at gl;have hg:=eT info.size (l'.map (dK U et)++ [wk (cQ S' x)]);refine .inr ⟨gl.1,?_,rfl,λ_=>BY hg⟩
       cases hc:eD info.size (l'.map (dK U et)++ [wk (cQ S' x)])<;>first|rfl|(rw[hc]at hg;cases hg)
      .rw[<-lz];refine⟨_,_,0,wk (cQ S' x),rfl,by simp,?_⟩
       rw[hxv.wk,List.drop_zero];exact List.take_of_length_le (Nat.le_of_eq (iT hU et w'))
    .cases h
   .cases h
  .cases h
 .cases h
end
end Go.TV
namespace Go.TV
open Go.AI Go.PI
section
variable{P:aw}{U:hJ}{T:TP U.D}{c c0:Cx}{W:Type}{r:W}{q p:PSt}{M:TM U.D}
structure Gk(U:hJ)(s:Sz)(d:List (V U))(p:PSt)(cc:Cx)(args:List (PV×Bool))(S0:TS U.D)(M0:TM U.D):Prop where
 start:JN U (cutOf s) d=aa (S0,M0)
 len:args.length=s.ps.length
 args: ∀i y,args[i]?=aa y->qB U cc (lW S0 i) y
 bx: ∀j b,dL M0.bx j=aa b->∃e,cc j=aa e/\Di U cc p e b
 dom: ∀j,s.bx.length<=j->cc j=ad
 lt: ∀j e id,cc j=aa e->e.id=aa id->id<p.next
 inj: ∀k k' e e' id,cc k=aa e->cc k'=aa e'->e.id=aa id->e'.id=aa id->k=k'
 wr: ∀id,id∈p.wr->id<p.next
structure aBG(U:hJ)(s:Sz)(out:List (V U))(p:PSt)(cc:Cx)(pv:PV)(own:Bool)(p':PSt):Prop where
 res:qB U cc (C6 U s.own (out.take s.rs.length)) (pv,own)
 out: ∃m,fL U s.bx s.bo (out.drop s.rs.length)=aa m/\∀j x,m[j]?=aa x->∃e,cc j=aa e/\Di U cc p' e x
 next:p'.next=p.next
 get: ∀id,id<p.next->(∀j e,cc j=aa e->e.id≠aa id)->p'.get id=p.get id
 get2: ∀id,id<p.next->id∉p'.dirty->p'.get id=p.get id
 dirty: ∀id,id∈p'.dirty->id∈p.dirty∨∃j e,cc j=aa e/\e.id=aa id
 dirty2: ∀id,id∈p.dirty->id∈p'.dirty
 wr: ∀id,id∈p'.wr->id∈p.wr∨∃j e,cc j=aa e/\e.id=aa id
def iW(U:hJ)(T:TP U.D)(tc:pX U.D)(pc:jB):Prop:=
 ∀inst s d out,T.sig inst=aa s->tc inst d=aa out->∀p cc args S0 M0,Gk U s d p cc args S0 M0->∃pv own p',pc s.f args p=aa (pv,own,p')/\aBG U s out p cc pv own p'
def kJ(c:Cx)(bk:List Nat):Cx:=λj=>if j<bk.length then c (jR bk j)else ad
def AQ: ∀(l:List Nat) (i:Nat),i<l.length->l[i]?=aa (jR l i)
 |x::l,0,_=>rfl
 |x::l,i+1,h=>by rw[aT];exact AQ l i (by simpa using h)
 |[],i,h=>by simp at h
def xJ: ∀{a b:List Nat},yX a b=ae->a=b
 |[],[],_=>rfl
 |x::a,y::b,h=>by
  simp only[yX,aC,dN,aD]at h;rw[h.1,xJ h.2]
 |[],_::_,h=>by cases h
 |_::_,[],h=>by cases h
def jF{i:Nat}: ∀{l:List Nat},eA i l=ae↔i∈l
 |[]=>by simp[eA]
 |x::l=>by
  simp only[eA,b9,dN,aD,jF (l:=l),List.mem_cons];exact or_congr eq_comm Iff.rfl
def CF: ∀{l:List Nat},QY l=ae->l.Nodup
 |[],_=>List.nodup_nil
 |x::l,h=>by
  simp only[QY,aC,Bool.not_eq_true']at h;refine List.nodup_cons.2 ⟨λhm=>?_,CF h.2⟩
  rw[jF.2 hm]at h;cases h.1
def aOU{bk:List Nat}(h:bk.Nodup){i j:Nat}(hi:i<bk.length)(hj:j<bk.length)(e:jR bk i=jR bk j):i=j:=by
 have h1:=AQ bk i hi;have h2:=AQ bk j hj;rw[<-e,<-h1]at h2;exact((List.getElem?_inj hj h).1 h2).symm
def MU{bk:List Nat}: ∀{caps:List Nat} {ps:List PV},wF caps bk.length=ae->(yY c (KX (jR bk) caps) ps↔yY (kJ c bk) caps ps)
 |[],[],_=>Iff.rfl
 |k::ks,x::ps,h=>by
  simp only[wF,aC,gZ,aD]at h;simp only[KX,yY,kJ,bI h.1];exact and_congr Iff.rfl (MU h.2)
 |[],_::_,_=>Iff.rfl
 |_::_,[],_=>Iff.rfl
def RU{bk:List Nat}: ∀{caps:List Nat} {ps:List PV},yY (kJ c bk) caps ps->yY c (KX (jR bk) caps) ps
 |[],[],_=>trivial
 |k::ks,x::ps,⟨⟨e,id,h1,h2,h3⟩,h4⟩=>by
  unfold kJ at h1;split at h1
  .exact⟨⟨e,id,h1,h2,h3⟩,RU h4⟩
  .cases h1
 |[],_::_,h=>h.elim
 |_::_,[],h=>h.elim
def aC7{bk:List Nat}{s:SV U.D}{cs:List (PV×Bool)}(h:Aj U (kJ c bk) s cs):Aj U c (bBV U bk s) cs:=by
 cases s with
 |cl f caps=>obtain⟨p,b,e,ps,h1,h2⟩:=h;exact⟨p,b,e,ps,h1,RU h2⟩
 |_=>exact h
def aTS{t:Ty}{x:Den U.D t}{p:PV}(hU:hQ U)(h:VR U t x p):VR U t x (wk p):=by
 refine⟨by rw[h.wk,aAV hU],?_⟩
 rw[h.wk];exact DG (tZ hU t x)
def UR(U:hJ)(c:Cx)(take:Bool):List (X U)->List (PV×Bool)->Prop
 |[],[]=>True
 |x::xs,y::ys=>(∃pv ow,uO U c x.1 pv/\aDA x.2 pv ow/\y=(wk pv,take&&ow&& !K2 pv)/\(take=ah->x.2=[])/\(kN pv=ae->ow=ae))/\UR U c take xs ys
 |_,_=>False
def CQ{take:Bool}: ∀{xs xs':List (X U)} {ys ys':List (PV×Bool)},UR U c take xs ys->UR U c take xs' ys'->UR U c take (xs++xs') (ys++ys')
 |[],_,[],_,_,h=>h
 |x::xs,_,y::ys,_,h,h'=>⟨h.1,CQ h.2 h'⟩
 |[],_,_::_,_,h,_=>h.elim
 |_::_,_,[],_,h,_=>h.elim
def QH{take:Bool}: ∀{args:List az} {S:TS U.D} {S':PS},lX U c S S'->lX U c (HS U take S args).2 (lY take S' args).2/\UR U c take (HS U take S args).1 (lY take S' args).1
 |[],S,S',F=>⟨F,trivial⟩
 |x::xs,S,S',F=>by
  have F1:lX U c (bif take then vM U S x else S) (bif take then mY S' x else S'):=by
   cases take with
   |true=>exact rM F x
   |false=>exact F
  obtain⟨h1,h2⟩:=QH (args:=xs) F1;have:=dD F x;refine⟨h1,⟨cQ S' x,iC S' x,this.1,?_,rfl,λe=>by rw[e];rfl,λh=>Eo (by rw[h,Bool.or_true])⟩,h2⟩
  cases take with
  |true=>exact this.2
  |false=>exact bX _ _
def aA4{take:Bool}: ∀{caps:List Nat} {ps:List PV},yY c caps ps->UR U c take (caps.map λk=>(SV.lc k 0 [],[])) (rG ps)
 |[],[],_=>trivial
 |k::ks,x::ps,⟨⟨e,id,h1,h2,h3⟩,h4⟩=>by
  refine⟨⟨x,ah,⟨e,id,h1,h2,h3⟩,bX _ _,by rw[Bool.and_false,Bool.false_and],λ_=>rfl,λh=>by rw[h3]at h;cases h⟩,aA4 h4⟩
 |[],_::_,h=>h.elim
 |_::_,[],h=>h.elim
def E1{S:TS U.D}{i k:Nat}{x:X U}(h:k≠i):lW ((i,x)::S) k=lW S k:=by rw[xG,bH h]
def rW: ∀{rs:jC},qA rs=ae->(0,ae)∈rs
 |x::rs,h=>by
  obtain⟨a,b⟩:=x;simp only[qA,b9,aC,dN,aD]at h;rcases h with⟨rfl,rfl⟩|h
  .exact aH ..
  .exact aG _ (rW h)
def HZ(hU:hQ U){bk:List Nat}{take:Bool}: ∀{ps:List (Sh×Bool)} {xs:List (X U)} {ys:List (PV×Bool)} {d:List (V U)} (i0:Nat) (rest:List (V U)),nX U bk ps xs=aa d->UR U c take xs ys->
    ys.length=ps.length/\∃S0,aDw U (cutOf.psL ps i0) (d++rest)=aa (S0,rest)/\∀i y,ys[i]?=aa y->qB U (kJ c bk) (lW S0 (i0+i)) y
 |[],[],[],d,i0,rest,h,_=>by
  simp only[nX,aA]at h;subst h;exact⟨rfl,[],rfl,λi y hy=>by simp at hy⟩
 |(s,own)::ps,x::xs,y::ys,d,i0,rest,h,⟨⟨pv,ow,r1,r2,hy0,r3,r4⟩,hr⟩=>by
  subst hy0;have fin: ∀(sv:SV U.D) (dv dl:List (V U)),nX U bk ps xs=aa dl->d=dv++dl->SK U s (dv++(dl++rest))=aa (sv,dl++rest)->uO U (kJ c bk) sv (wk pv)->(own=ae->qA x.2=ae/\isAgg pv=ah)->
        ((wk pv,take&&ow&& !K2 pv)::ys).length=((s,own)::ps).length/\∃S0,aDw U (cutOf.psL ((s,own)::ps) i0) (d++rest)=aa (S0,rest)/\∀i y,((wk pv,take&&ow&& !K2 pv)::ys)[i]?=aa y->qB U (kJ c bk) (lW S0 (i0+i)) y:=by
   intro sv dv dl hm hd hu hs ho;obtain⟨g1,S0,g2,g3⟩:=HZ hU (i0+1) rest hm hr;refine⟨by rw[aM,aM,g1],(i0,(sv,Tq own))::S0,?_,?_⟩
   .rw[hd,aQ];simp only[cutOf.psL,aDw,hu,g2]
   .intro i y hy;cases i with
    |zero=>
     simp only[aU,aA]at hy;subst hy;rw[xG,bI (Nat.add_zero _)];refine⟨hs,?_⟩;cases own with
     |false=>exact bX _ _
     |true=>
      obtain⟨h1,h2⟩:=ho rfl;have hm:=rW h1;intro o st hi;simp only[Tq,List.mem_singleton,aB]at hi;have me:take=ae:=by
       cases take with
       |true=>rfl
       |false=>rw[r3 rfl]at hm;cases hm
      rcases r2 _ _ hm with⟨h3,_⟩|⟨_,_,h3,h4⟩
      .rw[h2]at h3;cases h3
      .have how:ow=ae:=by
        cases hh:kN pv with
        |true=>exact r4 hh
        |false=>rw[hh,Bool.or_false]at h3;exact h3
       refine .inr ⟨hi.1,?_,?_,λ_=>?_⟩
       .cases pv with
        |agg cs=>cases h2
        |sl z es=>cases es<;>rfl
        |_=>rfl
       .rw[me,how,h4 rfl];rfl
       .exact aGX pv
    |succ i=>
     rw[aT]at hy;have:=g3 i y hy;rw[E1 (by omega),show i0+(i+1)=i0+1+i by omega]
     exact this
  obtain⟨sx,rx⟩:=x;cases s with
  |val t=>
   simp only[nX]at h;split at h
   .rename_i v l hv hl;cases hb: !own||(qA rx&& !lV t)with
    |false=>rw[hb]at h;cases h
    |true=>
     rw[hb]at h;simp only[aI,aA]at h;obtain⟨h1,h2⟩:=lK hU hv r1;refine fin (.val v) [v] l hl h.symm ?_ (aTS hU h2) ?_
     .simp only[aR,SK,h1,Ty.beq_rfl,aI]
     .intro ho;rw[ho]at hb;simp only[bD,Bool.false_or,aC,Bool.not_eq_true']at hb;exact⟨hb.1,oO h2 (by rw[h1];exact hb.2)⟩
   .cases h
  |lc j off path=>
   cases sx with
   |lc k fq mn=>
    simp only[nX]at h;cases hb: !own&&d8 j bk.length&&am k (jR bk j)&&am off fq&&yX path mn with
    |false=>rw[hb]at h;cases h
    |true=>
     rw[hb]at h;simp only[aI]at h;simp only[aC,gZ,dN,aD,Bool.not_eq_true']at hb;obtain⟨⟨⟨⟨h0,h1⟩,h2⟩,h3⟩,h4⟩:=hb;obtain⟨e,id,g1,g2,g3⟩:=r1;refine fin (.lc j off path) [] d h rfl rfl ⟨e,id,?_,g2,by rw[g3,h3];rfl⟩ (λho=>by rw[h0]at ho;cases ho)
     unfold kJ;rw[bI h1,<-h2];exact g1
   |_=>cases h
  |cl f caps=>
   cases sx with
   |cl f' cm=>
    simp only[nX]at h;cases hb: !own&&am f f'&&wF caps bk.length&&yX (KX (jR bk) caps) cm with
    |false=>rw[hb]at h;cases h
    |true=>
     rw[hb]at h;simp only[aI]at h;simp only[aC,dN,aD,Bool.not_eq_true']at hb;obtain⟨⟨⟨h0,h1⟩,h2⟩,h3⟩:=hb;obtain⟨qs,g1,g2⟩:=r1;refine fin (.cl f caps) [] d h rfl rfl ⟨qs,by rw[g1,h1];rfl,(MU h2).1 (by rw[xJ h3];exact g2)⟩ (λho=>by rw[h0]at ho;cases ho)
   |_=>cases h
  |rw j=>
   cases sx with
   |rw k=>
    simp only[nX]at h;cases hb: !own&&d8 j bk.length&&am k (jR bk j)with
    |false=>rw[hb]at h;cases h
    |true=>
     rw[hb]at h;simp only[aI]at h;simp only[aC,gZ,dN,aD,Bool.not_eq_true']at hb;obtain⟨⟨h0,h1⟩,h2⟩:=hb;obtain⟨e,g1,g2⟩:=r1;refine fin (.rw j) [] d h rfl rfl ⟨e,?_,?_⟩ (λho=>by rw[h0]at ho;cases ho)
     .unfold kJ;rw[bI h1,<-h2];exact g1
     .rcases g2 with⟨k1,k2,rfl|rfl⟩|⟨id,k1,k2,rfl⟩
      .exact .inl ⟨k1,k2,.inr rfl⟩
      .exact .inl ⟨k1,k2,.inr rfl⟩
      .exact .inr ⟨id,k1,k2,rfl⟩
   |_=>cases h
  |_=>cases h
 |[],_::_,_,d,i0,rest,h,_=>by cases h
 |(s,o)::_,[],_,d,i0,rest,h,_=>by cases s<;>cases h
 |_,[],_::_,d,i0,rest,h,hr=>hr.elim
 |_,_::_,[],d,i0,rest,h,hr=>hr.elim
end
end Go.TV
namespace Go.TV
open Go.AI Go.PI
section
variable{P:aw}{U:hJ}{T:TP U.D}{c c0:Cx}{W:Type}{r:W}{q p:PSt}{M:TM U.D}
def aAD{x:Nat×Bool}: ∀{rs:jC},leR.memW x rs=ae->∃s,(x.1,s)∈rs/\(x.2=ae->s=ae)
 |y::ys,h=>by
  simp only[leR.memW,b9,aC,dN,aD,Bool.not_eq_true']at h;rcases h with⟨h1,h2⟩|h
  .refine⟨y.2,by rw[h1];exact aH ..,λe=>?_⟩
   rcases h2 with h2|h2
   .rw[e]at h2;cases h2
   .exact h2
  .obtain⟨s,h1,h2⟩:=aAD h;exact⟨s,aG _ h1,h2⟩
def TI: ∀{rs gf:jC},leR rs gf=ae->∀o s,(o,s)∈rs->∃s',(o,s')∈gf/\(s=ae->s'=ae)
 |x::rs,gf,h,o,s,hm=>by
  simp only[leR,aC]at h;rcases List.mem_cons.1 hm with rfl|hm
  .exact aAD h.1
  .exact TI h.2 o s hm
def Ka{rs gf:jC}{cs:List (PV×Bool)}(h:leR rs gf=ae)(hb:bIm gf cs):bIm rs cs:=λo s hm=>by
 obtain⟨s',h1,h2⟩:=TI h o s hm;obtain⟨x,h3,h4⟩:=hb o s' h1;exact⟨x,h3,λe=>h4 (h2 e)⟩
def a0x{rs gf:jC}{pv:PV}{ow:Bool}(h:leR rs gf=ae)(hb:aDA gf pv ow):aDA rs pv ow:=λo s hm=>by
 obtain⟨s',h1,h2⟩:=TI h o s hm;rcases hb o s' h1 with h3|⟨h3,h4,h5,h6⟩
 .exact .inl h3
 .exact .inr ⟨h3,h4,h5,λe=>h6 (h2 e)⟩
def BT{bk:List Nat}(Mm:MR U q c0 c M p): ∀{l:List (Sh×jC)} {j:Nat} {e:List (V U)} (rest:List (V U)),ED U bk M l j=aa e->j+l.length<=bk.length->
    ∃M0,C3 U (cutOf.bxL l j) (e++rest)=aa (M0,rest)/\(∀i b,dL M0 i=aa b->∃ce,kJ c bk i=aa ce/\Di U (kJ c bk) p ce b)/\(∀i,i<l.length->dL M.bx (jR bk (j+i))≠ad)
 |[],j,e,rest,h,_=>by
  simp only[ED,aA]at h;subst h;exact⟨[],rfl,λi b h=>(by cases h),λi h=>(by simp at h)⟩
 |(s,rr)::l,j,e,rest,h,hj=>by
  simp only[aM]at hj;unfold ED at h;split at h
  .rename_i cont rs d hf hd;cases hb:leR rr rs with
   |false=>rw[hb]at h;cases h
   |true=>
    rw[hb]at h;simp only[aI]at h;obtain⟨M0,g1,g2,g3⟩:=BT Mm rest hd (by omega)
    obtain⟨ce,ql,id,cs,hid,bc,hcs,kx⟩:=Mm.bx _ _ hf;have gr:kJ c bk j=aa ce:=by unfold kJ;rw[bI (by omega)];exact ql
    have bn: ∀i,i<((s,rr)::l).length->dL M.bx (jR bk (j+i))≠ad:=by
     intro i hi;cases i with
     |zero=>rw[Nat.add_zero,hf];exact λe=>by cases e
     |succ i=>have:=g3 i (by simpa using hi);rwa [show j+(i+1)=j+1+i by omega]
    split at h
    .rename_i t v;cases hv:v.t.beq t with
     |false=>rw[hv]at h;cases h
     |true=>
      rw[hv]at h;simp only[aI,aA]at h;subst h;refine⟨(j,.bx (.val v) rr)::M0,?_,?_,bn⟩
      .simp only[cutOf.bxL,aY,C3,SK,hv,aI,g1]
      .intro i b bp;rw[gP]at bp;by_cases e1:i=j
       .rw[bI e1]at bp;simp only[aA]at bp;subst bp;subst e1;exact⟨ce,gr,id,cs,hid,bc,hcs,Ka hb kx⟩
       .rw[bH e1]at bp;exact g2 i b bp
    .rename_i f caps f' cm;cases hv:am f f'&&wF caps bk.length&&yX (KX (jR bk) caps) cm with
     |false=>rw[hv]at h;cases h
     |true=>
      rw[hv]at h;simp only[aI,aA]at h;subst h;simp only[aC,dN,aD]at hv;obtain⟨⟨rfl,h2⟩,h3⟩:=hv;obtain⟨pv,bb,e1,ps,e2,e3⟩:=hcs;refine⟨(j,.bx (.cl f caps) rr)::M0,?_,?_,bn⟩
      .simp only[cutOf.bxL,C3,SK,g1]
      .intro i b bp;rw[gP]at bp;by_cases e4:i=j
       .rw[bI e4]at bp;simp only[aA]at bp;subst bp;subst e4;exact⟨ce,gr,id,cs,hid,bc,⟨pv,bb,e1,ps,e2,(MU h2).1 (by rw[xJ h3];exact e3)⟩,Ka hb kx⟩
       .rw[bH e4]at bp;exact g2 i b bp
    .cases h
  .rename_i et x d hf hd;obtain⟨M0,g1,g2,g3⟩:=BT Mm rest hd (by omega)
   obtain⟨ce,ql,bh⟩:=Mm.bx _ _ hf;have gr:kJ c bk j=aa ce:=by unfold kJ;rw[bI (by omega)];exact ql
   split at h
   .rename_i t;cases hv:et.beq t with
    |false=>rw[hv]at h;cases h
    |true=>
     rw[hv]at h;simp only[aI,aA]at h;subst h;have:=Ty.beq_eq hv;subst this;refine⟨(j,.row et x)::M0,?_,?_,?_⟩
     .simp only[cutOf.bxL,aY,C3,hv,aI,g1]
     .intro i b bp;rw[gP]at bp;by_cases e1:i=j
      .rw[bI e1]at bp;simp only[aA]at bp;subst bp;subst e1;exact⟨ce,gr,bh⟩
      .rw[bH e1]at bp;exact g2 i b bp
     .intro i hi;cases i with
      |zero=>rw[Nat.add_zero,hf];exact λe=>by cases e
      |succ i=>have:=g3 i (by simpa using hi);rwa [show j+(i+1)=j+1+i by omega]
   .cases h
  .cases h
def dM: ∀{ts:List Ty} {l:List (V U)} {r:DenL U.D ts},fK ts l=aa r->aNj ts r=l
 |[],[],r,h=>rfl
 |t::ts,v::vs,r,h=>by
  unfold fK at h;split at h
  .rename_i x r' h1 h2;simp only[aA]at h;subst h;rw[aNj,dM h2];have:=pB h1;simp only;rw[<-this]
  .cases h
 |[],_::_,r,h=>by cases h
 |_::_,[],r,h=>by cases h
def aGn{ts:List Ty}{a:Option (List (V U))}{K:DenL U.D ts->Option W}(h:fN ts a K=aa r): ∃l x,a=aa l/\aNj ts x=l/\K x=aa r:=by
 unfold fN at h;split at h
 .rename_i l;split at h
  .rename_i x hx;exact⟨l,x,rfl,dM hx,h⟩
  .cases h
 .cases h
def vA: ∀{l:List (Sh×jC)} {rs:List jC} {d:List (V U)} {m:List (BC U.D)},fL U l rs d=aa m->m.length=l.length
 |[],[],[],m,h=>by simp only[fL,aA]at h;subst h;rfl
 |(.val t,rr)::l,r::rs,v::d,m,h=>by
  simp only[fL]at h;split at h
  .rename_i m' hm;cases h;simp only[aM,vA hm]
  .cases h
 |(.cl f caps,rr)::l,r::rs,d,m,h=>by
  simp only[fL]at h;split at h
  .rename_i m' hm;cases h;simp only[aM,vA hm]
  .cases h
 |[],_::_,_,_,h=>by simp[fL]at h
 |[],[],_::_,_,h=>by simp[fL]at h
 |(s,rr)::l,[],d,m,h=>by cases s<;>simp[fL]at h
 |(.val t,rr)::l,r::rs,[],m,h=>by simp[fL]at h
 |(.tup _,_)::_,_::_,_,_,h=>by simp[fL]at h
 |(.nl,_)::_,_::_,_,_,h=>by simp[fL]at h
 |(.lc _ _ _,_)::_,_::_,_,_,h=>by simp[fL]at h
 |(.ep _,_)::_,_::_,_,_,h=>by simp[fL]at h
 |(.rw _,_)::_,_::_,_,_,h=>by simp[fL]at h
 |(.nf,_)::_,_::_,_,_,h=>by simp[fL]at h
 |(.row t,rr)::l,r::rs,⟨.sl e,x⟩::d,m,h=>by
  simp only[fL]at h;split at h
  .rename_i m' hm;cases h;simp only[aM,vA hm]
  .cases h
 |(.row t,rr)::l,r::rs,[],m,h=>by simp[fL]at h
 |(.row t,rr)::l,r::rs,⟨.int _,x⟩::d,m,h=>by simp[fL]at h
 |(.row t,rr)::l,r::rs,⟨.bool,x⟩::d,m,h=>by simp[fL]at h
 |(.row t,rr)::l,r::rs,⟨.str,x⟩::d,m,h=>by simp[fL]at h
 |(.row t,rr)::l,r::rs,⟨.rc _,x⟩::d,m,h=>by simp[fL]at h
def E8{bk:List Nat}(hn:bk.Nodup): ∀(m:List (BC U.D)) (j0:Nat) (B:List (Nat×BC U.D)),(∀j,j<m.length->dL B (jR bk (j0+j))≠ad)->j0+m.length<=bk.length->∀k,
    (∃j x,m[j]?=aa x/\jR bk (j0+j)=k/\dL (Qx U bk m j0 B) k=aa (aEK U bk x))∨((∀j,j<m.length->jR bk (j0+j)≠k)/\dL (Qx U bk m j0 B) k=dL B k)
 |[],j0,B,_,_,k=> .inr ⟨λj h=>by simp at h,rfl⟩
 |x::m,j0,B,hB,hl,k=>by
  simp only[aM]at hl;have h0:dL B (jR bk j0)≠ad:=by have:=hB 0 (by simp);rwa [Nat.add_zero]at this
  have hB': ∀j,j<m.length->dL (qU B (jR bk j0) (aEK U bk x)) (jR bk (j0+1+j))≠ad:=by
   intro j hj;have:=hB (j+1) (by simpa using hj)
   rw[show j0+(j+1)=j0+1+j by omega]at this
   rw[kI];split
   .cases hh:dL B (jR bk j0)with
    |none=>exact(h0 hh).elim
    |some b=>exact λe=>by cases e
   .exact this
  rcases E8 hn m (j0+1) (qU B (jR bk j0) (aEK U bk x)) hB' (by omega) k with⟨j,y,h1,h2,h3⟩|⟨h1,h2⟩
  .exact .inl ⟨j+1,y,by rw[aT];exact h1,by rw[<-h2];congr 1;omega,h3⟩
  .by_cases hk:jR bk j0=k
   .refine .inl ⟨0,x,rfl,by rw[Nat.add_zero];exact hk,?_⟩
    rw[Qx,h2,kI,bI hk.symm];cases hh:dL B (jR bk j0)with
    |none=>exact(h0 hh).elim
    |some b=>rfl
   .refine .inr ⟨λj hj=>?_,?_⟩
    .cases j with
     |zero=>rw[Nat.add_zero];exact hk
     |succ j=>have:=h1 j (by simpa using hj);rwa [show j0+(j+1)=j0+1+j by omega]
    .rw[Qx,h2,kI,bH (λe=>hk e.symm)]
def a7a{bk:List Nat}{e:Ce}{x:BC U.D}(h:Di U (kJ c bk) p e x):Di U c p e (aEK U bk x):=by
 cases x with
 |bx s r=>
  obtain⟨id,cs,h1,h2,h3,h4⟩:=h;exact⟨id,cs,h1,h2,aC7 h3,h4⟩
 |row t l=>exact h
 |gone=>trivial
def MR.call(Mm:MR U q c0 c M p){bk:List Nat}(hn:bk.Nodup){m:List (BC U.D)}(hm:m.length=bk.length)(bn: ∀i,i<bk.length->dL M.bx (jR bk i)≠ad){p':PSt}
    (hb: ∀j x,m[j]?=aa x->∃e,kJ c bk j=aa e/\Di U (kJ c bk) p' e x) (lq:p'.next=p.next)
    (hg: ∀id,id<p.next->(∀j e,kJ c bk j=aa e->e.id≠aa id)->p'.get id=p.get id)
    (hg2: ∀id,id<p.next->id∉p'.dirty->p'.get id=p.get id)
    (hd: ∀id,id∈p'.dirty->id∈p.dirty∨∃j e,kJ c bk j=aa e/\e.id=aa id) (hd2: ∀id,id∈p.dirty->id∈p'.dirty)
    (hw: ∀id,id∈p'.wr->id∈p.wr∨∃j e,kJ c bk j=aa e/\e.id=aa id):
    MR U q c0 c ⟨Qx U bk m 0 M.bx,bk++M.wr⟩ p'/\(WR U c M p->WR U c ⟨Qx U bk m 0 M.bx,bk++M.wr⟩ p'):=by
 have df:=E8 hn m 0 M.bx (λj hj=>by rw[Nat.zero_add];exact bn j (by omega)) (by omega)
 simp only[Nat.zero_add]at df;have cck: ∀{j e},kJ c bk j=aa e->j<bk.length/\c (jR bk j)=aa e:=by
  intro j e h;unfold kJ at h;split at h
  .rename_i hj;exact⟨hj,h⟩
  .cases h
 have bor: ∀{j e id},kJ c bk j=aa e->e.id=aa id->id<q.next->∃k e,c0 k=aa e/\e.id=aa id:=by
  intro j e id h1 h2 h3;obtain⟨_,h4⟩:=cck h1;have hk:jR bk j<100:=by
   rcases b7 (jR bk j) 100 with h|h
   .exact h
   .have:=Mm.loc _ e id h4 h h2;omega
  exact⟨_,e,Mm.bor _ e h4 hk,h2⟩
 refine⟨⟨λk h=>?_,λk b h=>?_,λk e id h1 h2=>by rw[lq];exact Mm.lt k e id h1 h2,Mm.inj,by rw[lq];exact Mm.next,Mm.bor,Mm.loc,λid hi ho=>?_,λid hi bi=>?_,λid hi=>?_⟩,λhW id hi k e h1 h2=>?_⟩
 .simp only at h;rcases df k with⟨j,x,h1,h2,h3⟩|⟨h1,h2⟩
  .rw[h3]at h;cases h
  .rw[h2]at h;exact Mm.dom k h
 .simp only at h;rcases df k with⟨j,x,h1,h2,h3⟩|⟨h1,h2⟩
  .rw[h3]at h;cases h;obtain⟨e,g1,g2⟩:=hb j x h1;obtain⟨_,g3⟩:=cck g1;exact⟨e,by rw[<-h2];exact g3,a7a g2⟩
  .rw[h2]at h;obtain⟨e,g1,g2⟩:=Mm.bx k b h;refine⟨e,g1,yN g2 λid hid=>hg id (Mm.lt k e id g1 hid) λj e' h3 h4=>?_⟩
   obtain⟨g3,g4⟩:=cck h3;exact h1 j (by omega) (Mm.inj _ _ e' e id g4 g1 h4 hid)
 .rw[hg2 id (Nat.lt_of_lt_of_le hi Mm.next) ho]
  exact Mm.old id hi λh=>ho (hd2 id h)
 .rcases hd id hi with h|⟨j,e,h1,h2⟩
  .exact Mm.dirty id h bi
  .exact bor h1 h2 bi
 .rcases hw id hi with h|⟨j,e,h1,h2⟩
  .rw[lq];exact Mm.wr id h
  .rw[lq];exact⟨Mm.lt _ e id (cck h1).2 h2,λbi=>bor h1 h2 bi⟩
 .have happ: ∀{l l':List Nat},eA k (l++l')=(eA k l||eA k l'):=by
   intro l l';rw[Bool.eq_iff_iff,b9,jF,jF,jF,List.mem_append]
  show eA k (bk++M.wr)=ae;rw[happ,b9];rcases hw id hi with h|⟨j,e',h3,h4⟩
  .exact .inr (hW id h k e h1 h2)
  .obtain⟨h5,h6⟩:=cck h3;have:=Mm.inj _ _ e e' id h1 h6 h2 h4;left;rw[jF,this];exact ef (AQ bk j h5)
def aXs{bk:List Nat}{own:Bool}{l:List (V U)}{y:PV×Bool}(h:qB U (kJ c bk) (C6 U own l) y):qB U c (C6 U own l) y:=by
 unfold C6 at h⊢;split at h<;>exact h
def aCg{own:Bool}{l:List (V U)}{K:X U->Option W}(h:aCh U own l K=aa r):K (C6 U own l)=aa r:=by
 unfold aCh at h;split at h
 .rename_i v b;cases b<;>exact h
 .exact h
def aIo(hU:hQ U){tc:pX U.D}{pc:jB}(hc:iW U T tc pc){take:Bool}{inst:Nat}{bk:List Nat}{S:TS U.D}{S':PS}(F:lX U c S S'){cl:Call}{f:az}{K:X U->TS U.D->TM U.D->Option W}
    (fc:cl.callee= .value f) (h:IR U T tc take inst bk S M (jI U S f).1 cl.args.toList K=aa r) (Mm:MR U q c0 c M p):
    ∃x S2 M' v own p' g args,K x S2 M'=aa r/\sB take S' cl=aa (g,args)/\pc g args p=aa (v,own,p')/\qB U c x (v,own)/\lX U c S2 (lY take S' cl.args.toList).2/\MR U q c0 c M' p'/\(WR U c M p->WR U c M' p')/\p'.next=p.next:=by
 have rf:=(dD F f).1;unfold IR at h;split at h
 .rename_i g caps s hf hs;rw[hf]at rf;obtain⟨ps,e1,e2⟩:=rf;have e1:cQ S' f= .fn g [] ps:=e1;split at h
  .rename_i d e hd he;cases hb:am g s.f&&QY bk&&am bk.length s.bx.length with
   |false=>rw[hb]at h;cases h
   |true=>
    rw[hb]at h;simp only[aI]at h;simp only[aC,dN,aD]at hb;obtain⟨⟨hg,gi⟩,hlen⟩:=hb;have gi:=CF gi;obtain⟨out,x,h1,h2,h⟩:=aGn h;split at h
    .rename_i m hm;obtain⟨g1,g2⟩:=QH (take:=take) (args:=cl.args.toList) F;have g3:=CQ g2 (aA4 (take:=take) e2);obtain⟨k1,S0,k2,k3⟩:=HZ hU 0 e hd g3;obtain⟨M0,k4,k5,k6⟩:=BT Mm [] he (by omega)
     rw[bA]at k4;have hin:Gk U s (d++e) p (kJ c bk) ((lY take S' cl.args.toList).1++rG ps) S0 ⟨M0,[]⟩:=by
      refine⟨?_,k1,λi y hy=>?_,k5,λj hj=>?_,λj e id h1 h2=>?_,λk k' e e' id h1 h2 h3 h4=>?_,λid hi=>(Mm.wr id hi).1⟩
      .simp only[JN,cutOf,k2,k4]
      .have:=k3 i y hy;rwa [Nat.zero_add]at this
      .unfold kJ;rw[bH (by omega)]
      .unfold kJ at h1;split at h1
       .exact Mm.lt _ e id h1 h2
       .cases h1
      .unfold kJ at h1 h2;split at h1
       .rename_i hk;split at h2
        .rename_i gk;exact aOU gi hk gk (Mm.inj _ _ e e' id h1 h2 h3 h4)
        .cases h2
       .cases h1
     obtain⟨pv,own,p',j1,j2⟩:=hc inst s _ out hs h1 p (kJ c bk) _ S0 _ hin;have h:=aCg h;rw[h2]at hm h;obtain⟨m',j3,j4⟩:=j2.out;rw[hm]at j3;cases j3;obtain⟨j5,j6⟩:=Mm.call gi (m:=m) (by rw[vA hm,hlen]) (λi hi=>by have:=k6 i (by omega);rwa [Nat.zero_add]at this) j4 j2.next j2.get j2.get2 j2.dirty j2.dirty2 j2.wr
     refine⟨_,_,_,pv,own,p',s.f,_,h,?_,j1,aXs j2.res,g1,j5,j6,j2.next⟩
     simp only[sB,fc,e1,hg,rG,aW]
    .cases h
  .cases h
 .cases h
end
end Go.TV
namespace Go.TV
open Go.AI Go.PI
section
variable{P:aw}{U:hJ}{T:TP U.D}{c c0:Cx}{W:Type}{r:W}{q p:PSt}{M:TM U.D}
def Post(P:aw)(U:hJ)(pc:jB)(sq take:Bool)(o:Oper)(S':PS)(p q:PSt)(c0 c:Cx)(M:TM U.D)(K:X U->TS U.D->TM U.D->Option W)(r:W):Prop:=
 ∃c' x S2 M2 v own S2' p',K x S2 M2=aa r/\HQ P pc sq o take S' p=aa (v,own,S2',p')/\leC c c'/\qB U c' x (v,own)/\lX U c' S2 S2'/\MR U q c0 c' M2 p'/\(WR U c M p->WR U c' M2 p')/\p.next<=p'.next
def S4{take:Bool}{p p':PSt}{t:av}{a v:PV}{own:Bool}(h:uU P take p t a=aa (v,own,p')):p.next<=p'.next:=by
 have hm:(fX p a).1.next=p.next:=by
  unfold fX;split
  .split
   .split<;>rfl
   .rfl
  .rfl
 unfold uU at h;split at h
 .rename_i w _;cases hb:take&&C9 w with
  |true=>rw[hb]at h;simp only[aI,aA,aB]at h;rw[<-h.2.2,hm];exact aS _
  |false=>rw[hb]at h;simp only[aJ,aA,aB]at h;rw[<-h.2.2];exact aS _
 .cases h
def Qz{p p':PSt}{t:av}{a x:PV}{own:Bool}(h:oR P p t a x own=aa p'):p.next<=p'.next:=by
 unfold oR at h;simp only[Bool.cond_eq_ite]at h
 repeat' split at h
 all_goals first|(cases h;done)|(simp only[aA]at h;rw[<-h];exact aS _)
def uY{p p':PSt}{S':PS}{o:Oper}{v:PV}{own:Bool}(h:fB P p S' o=aa (v,own,p')):p.next<=p'.next:=by
 unfold fB at h;simp only[Bool.cond_eq_ite]at h
 repeat' split at h
 all_goals first|(cases h;done)|(simp only[aA,aB]at h;rw[<-h.2.2];first|exact aS _|exact Nat.le_succ _)
def FD{K:Nat->Option W}{m:Int}: ∀{f j0:Nat},a7l K m j0 f=aa r->∃j,j0<=j/\j<j0+f/\m=(j:Int)/\K j=aa r
 |0,_,h=>by cases h
 |f+1,j0,h=>by
  unfold a7l at h;by_cases e:m=(j0:Int)
  .rw[bF e]at h;exact⟨j0,aS _,by omega,e,h⟩
  .rw[bG e]at h;obtain⟨j,h1,h2,h3,h4⟩:=FD h;exact⟨j,by omega,by omega,h3,h4⟩
def HC(te:Ty): ∀j:Nat,eQ U (List.replicate j te)=j*dJ U te
 |0=>by simp[eQ]
 |j+1=>by
  rw[List.replicate_succ,Nat.succ_mul];simp only[eQ];rw[HC te j];omega
def aO4(hT:rQ P U T)(Mm:MR U q c0 c M p){t:av}{x:SV U.D}{v:PV}{K:X U->Option W}(h:aCM U M (T.T.ty t) x K=aa r)(ra:uO U c x v):
    ∃y w,K y=aa r/\C7 P t v=aa w/\qB U c y (w,ah):=by
 unfold aCM at h;split at h
 .rename_i k;split at h
  .rename_i e e' l ht hf;cases he:e.beq e' with
   |false=>rw[he]at h;cases h
   |true=>
    rw[he]at h;have:=Ty.beq_eq he;subst this;obtain⟨ce,g1,g2⟩:=ra;obtain⟨ce',g1',hn,hz,_⟩:=Mm.bx _ _ hf;rw[g1]at g1';cases g1';obtain⟨fm,hu,_⟩:=hT.un t _ ht;refine⟨_,i64 (l.length:Int),h,?_,iG _ _,bX _ _⟩;rcases g2 with⟨_,hn0,rfl|rfl⟩|⟨id,_,_,rfl⟩
    .simp only[C7,hu,aX];rw[<-hn,hn0]
    .simp only[C7,hu];rw[<-hn,hn0];rfl
    .simp only[C7,hu];rw[hn]
  .cases h
 .exact aO2 hT h ra
variable{pc:jB}{sq take:Bool}{o:Oper}{S:TS U.D}{S':PS}{K:X U->TS U.D->TM U.D->Option W}
def BL(Mm:MR U q c0 c M p)(hk:dG o= .pure){x:X U}{S2:TS U.D}{v:PV}{own:Bool}{S2':PS}(h:K x S2 M=aa r)(hp:dZ P take S' o=aa (v,own,S2'))(hx:qB U c x (v,own))(hF:lX U c S2 S2'):Post P U pc sq take o S' p q c0 c M K r:=
 ⟨c,x,S2,M,v,own,S2',p,h,by simp only[HQ,hk,Ei,hp,aK],leC.refl c,hx,hF,Mm,λhw=>hw,aS _⟩
def gD(Mm:MR U q c0 c M p)(F:lX U c S S')(hk:dG o= .pure){x:X U}{v:PV}(h:K x S M=aa r)(hp:dZ P take S' o=aa (v,ah,S'))(hx:qB U c x (v,ah)):Post P U pc sq take o S' p q c0 c M K r:=
 BL Mm hk h hp hx F
def RQ(F:lX U c S S'): ∀{l:List az} {ks:List Nat},RR U S l=aa ks->yY c ks (wks (l.map (cQ S')))
 |[],ks,h=>by simp only[RR,aA]at h;subst h;trivial
 |x::l,ks,h=>by
  unfold RR at h;split at h
  .rename_i k ks' hx hl;simp only[aA]at h;subst h;have h1:=(dD F x).1;rw[hx]at h1;obtain⟨e,id,g1,g2,g3⟩:=h1;have g3:cQ S' x= .ptr id 0:=g3;refine⟨⟨e,id,g1,g2,by rw[g3];rfl⟩,RQ F hl⟩
  .cases h
variable(hU:hQ U)(hT:rQ P U T)
include hU hT
def aGb{tc:pX U.D}(hc:iW U T tc pc)(F:lX U c S S')(Mm:MR U q c0 c M p){inst:Nat}{bk:List Nat}(h:CC U T tc sq take inst bk o S M K=aa r):Post P U pc sq take o S' p q c0 c M K r:=by
 obtain⟨dst,op,ty,pos,jj,ji⟩:=o;have mv: ∀(x:az),(bif take then K (jI U S x) (vM U S x) M else K (tM U (jI U S x)) S M)=aa r->(op= .move x∨op= .assign x)->Post P U pc sq take ⟨dst,op,ty,pos,jj,ji⟩ S' p q c0 c M K r:=by
  intro x h ho;cases take with
  |true=>
   refine BL Mm ?_ h (v:=cQ S' x) (own:=iC S' x) (S2':=mY S' x) ?_ (dD F x) (rM F x)
   .rcases ho with rfl|rfl<;>rfl
   .rcases ho with rfl|rfl<;>rfl
  |false=>
   refine gD Mm F ?_ h (v:=cQ S' x) ?_ (vP (dD F x))
   .rcases ho with rfl|rfl<;>rfl
   .rcases ho with rfl|rfl<;>rfl
 cases op with
 |move x=>exact mv x h (.inl rfl)
 |assign x=>exact mv x h (.inr rfl)
 |pick w a b=>
  simp only[CC]at h;split at h
  .rename_i wb hw;have h1:=(dD F w).1;rw[hw]at h1;have h1:=of_bool h1;have h1:cQ S' w= .v (.bool wb):=h1;obtain⟨x,h2,h3⟩:=aF3 h (dD F a) (dD F b);refine gD Mm F rfl h2 ?_ h3;simp only[dZ,h1];cases wb<;>rfl
  .cases h
 |build t parts=>
  simp only[CC]at h;split at h
  .rename_i n ht;split at h
   .rename_i l hl;obtain⟨x,hx,h⟩:=oK h;obtain⟨w,h1,h2⟩:=aIr hU hT F ht hl hx;exact gD Mm F rfl h (by simp only[dZ,h1,aK]) h2
   .cases h
  .cases h
 |nilCheck x=>
  simp only[CC]at h;have h1:=(dD F x).1;split at h
  .rename_i k off path hx;rw[hx]at h1;have h2:=h1;obtain⟨e,id,g1,g2,g3⟩:=h1;have g3:cQ S' x= .ptr id off:=g3;exact gD Mm F rfl h (v:= .ptr id off) (by simp only[dZ,g3]) ⟨⟨e,id,g1,g2,rfl⟩,bX _ _⟩
  .rename_i v hx;rw[hx]at h1;obtain⟨es,i,off,e,g1,g2,g3⟩:=h1;have g1:cQ S' x= .pin es i off:=g1;exact gD Mm F rfl h (v:= .pin es i off) (by simp only[dZ,g1]) ⟨⟨es,i,off,e,rfl,g2,g3⟩,bX _ _⟩
  .rename_i k i off path hx;rw[hx]at h1;obtain⟨e,id,g1,g2,g3,g4,g5⟩:=h1;have g5:cQ S' x= .ptr id (i.toNat*e.z+off):=g5;exact gD Mm F rfl h (v:= .ptr id (i.toNat*e.z+off)) (by simp only[dZ,g5]) ⟨⟨e,id,g1,g2,g3,g4,rfl⟩,bX _ _⟩
  .cases h
 |binOp op t x y t'=>
  simp only[CC]at h;obtain⟨v,w,h1,h2,h3⟩:=aQO hU hT (x:=x) (y:=y) h (aDF hU (dD F x).1) (aDF hU (dD F y).1);have h2:lA P op t x y (cQ S' x) (cQ S' y)=aa w:=h2;exact gD Mm F rfl h1 (by simp only[dZ,h2,aK]) ⟨h3,bX _ _⟩
 |unOp op t x=>
  simp only[CC]at h;obtain⟨v,w,h1,h2,h3⟩:=aWv (P:=P) h (dD F x).1;have h2:bCW P op (cQ S' x)=aa w:=h2;exact gD Mm F rfl h1 (by simp only[dZ,h2,aK]) ⟨h3,bX _ _⟩
 |convert s d x=>
  simp only[CC]at h;obtain⟨v,w,h1,h2,h3⟩:=aIc hT h (dD F x).1;rcases h3 with h3|⟨hs,h3,h4⟩
  .have h3:zD P s d (cQ S' x)=aa w:=h3;exact gD Mm F rfl h1 (by simp only[dZ,h3,aK]) ⟨h2,bX _ _⟩
  .have h3:zD P s d (cQ S' x)=ad:=h3;have h4:BN P s d (cQ S' x)=aa w:=h4;refine⟨c,_,S,M,w,ah,S',p,h1,?_,leC.refl c,⟨h2,bX _ _⟩,F,Mm,λhw=>hw,aS _⟩
   rw[hs];simp only[HQ,dG,Ei,dZ,h3,Option.map_none,aI,h4,aK]
 |makeFunc fn first captured=>
  simp only[CC]at h;split at h
  .rename_i f ks h1 h2;refine gD Mm F rfl h (v:= .fn f (wks (first.toList.map (cQ S'))) (wks (captured.toList.map (cQ S')))) rfl ⟨⟨_,?_,RQ F h2⟩,bX _ _⟩
   rw[h1];rfl
  .cases h
 |fieldAddr s x f=>
  simp only[CC]at h;have h1:=(dD F x).1;split at h
  .rename_i n k off path ht hx;rw[hx]at h1;obtain⟨e,id,g1,g2,g3⟩:=h1;have g3:cQ S' x= .ptr id off:=g3;cases hf:d8 f (U.fs n).length with
   |false=>rw[hf]at h;cases h
   |true=>
    rw[hf]at h;rw[gZ,aD]at hf;have:=(qG hU hT ht hf).1 id off;exact gD Mm F rfl h (by simp only[dZ,g3,this,aK]) ⟨⟨e,id,g1,g2,rfl⟩,bX _ _⟩
  .rename_i n v ht hx;rw[hx]at h1;cases hb:v.t.beq (.rc n)with
   |false=>rw[hb]at h;cases h
   |true=>
    rw[hb]at h;simp only[aI]at h;split at h
    .rename_i w hw;obtain⟨q1,h2,h3⟩:=Lm hU hT ht hb hw h1;have h2:hY P s (cQ S' x) f=aa q1:=h2;exact gD Mm F rfl h (by simp only[dZ,h2,aK]) ⟨h3,bX _ _⟩
    .cases h
  .rename_i n k i off path ht hx;rw[hx]at h1;obtain⟨e,id,g1,g2,g3,g4,g5⟩:=h1;have g5:cQ S' x= .ptr id (i.toNat*e.z+off):=g5;cases hf:d8 f (U.fs n).length with
   |false=>rw[hf]at h;cases h
   |true=>
    rw[hf]at h;rw[gZ,aD]at hf;have:=(qG hU hT ht hf).1 id (i.toNat*e.z+off);exact gD Mm F rfl h (v:= .ptr id (i.toNat*e.z+off+kF U n f)) (by simp only[dZ,g5,this,aK]) ⟨⟨e,id,g1,g2,g3,g4,by simp only[Nat.add_assoc]⟩,bX _ _⟩
  .cases h
 |field t x f=>
  simp only[CC]at h;have h1:=dD F x;split at h
  .rename_i n v rs ht hx;rw[hx]at h1;cases hb:v.t.beq (.rc n)with
   |false=>rw[hb]at h;cases h
   |true=>
    rw[hb]at h;simp only[aI]at h;split at h
    .rename_i w hw;obtain⟨q1,h2,h3⟩:=aHK hU hT ht hb hw h1;exact gD Mm F rfl h (by simp only[dZ,h2,aK]) h3
    .cases h
  .cases h
 |indexAddr t x i=>
  simp only[CC]at h;have h1:=(dD F x).1;have h2:=(dD F i).1;split at h
  .rename_i e e' l k n ht hx hi;rw[hx]at h1;rw[hi]at h2;have h2:cQ S' i= .v (.int k n):=iP h2;cases he:e.beq e' with
   |false=>rw[he]at h;cases h
   |true=>
    rw[he]at h;obtain⟨y,hy,h⟩:=oK h;obtain⟨q1,g1,g2⟩:=K5 hU hT (k:=k) ht he hy h1;have g1:gE P t (cQ S' x) (.v (.int k n))=aa q1:=g1;exact gD Mm F rfl h (by simp only[dZ,h2,g1,aK]) ⟨g2,bX _ _⟩
  .rename_i e kk k n ht hx hi;rw[hx]at h1;rw[hi]at h2;have h2:cQ S' i= .v (.int k n):=iP h2;split at h
   .rename_i e' l hf;cases he:e.beq e' with
    |false=>rw[he]at h;cases h
    |true=>
     rw[he]at h;have:=Ty.beq_eq he;subst this;obtain⟨hin,h⟩:=fJ h;obtain⟨ce,g1,g2⟩:=h1;obtain⟨ce',g1',hn,hz,_⟩:=Mm.bx _ _ hf;rw[g1]at g1';cases g1';obtain⟨fm,hu,gx,_⟩:=hT.un t _ ht;simp only[cR,aC,aD]at hin;rcases g2 with⟨_,hn0,_⟩|⟨id,g3,g4,g5⟩
     .have b1:(0:Int)<=n:=hin.1;have b2:(n:Int)<(l.length:Int):=hin.2;omega
     .have g5:cQ S' x= .rs id 0 ce.n:=g5;have hin':cR n ce.n=ae:=by rw[hn];simp only[cR,aC,aD];exact hin
      refine gD Mm F rfl h (v:= .ptr id (0+Int.toNat n*dJ U e)) ?_ ⟨⟨ce,id,g1,g3,hin.1,by rw[hn];exact hin.2,by rw[hz,Nat.zero_add,Nat.add_zero]⟩,bX _ _⟩
      simp only[dZ,h2,g5,gE,hu,hT.sz _ _ gx,hin',aI,aK]
   .cases h
  .rename_i n kk off pp k m ht hx hi;rw[hx]at h1;rw[hi]at h2;have h2:cQ S' i= .v (.int k m):=iP h2;cases ha:T.T.arr t with
   |false=>rw[ha]at h;cases h
   |true=>
    rw[ha]at h;obtain⟨j,_,hj,hm,h⟩:=FD h;obtain⟨len,e,te,hu,hz,hf⟩:=hT.arr t n ht ha;obtain⟨ce,id,g1,g2,g3⟩:=h1;have g3:cQ S' x= .ptr id off:=g3;rw[hf,List.length_replicate,Nat.zero_add]at hj;have hin:cR m len=ae:=by rw[hm];simp only[cR,aC,aD];omega
    have ho:kF U n j=j*dJ U te:=by rw[kF,hf,List.take_replicate,Nat.min_eq_left (by omega)];exact HC _ _
    refine gD Mm F rfl h (v:= .ptr id (off+Int.toNat m*dJ U te)) ?_ ⟨⟨ce,id,g1,g2,by rw[ho,hm];rfl⟩,bX _ _⟩
    simp only[dZ,h2,g3,gE,hu,hz,hin,aI,aK]
  .rename_i n v k m ht hx hi;rw[hx]at h1;rw[hi]at h2;have h2:cQ S' i= .v (.int k m):=iP h2;cases hb:(T.T.arr t&&v.t.beq (.rc n))with
   |false=>rw[hb]at h;cases h
   |true=>
    rw[hb]at h;rw[aC]at hb;rw[aI]at h;obtain⟨j,_,hj,hm,h5⟩:=FD h;clear h;subst hm;split at h5
    .rename_i w hw;obtain⟨q1,g2,g3⟩:=K6 (k:=k) hU hT ht hb.1 hb.2 hw h1;have g2:gE P t (cQ S' x) (.v (.int k (j:Int)))=aa q1:=g2;exact gD Mm F rfl h5 (by simp only[dZ,h2,g2,aK]) ⟨g3,bX _ _⟩
    .cases h5
  .cases h
 |index t x i=>
  simp only[CC]at h;have h1:=(dD F x).1;have h2:=(dD F i).1;split at h
  .rename_i s k n ht hx hi;rw[hx]at h1;rw[hi]at h2;have h2:cQ S' i= .v (.int k n):=iP h2;obtain⟨b,hb,h⟩:=oK h;have g1:=aG0 hT (k:=k) ht hb h1;have g1:BM P t (cQ S' x) (.v (.int k n))=aa (.v (.int .u8 (b.toNat:Int))):=g1;exact gD Mm F rfl h (by simp only[dZ,h2,g1,aK]) ⟨iG _ _,bX _ _⟩
  .cases h
 |extract x i=>
  simp only[CC]at h;have h1:=(dD F x).1;split at h
  .rename_i l hx;rw[hx]at h1;obtain⟨ps,g1,g2⟩:=h1;have g1:cQ S' x= .tup ps:=g1;split at h
   .rename_i v hv;have g3:ps[i]?=aa (dK U v.t v.x):=by rw[g2,List.getElem?_map,hv];rfl
    cases me:(take&&am i 0)with
    |false=>
     rw[me,aJ]at h;refine gD Mm F rfl h (by simp only[dZ,g1,me,aJ,g3,aK]) ⟨⟨aAV hU _ _,DG (tZ hU _ _)⟩,bX _ _⟩
    |true=>
     rw[me,aI]at h;have hi:=me;simp only[aC,dN,aD]at hi;obtain⟨_,rfl⟩:=hi;refine BL Mm rfl h (v:=dK U v.t v.x) (own:=iC S' x) (S2':=mY S' x) (by simp only[dZ,g1,me,aI,g3,aK]) ⟨⟨aAV hU _ _,DG (tZ hU _ _)⟩,?_⟩ (rM F x)
     cases cw:CI v.t with
     |false=>exact bX _ _
     |true=>
      intro o s hm;rcases(dD F x).2 o s hm with⟨ha,_⟩|⟨ho,_,hw,hs⟩
      .have ha:isAgg (cQ S' x)=ae:=ha;rw[g1]at ha;cases ha
      .have hw:(iC S' x||kN (cQ S' x))=ae:=hw;rw[g1,show kN (.tup ps)=ah from rfl,Bool.or_false]at hw
       have hg:gd (dK U v.t v.x)=ae:=by
        obtain⟨vt,vx⟩:=v;cases vt with
        |sl t=>exact eT _ _
        |_=>cases cw
       refine .inr ⟨ho,?_,by show(iC S' x||_)=ae;rw[hw];rfl,λ_=>BY hg⟩
       refine oO (U:=U) (v:=v) ⟨aAV hU _ _,DG (tZ hU _ _)⟩ ?_;cases gw:v.t with
       |rc n=>rw[gw]at cw;cases cw
       |_=>rfl
   .cases h
  .cases h
 |load t a=>
  simp only[CC]at h;obtain⟨x,M',v,own,p',h1,h2,h3,h4,h5⟩:=a3H hU hT h (dD F a).1 Mm;refine⟨c,x,S,M',v,own,S',p',h1,?_,leC.refl c,h3,F,h4,h5,S4 h2⟩;have:mX P p S' ⟨dst,.load t a,ty,pos,jj,ji⟩ take=aa (v,own,p'):=by
   simp only[mX];unfold uU at h2;exact h2
  simp only[HQ,dG,this,aK]
 |slice t x lo hi mx=>
  simp only[CC]at h;obtain⟨y,w,own,h1,h2,h3⟩:=aXp hT F (p:=p) h (dD F x).1;have h2:kZ P p t (cQ S' x) (lo.map (cQ S')) (hi.map (cQ S')) (mx.map (cQ S'))=aa (w,own):=h2;exact⟨c,y,S,M,w,own,S',p,h1,by simp only[HQ,dG,mX,h2,aK],leC.refl c,h3,F,Mm,λhw=>hw,aS _⟩
 |alloc t=>
  simp only[CC]at h;obtain⟨c',x,M',v,p',h1,h2,h3,h4,h5,h6⟩:=a7r hU hT (S':=S') (o:=⟨dst,.alloc t,ty,pos,jj,ji⟩) rfl h Mm;exact⟨c',x,S,M',v,ah,S',p',h1,by simp only[HQ,dG,h2,aK],h3,h4,T1 h3 F,h5,h6,uY h2⟩
 |box t x=>
  simp only[CC]at h;obtain⟨c',x,M',v,p',h1,h2,h3,h4,h5,h6⟩:=a63 hU F (P:=P) (o:=⟨dst,.box t x,ty,pos,jj,ji⟩) rfl h Mm;exact⟨c',x,S,M',v,ah,S',p',h1,by simp only[HQ,dG,h2,aK],h3,h4,T1 h3 F,h5,h6,uY h2⟩
 |buildSlice t len parts=>
  simp only[CC]at h;split at h
  .rename_i e ht;cases hb:an (len*dJ U e) 1000000 with
   |false=>rw[hb]at h;cases h
   |true=>
    rw[hb]at h;simp only[aI]at h;split at h
    .rename_i l hl;obtain⟨w,h1,h2⟩:=G4 hU hT F (p:=p) (o:=⟨dst,.buildSlice t len parts,ty,pos,jj,ji⟩) rfl ht hb hl;exact⟨c,_,S,M,w,ae,S',p,h,by simp only[HQ,dG,h1,aK],leC.refl c,h2,F,Mm,λhw=>hw,aS _⟩
    .cases h
  .cases h
 |makeSlice t l k=>
  simp only[CC]at h;obtain⟨c',x,M',v,own,p',h1,h2,h3,h4,h5,h6⟩:=a3d hU hT F (o:=⟨dst,.makeSlice t l k,ty,pos,jj,ji⟩) rfl h Mm;exact⟨c',x,S,M',v,own,S',p',h1,by simp only[HQ,dG,h2,aK],h3,h4,T1 h3 F,h5,h6,uY h2⟩
 |store t a x=>
  simp only[CC]at h;obtain⟨M',p',h1,h2,h3,h4⟩:=aXl hU hT h (dD F a).1 (dD F x) Mm;have h2:oR P p t (cQ S' a) (cQ S' x) (iC S' x)=aa p':=h2;exact⟨c,_,_,M',.und,ah,mY S' x,p',h1,by simp only[HQ,dG,GM,h2,aK],leC.refl c,⟨trivial,bX _ _⟩,rM F x,h3,h4,Qz h2⟩
 |call cl=>
  simp only[CC]at h;split at h
  .rename_i fc;split at h
   .rename_i t x ht hx;obtain⟨y,w,h1,h2,h3⟩:=aO4 hT Mm h (dD F x).1;have h2:C7 P t (cQ S' x)=aa w:=h2;exact gD Mm F (by simp only[dG,fc]) h1 (by simp only[dZ,fc,ht,hx,h2,aK]) h3
   .cases h
  .rename_i fc;split at h
   .rename_i x y hx;obtain⟨z,w,h1,h2,h3⟩:=aGH (P:=P) (ts:=cl.argTypes) (ty:=ty) h (dD F x).1 (dD F y).1;have h2:oH P ah cl.argTypes ty [cQ S' x,cQ S' y]=aa w:=h2;exact gD Mm F (by simp only[dG,fc]) h1 (by simp only[dZ,fc,hx,aO,List.map_nil,h2,aK]) h3
   .cases h
  .rename_i fc;split at h
   .rename_i x y hx;obtain⟨z,w,h1,h2,h3⟩:=aGH (P:=P) (ts:=cl.argTypes) (ty:=ty) h (dD F x).1 (dD F y).1;have h2:oH P ae cl.argTypes ty [cQ S' x,cQ S' y]=aa w:=h2;exact gD Mm F (by simp only[dG,fc]) h1 (by simp only[dZ,fc,hx,aO,List.map_nil,h2,aK]) h3
   .cases h
  .rename_i fc;split at h
   .rename_i s x hx;obtain⟨y,v,own,h1,h2,h3⟩:=a7m hU hT F h;exact⟨c,y,_,M,v,own,mY S' s,p,h1,by simp only[HQ,dG,fc,GM,hx,h2,aK],leC.refl c,h3,rM F s,Mm,λhw=>hw,aS _⟩
   .cases h
  .rename_i f fc;obtain⟨x,S2,M',v,own,p',g,args,h1,h2,h3,h4,h5,h6,h7,h8⟩:=aIo hU hc F fc h Mm;exact⟨c,x,S2,M',v,own,_,p',h1,by simp only[HQ,dG,fc,GM,h2,h3,aK],leC.refl c,h4,h5,h6,h7,by rw[h8];exact aS _⟩
  .cases h
 |_=>cases h
end
end Go.TV
namespace Go.TV
open Go.AI Go.PI
section
variable{P:aw}{U:hJ}{T:TP U.D}{c c0:Cx}{W:Type}{r:W}{q p:PSt}{M:TM U.D}{S:TS U.D}{S':PS}{pc:jB}
def ZB:qB U c (.tup [],[]) (.tup [],ah):=⟨⟨[],rfl,rfl⟩,bX _ _⟩
def aHu{ops:Array Oper}{o:Oper}{run skip:TS U.D->Option W}(h:a5T U ops o S run skip=aa r)(F:lX U c S S'):
    ∃S1,lX U c S1 S'/\((mO ops S' o=aa ae/\run S1=aa r)∨(mO ops S' o=aa ah/\skip S1=aa r)):=by
 unfold a5T at h;split at h
 .rename_i hg;exact⟨S,F,.inl ⟨by simp only[mO,hg],h⟩⟩
 .rename_i j want hg;split at h
  .cases h
  .rename_i d hd;have hs:=F d;split at h
   .rename_i b rr hx;rw[hx]at hs;have hb:(S'.at d).1= .v (.bool b):=of_bool hs.1;have hpw:mO ops S' o=aa (b==want):=by simp only[mO,hg,hd,aK,hb]
    have hF: ∀b',b=b'->lX U c ((d,(.val ⟨.bool,b'⟩,rr))::S) S':=λb' e=>Rh F (by rw[<-e];exact hs)
    rcases Fw h with⟨rfl,h⟩|⟨rfl,h⟩
    .cases want with
     |true=>exact⟨_,hF ae rfl,.inl ⟨hpw,h⟩⟩
     |false=>exact⟨_,hF ae rfl,.inr ⟨hpw,h⟩⟩
    .cases want with
     |true=>exact⟨_,hF ah rfl,.inr ⟨hpw,h⟩⟩
     |false=>exact⟨_,hF ah rfl,.inl ⟨hpw,h⟩⟩
   .rename_i rr hx;rw[hx]at hs;obtain⟨ps,e1,e2⟩:=hs.1;have hb:(S'.at d).1= .tup []:=by rw[e1,e2];rfl
    exact⟨S,F,.inr ⟨by simp only[mO,hg,hd,aK,hb],h⟩⟩
   .cases h
variable(hU:hQ U)(hT:rQ P U T)
include hU hT
def aA7{oA oI oS:Oper}{K:TS U.D->Option W}(h:US U T oA oI oS S K=aa r)(F:lX U c S S'):
    ∃S1 S1',K S1=aa r/\HT P S' oA oI oS=aa S1'/\lX U c S1 S1':=by
 unfold US at h;split at h
 .rename_i cl a t1 a' n b t2 b' x e1 e2 e3 e4 e5 e6;split at h
  .rename_i s zz e7 e8;cases hb:am a a'&&am b b'&& !Nat.beq a b&& !PP a n&& !PP a x&& !PP b x&&oA.guard.isNone&&oI.guard.isNone&&oS.guard.isNone with
   |false=>rw[hb]at h;cases h
   |true=>
    rw[hb]at h;simp only[aI]at h;obtain⟨y,w,v,h1,h2,h3,h4⟩:=aQW hU hT F h;refine⟨_,((mY S' s).put (aa a) v ae).put (aa b) (aCB v) ah,h1,by simp only[HT,e1,e2,e3,e4,e5,e6,e7,e8,hb,aI,h2,aK],?_⟩
    exact sP (sP (rM F s) h3) ⟨h4,bX _ _⟩
  .cases h
 .cases h
def runT_ok{tc:pX U.D}(hc:iW U T tc pc){ops:Array Oper}{K:TS U.D->TM U.D->Option W}: ∀(sc:List TStep) (S:TS U.D) (M:TM U.D) (S':PS) (p:PSt) (c:Cx),lX U c S S'->MR U q c0 c M p->zW U T tc ops sc S M K=aa r->
    ∃c' S1 M1 S1' p',K S1 M1=aa r/\yO P pc ops (sc.map TStep.un) S' p=aa (S1',p')/\leC c c'/\lX U c' S1 S1'/\MR U q c0 c' M1 p'/\p.next<=p'.next
 |[],S,M,S',p,c,F,Mm,h=>⟨c,S,M,S',p,h,rfl,leC.refl c,F,Mm,aS _⟩
 | .app a i s::rest,S,M,S',p,c,F,Mm,h=>by
  unfold zW at h;split at h
  .rename_i oA oI oS e1 e2 e3;obtain⟨S1,S1',h1,h2,h3⟩:=aA7 hU hT h F;obtain⟨c',S2,M2,S2',p',g1,g2,g3⟩:=runT_ok hc rest S1 M S1' p c h3 Mm h1;refine⟨c',S2,M2,S2',p',g1,?_,g3⟩;simp only[aO,TStep.un,yO,e1,e2,e3,h2,g2]
  .cases h
 | .freeze t::rest,S,M,S',p,c,F,Mm,h=>by
  unfold zW at h;split at h
  .rename_i R hR;obtain⟨S1',p1,h1,h2,h3,h4⟩:=TZ hU F hR Mm;obtain⟨c',S2,M2,S2',p',g1,g2,g3,g4,g5,g6⟩:=runT_ok hc rest R.1 R.2 S1' p1 c h2 h3 h;refine⟨c',S2,M2,S2',p',g1,?_,g3,g4,g5,Nat.le_trans (pfreeze_next h1) g6⟩;simp only[aO,TStep.un,yO,h1,g2]
  .cases h
 | .op i take inst bk::rest,S,M,S',p,c,F,Mm,h=>by
  unfold zW at h;split at h
  .cases h
  .rename_i o ho;obtain⟨S0,F0,h|h⟩:=aHu h F
   .obtain⟨hw,h⟩:=h;obtain⟨c1,x,S1,M1,v,own,S1',p1,h1,h2,h3,h4,h5,h6,_,h7⟩:=aGb hU hT hc F0 Mm h;obtain⟨c',S2,M2,S2',p',g1,g2,g3,g4,g5,g6⟩:=runT_ok hc rest _ M1 _ p1 c1 (A8 h5 h4) h6 h1;refine⟨c',S2,M2,S2',p',g1,?_,leC.trans h3 g3,g4,g5,Nat.le_trans h7 g6⟩;simp only[aO,TStep.un,yO,ho,hw,h2,g2]
   .obtain⟨hw,h⟩:=h;obtain⟨c',S2,M2,S2',p',g1,g2,g3⟩:=runT_ok hc rest _ M _ p c (A8 F0 ZB) Mm h;refine⟨c',S2,M2,S2',p',g1,?_,g3⟩;simp only[aO,TStep.un,yO,ho,hw,g2]
where
 pfreeze_next {p p1:PSt} {S' S1':PS} {t:Nat} (h:kB p S' t=aa (S1',p1)):p.next<=p1.next:=by
  unfold kB at h;split at h
  .rename_i R hR;cases h;unfold bF5 at hR;simp only[Bool.cond_eq_ite]at hR
   repeat' split at hR
   all_goals first|(cases hR;done)|(simp only[aA]at hR;rw[<-hR];exact aS _)
  .cases h
def aAh(c:Cx):List PW->List jU->Prop
 |[],[]=>True
 |x::l,y::l'=>(x.i=y.i/\x.stale=y.stale/\x.mr=lC y.o/\(x.mr=ah->∃e id,c x.k=aa e/\e.id=aa id/\aNp y.o y.a y.v=aa id))/\aAh c l l'
 |_,_=>False
omit hU hT in
def To{c c':Cx}(h:leC c c'): ∀{l:List PW} {l':List jU},aAh c l l'->aAh c' l l'
 |[],[],_=>trivial
 |x::l,y::l',⟨⟨h1,h2,h3,h4⟩,h5⟩=>⟨⟨h1,h2,h3,λe=>by obtain⟨a,id,g1,g2⟩:=h4 e;exact⟨a,id,h _ _ g1,g2⟩⟩,To h h5⟩
 |[],_::_,hh=>hh.elim
 |_::_,[],hh=>hh.elim
omit hU hT in
def Dr(hw:WR U c M p): ∀{l:List PW} {l':List jU},aAh c l l'->KO M.wr l=ae->l'.all (qE P p)=ae
 |[],[],_,_=>rfl
 |x::l,y::l',⟨⟨h1,h2,h3,h4⟩,h5⟩,h=>by
  simp only[KO,aC,b9,Bool.not_eq_true']at h;rw[aP,Dr hw h5 h.2,bE];unfold qE;rw[<-h2];rcases h.1 with h6|⟨h6,h7⟩
  .rw[h6];rfl
  .obtain⟨e,id,g1,g2,g3⟩:=h4 h6;have:aA1 p (aNp y.o y.a y.v)=ae:=by
    rw[g3];simp only[aA1,Bool.not_eq_true',<-Bool.not_eq_true];intro hm;have:=hw id (by simpa using hm) x.k e g1 g2
    rw[h7]at this;cases this
   rw[this,Bool.true_or,Bool.or_true]
 |[],_::_,hh,_=>hh.elim
 |_::_,[],hh,_=>hh.elim
omit hU hT in
def DN{ms:List Nat}{i:Nat}{ap:Bool}: ∀{l:List PW} {l':List jU},aAh c l l'->aAh c (G8 ms i ap l) ((l'.filter λr=> !lI (ms.getD i 0) r.i).map λr=>bif ap&& !lC r.o then r else{r with stale:=ae})
 |[],[],_=>trivial
 |x::l,y::l',⟨⟨h1,h2,h3,h4⟩,h5⟩=>by
  have ih:=DN (ms:=ms) (i:=i) (ap:=ap) h5;simp only[G8,List.filter_cons,h1];cases hb:lI (ms.getD i 0) y.i with
  |true=>simpa using ih
  |false=>
   simp only[Bool.not_false,if_true,aJ,aO];refine⟨?_,ih⟩;rw[<-h3];cases ap&& !x.mr with
   |true=>simp only[aI];exact⟨h1,h2,h3,h4⟩
   |false=>simp only[aJ];exact⟨trivial,trivial,h3,h4⟩
 |[],_::_,hh=>hh.elim
 |_::_,[],hh=>hh.elim
omit hU hT in
def QQ{ms:List Nat}{i:Nat}: ∀{l:List PW} {l':List jU},aAh c l l'->aAh c (QR ms i l) (l'.filter λr=> !lI (ms.getD i 0) r.i)
 |[],[],_=>trivial
 |x::l,y::l',⟨⟨h1,h2,h3,h4⟩,h5⟩=>by
  have ih:=QQ (ms:=ms) (i:=i) h5;simp only[QR,List.filter_cons,h1];cases hb:lI (ms.getD i 0) y.i with
  |true=>simpa using ih
  |false=>exact⟨⟨h1,h2,h3,h4⟩,ih⟩
 |[],_::_,hh=>hh.elim
 |_::_,[],hh=>hh.elim
omit hU hT in
def aAv{ms:List Nat}{i:Nat}: ∀{l:List PW} {l':List jU},aAh c l l'->aGx ms i l=ae->(l'.filter λr=> !lI (ms.getD i 0) r.i).all (λr=> !lC r.o)=ae
 |[],[],_,_=>rfl
 |x::l,y::l',⟨⟨h1,h2,h3,h4⟩,h5⟩,h=>by
  simp only[aGx,aC,b9,Bool.not_eq_true']at h;have ih:=aAv (ms:=ms) (i:=i) h5 h.2;rw[List.filter_cons];cases hb:lI (ms.getD i 0) y.i with
  |true=>simpa using ih
  |false=>
   rw[h1,hb]at h;rcases h.1 with h6|h6
   .cases h6
   .simp only[Bool.not_false,if_true,aP,ih,bE];rw[<-h3,h6];rfl
 |[],_::_,hh,_=>hh.elim
 |_::_,[],hh,_=>hh.elim
omit hU hT in
def a2x{o:Oper}{x:X U}{i:Nat}{pend gp:List PW}{pl:List jU}{v:PV}{own:Bool}{c':Cx}(h:a2y U o S x i pend=aa gp)(F:lX U c S S')(hl:leC c c')(hx:qB U c' x (v,own))(hp:aAh c' pend pl):
    aAh c' gp (bif kG o S' then⟨i,o,pG o S',v,ah⟩::pl else pl):=by
 obtain⟨dst,op,ty,pos,jj,ji⟩:=o;have other:(∀t a,op≠ .load t a)->kG ⟨dst,op,ty,pos,jj,ji⟩ S'=ah->a2y U ⟨dst,op,ty,pos,jj,ji⟩ S x i pend=aa pend->aAh c' gp (bif kG ⟨dst,op,ty,pos,jj,ji⟩ S' then⟨i,⟨dst,op,ty,pos,jj,ji⟩,pG ⟨dst,op,ty,pos,jj,ji⟩ S',v,ah⟩::pl else pl):=by
  intro _ h1 h2;rw[h2]at h;cases h;rw[h1];exact hp
 have box: ∀(k:Nat),(∃off pq,x.1= .lc k off pq)->kG ⟨dst,op,ty,pos,jj,ji⟩ S'=ae->lC ⟨dst,op,ty,pos,jj,ji⟩=ah->(∀a w,aNp ⟨dst,op,ty,pos,jj,ji⟩ a w=vid w)->aAh c' (⟨i,k,ah,ah⟩::pend) (bif kG ⟨dst,op,ty,pos,jj,ji⟩ S' then⟨i,⟨dst,op,ty,pos,jj,ji⟩,pG ⟨dst,op,ty,pos,jj,ji⟩ S',v,ah⟩::pl else pl):=by
  intro k ⟨off,pq,hk⟩ h1 h2 h3;rw[h1];have h4:=hx.1;rw[hk]at h4;obtain⟨e,id,g1,g2,g3⟩:=h4;have g3:v= .ptr id off:=g3;exact⟨⟨rfl,rfl,h2.symm,λ_=>⟨e,id,g1,g2,by simp only[h3];rw[g3];rfl⟩⟩,hp⟩
 cases op with
 |load t a=>
  have h1:=(dD F a).1;simp only[a2y]at h;split at h
  .rename_i k off pq ha;rw[ha]at h1;obtain⟨e,id,g1,g2,g3⟩:=h1;have g3:cQ S' a= .ptr id off:=g3;cases h;simp only[kG,g3,aI];exact⟨⟨rfl,rfl,rfl,λ_=>⟨e,id,hl _ _ g1,g2,by simp only[aNp,pG,g3,a81]⟩⟩,hp⟩
  .rename_i k ii off pq ha;rw[ha]at h1;obtain⟨e,id,g1,g2,_,_,g3⟩:=h1;have g3:cQ S' a= .ptr id (ii.toNat*e.z+off):=g3;cases h;simp only[kG,g3,aI];exact⟨⟨rfl,rfl,rfl,λ_=>⟨e,id,hl _ _ g1,g2,by simp only[aNp,pG,g3,a81]⟩⟩,hp⟩
  .rename_i w ha;rw[ha]at h1;obtain⟨es,ii,off,e,g1,_⟩:=h1;have g1:cQ S' a= .pin es ii off:=g1;cases h;simp only[kG,g1,aJ];exact hp
  .cases h
 |alloc t=>
  simp only[a2y]at h;split at h
  .rename_i k off pq hk;cases h;exact box k ⟨off,pq,hk⟩ rfl rfl λ_ _=>rfl
  .cases h
 |box t y=>
  simp only[a2y]at h;split at h
  .rename_i k off pq hk;cases h;exact box k ⟨off,pq,hk⟩ rfl rfl λ_ _=>rfl
  .cases h
 |makeSlice t l k=>
  simp only[a2y,aA]at h;subst h;exact⟨⟨rfl,rfl,rfl,λe=>by cases e⟩,hp⟩
 |_=>exact other (λ_ _ e=>by cases e) rfl rfl
def qY{tc:pX U.D}(hc:iW U T tc pc){ops:Array Oper}{ms:List Nat}{K:TS U.D->TM U.D->Option W}: ∀(sc:List TStep) (pend:List PW) (pl:List jU) (S:TS U.D) (M:TM U.D) (S':PS) (p:PSt) (c:Cx),lX U c S S'->MR U q c0 c M p->WR U c M p->aAh c pend pl->
    mV U T tc ops ms sc pend S M K=aa r->
    ∃c' S1 M1 S1' p',K S1 M1=aa r/\kM P pc ops ms (sc.map TStep.un) pl S' p=aa (S1',p')/\leC c c'/\lX U c' S1 S1'/\MR U q c0 c' M1 p'/\p.next<=p'.next
 |[],pend,pl,S,M,S',p,c,F,Mm,β,Pd,h=>by
  unfold mV at h;cases hb:KO M.wr pend with
  |false=>rw[hb]at h;cases h
  |true=>
   rw[hb]at h;exact⟨c,S,M,S',p,h,by simp only[List.map_nil,kM,Dr β Pd hb,aI],leC.refl c,F,Mm,aS _⟩
 | .app a i s::rest,pend,pl,S,M,S',p,c,F,Mm,β,Pd,h=>by
  unfold mV at h;split at h
  .rename_i oA oI oS e1 e2 e3;obtain⟨S1,S1',h1,h2,h3⟩:=aA7 hU hT h F;cases hb:KO M.wr pend&&aGx ms a pend with
   |false=>rw[hb]at h1;cases h1
   |true=>
    rw[hb]at h1;simp only[aC]at hb;have hpd:=QQ (ms:=ms) (i:=s) (DN (ms:=ms) (i:=a) (ap:=ae) Pd);obtain⟨c',S2,M2,S2',p',g1,g2,g3⟩:=qY hc rest _ _ S1 M S1' p c h3 Mm β hpd h1;refine⟨c',S2,M2,S2',p',g1,?_,g3⟩;simp only[aO,TStep.un,kM,e1,e2,e3,h2,Dr β Pd hb.1,aAv Pd hb.2,Bool.and_self,aI];simpa using g2
  .cases h
 | .freeze t::rest,pend,pl,S,M,S',p,c,F,Mm,β,Pd,h=>by
  unfold mV at h;split at h
  .rename_i R hR;obtain⟨S1',p1,h1,h2,h3,h4⟩:=TZ hU F hR Mm;obtain⟨c',S2,M2,S2',p',g1,g2,g3,g4,g5,g6⟩:=qY hc rest pend pl R.1 R.2 S1' p1 c h2 h3 (h4 β) Pd h;refine⟨c',S2,M2,S2',p',g1,?_,g3,g4,g5,Nat.le_trans (runT_ok.pfreeze_next h1) g6⟩;simp only[aO,TStep.un,kM,h1,g2]
  .cases h
 | .op i take inst bk::rest,pend,pl,S,M,S',p,c,F,Mm,β,Pd,h=>by
  unfold mV at h;split at h
  .cases h
  .rename_i o ho;obtain⟨S0,F0,h|h⟩:=aHu h F
   .obtain⟨hw,h⟩:=h;obtain⟨c1,x,S1,M1,v,own,S1',p1,h1,h2,h3,h4,h5,h6,hW,h7⟩:=aGb hU hT hc F0 Mm h;cases he:kP o with
    |true=>
     rw[he]at h1;simp only[aI]at h1;cases hb:KO M.wr pend with
     |false=>rw[hb]at h1;cases h1
     |true=>
      rw[hb]at h1;have hpd:=DN (ms:=ms) (i:=i) (ap:=oW o) (To h3 Pd);obtain⟨c',S2,M2,S2',p',g1,g2,g3,g4,g5,g6⟩:=qY hc rest _ _ _ M1 _ p1 c1 (A8 h5 h4) h6 (hW β) hpd h1;refine⟨c',S2,M2,S2',p',g1,?_,leC.trans h3 g3,g4,g5,Nat.le_trans h7 g6⟩;simp only[aO,TStep.un,kM,ho,hw,h2,he,Dr β Pd hb,aI];exact g2
    |false=>
     rw[he]at h1;simp only[aJ]at h1;split at h1
     .rename_i gp hpe;have hpd:=a2x hpe F0 h3 h4 (To h3 Pd);obtain⟨c',S2,M2,S2',p',g1,g2,g3,g4,g5,g6⟩:=qY hc rest _ _ _ M1 _ p1 c1 (A8 h5 h4) h6 (hW β) hpd h1;refine⟨c',S2,M2,S2',p',g1,?_,leC.trans h3 g3,g4,g5,Nat.le_trans h7 g6⟩;simp only[aO,TStep.un,kM,ho,hw,h2,he,aJ];exact g2
     .cases h1
   .obtain⟨hw,h⟩:=h;obtain⟨c',S2,M2,S2',p',g1,g2,g3⟩:=qY hc rest pend pl _ M _ p c (A8 F0 ZB) Mm β Pd h;refine⟨c',S2,M2,S2',p',g1,?_,g3⟩;simp only[aO,TStep.un,kM,ho,hw,g2]
end
end Go.TV
namespace Go.TV
open Go.AI Go.PI
section
variable{P:aw}{U:hJ}{T:TP U.D}{c c0:Cx}{W:Type}{r:W}{q p:PSt}{M:TM U.D}{S:TS U.D}{S':PS}{pc:jB}
def Ss(c:Cx)(l:List Nat):Cx:=λk=>bif eA k l then c k else ad
def Et{c:Cx}{l:List Nat}{k:Nat}{e:Ce}(h:Ss c l k=aa e):c k=aa e/\eA k l=ae:=by
 unfold Ss at h;cases hb:eA k l with
 |true=>rw[hb]at h;exact⟨h,rfl⟩
 |false=>rw[hb]at h;cases h
def Er{c:Cx}{l:List Nat}{k:Nat}{e:Ce}(h:c k=aa e)(hm:eA k l=ae):Ss c l k=aa e:=by
 unfold Ss;rw[hm];exact h
def MS{l:List Nat}: ∀{caps:List Nat} {ps:List PV},Cc caps l=ae->yY c caps ps->yY (Ss c l) caps ps
 |[],[],_,_=>trivial
 |k::ks,x::ps,h,⟨⟨e,id,h1,h2,h3⟩,h4⟩=>by
  simp only[Cc,aC]at h;exact⟨⟨e,id,Er h1 h.1,h2,h3⟩,MS h.2 h4⟩
 |[],_::_,_,h=>h.elim
 |_::_,[],_,h=>h.elim
def HA: ∀{l:List (V U)} {ts:List Ty},HB U l ts=ae->l.length=ts.length
 |[],[],_=>rfl
 |v::l,t::ts,h=>by
  simp only[HB,aC]at h;simp only[aM,HA h.2]
 |[],_::_,h=>by cases h
 |_::_,[],h=>by cases h
def aPo(hU:hQ U){l:List Nat}{sh:Sh}{s:SV U.D}{d:List (V U)}{pv:PV}(h:yW U l sh s=aa d)(r:uO U c s pv):
    ∃s',(∀rest,SK U sh (d++rest)=aa (s',rest))/\uO U (Ss c l) s' pv:=by
 cases sh with
 |val t=>
  simp only[yW]at h;split at h
  .rename_i v hv;cases h;obtain⟨h1,h2⟩:=lK hU hv r;refine⟨.val v,λrest=>?_,h2⟩
   simp only[aR,SK,h1,Ty.beq_rfl,aI]
  .cases h
 |tup ts=>
  cases s with
  |tup vs=>
   simp only[yW]at h;cases hb:HB U vs ts with
   |false=>rw[hb]at h;cases h
   |true=>
    rw[hb]at h;simp only[aI,aA]at h;subst h;refine⟨.tup vs,λrest=>?_,r⟩
    have:=HA hb;simp only[SK,<-this,List.take_left,List.drop_left,hb,aI]
  |_=>cases h
 |nl=>
  cases s with
  |nl=>simp only[yW,aA]at h;subst h;exact⟨.nl,λrest=>rfl,r⟩
  |_=>cases h
 |lc k off path=>
  cases s with
  |lc k' fq mn=>
   simp only[yW]at h;cases hb:am k k'&&am off fq&&yX path mn&&eA k l with
   |false=>rw[hb]at h;cases h
   |true=>
    rw[hb]at h;simp only[aI,aA]at h;subst h;simp only[aC,dN,aD]at hb;obtain⟨⟨⟨rfl,rfl⟩,_⟩,hm⟩:=hb;obtain⟨e,id,g1,g2,g3⟩:=r;exact⟨.lc k off path,λrest=>rfl,e,id,Er g1 hm,g2,g3⟩
  |_=>cases h
 |ep t=>
  cases s with
  |ep v=>
   simp only[yW]at h;cases hb:v.t.beq t with
   |false=>rw[hb]at h;cases h
   |true=>
    rw[hb]at h;simp only[aI,aA]at h;subst h;refine⟨.ep v,λrest=>?_,r⟩
    simp only[aR,SK,hb,aI]
  |_=>cases h
 |rw k=>
  cases s with
  |rw k'=>
   simp only[yW]at h;cases hb:am k k'&&eA k l with
   |false=>rw[hb]at h;cases h
   |true=>
    rw[hb]at h;simp only[aI,aA]at h;subst h;simp only[aC,dN,aD]at hb;obtain⟨rfl,hm⟩:=hb;obtain⟨e,g1,g2⟩:=r;exact⟨.rw k,λrest=>rfl,e,Er g1 hm,g2⟩
  |_=>cases h
 |cl f caps=>
  cases s with
  |cl f' cm=>
   simp only[yW]at h;cases hb:am f f'&&yX caps cm&&Cc caps l with
   |false=>rw[hb]at h;cases h
   |true=>
    rw[hb]at h;simp only[aI,aA]at h;subst h;simp only[aC,dN,aD]at hb;obtain⟨⟨rfl,h2⟩,hm⟩:=hb;have:=xJ h2;subst this;obtain⟨ps,g1,g2⟩:=r;exact⟨.cl f caps,λrest=>rfl,ps,g1,MS hm g2⟩
  |_=>cases h
 |nf=>
  cases s with
  |nf=>simp only[yW,aA]at h;subst h;exact⟨.nf,λrest=>rfl,r⟩
  |_=>cases h
 |row t=>cases h
 |no=>simp only[yW,aA]at h;subst h;exact⟨.no,λrest=>rfl,trivial⟩
def aAM(hU:hQ U){bl:List Nat}(F:lX U c S S'): ∀{l:List (Nat×Sh×jC)} {d:List (V U)} (rest:List (V U)),aHF U bl S l=aa d->
    ∃S0,aDw U l (d++rest)=aa (S0,rest)/\lX U (Ss c bl) S0 (keeps S' (l.map (·.1)))
 |[],d,rest,h=>by
  simp only[aHF,aA]at h;subst h;exact⟨[],rfl,λt=>⟨trivial,bX _ _⟩⟩
 |(t,s,rr)::l,d,rest,h=>by
  unfold aHF at h;split at h
  .rename_i a d' ha hd;cases hb:leR rr (lW S t).2 with
   |false=>rw[hb]at h;cases h
   |true=>
    rw[hb]at h;simp only[aI,aA]at h;subst h;obtain⟨s',h1,h2⟩:=aPo hU ha (F t).1;obtain⟨S0,h3,h4⟩:=aAM hU F rest hd;refine⟨(t,(s',rr))::S0,?_,?_⟩
    .rw[aQ];simp only[aDw,h1,h3]
    .exact sP h4 ⟨h2,a0x hb (F t).2⟩
  .cases h
def UL{bl:List Nat}{sh:Sh}{s:SV U.D}{d:List (V U)}{cs:List (PV×Bool)}(h:yW U bl sh s=aa d)(hn:sh≠ .no)(r:Aj U c s cs):
    ∃s',(∀rest,SK U sh (d++rest)=aa (s',rest))/\Aj U (Ss c bl) s' cs:=by
 cases sh with
 |val t=>
  simp only[yW]at h;split at h
  .rename_i v hv;cases h;cases s with
   |val w=>
    simp only[IV]at hv;cases hb:w.t.beq t with
    |false=>rw[hb]at hv;cases hv
    |true=>
     rw[hb]at hv;cases hv;refine⟨.val v,λrest=>?_,r⟩
     simp only[aR,SK,hb,aI]
   |nl=>exact r.elim
   |zr _=>exact r.elim
   |_=>cases hv
  .cases h
 |cl f caps=>
  cases s with
  |cl f' cm=>
   simp only[yW]at h;cases hb:am f f'&&yX caps cm&&Cc caps bl with
   |false=>rw[hb]at h;cases h
   |true=>
    rw[hb]at h;simp only[aI,aA]at h;subst h;simp only[aC,dN,aD]at hb;obtain⟨⟨rfl,h2⟩,hm⟩:=hb;have:=xJ h2;subst this;obtain⟨pv,b,g0,ps,g1,g2⟩:=r;exact⟨.cl f caps,λrest=>rfl,pv,b,g0,ps,g1,MS hm g2⟩
  |_=>cases h
 |nf=>
  cases s with
  |nf=>simp only[yW,aA]at h;subst h;exact⟨.nf,λrest=>rfl,r⟩
  |_=>cases h
 |no=>exact(hn rfl).elim
 |row t=>cases h
 |tup ts=>cases s<;>first|exact r.elim|cases h
 |nl=>cases s<;>first|exact r.elim|cases h
 |lc k off path=>cases s<;>first|exact r.elim|cases h
 |ep t=>cases s<;>first|exact r.elim|cases h
 |rw k=>cases s<;>first|exact r.elim|cases h
def aAN(Mm:MR U q c0 c M p){bl:List Nat}: ∀{l:List (Nat×Sh×jC)} {d:List (V U)} (rest:List (V U)),aCV U bl M.bx l=aa d->(∀k,eA k (l.map (·.1))=ae->eA k bl=ae)->
    ∃M0,C3 U l (d++rest)=aa (M0,rest)/\(∀k,dL M0 k=ad->eA k (l.map (·.1))=ah)/\(∀k b,dL M0 k=aa b->∃e,Ss c bl k=aa e/\Di U (Ss c bl) p e b)
 |[],d,rest,h,_=>by
  simp only[aCV,aA]at h;subst h;exact⟨[],rfl,λ_ _=>rfl,λk b h=>by cases h⟩
 |(k,s,rr)::l,d,rest,h,hl=>by
  have fa: ∀k,eA k (l.map (·.1))=ae->eA k bl=ae:=λj hj=>hl j (by simp only[aO,eA,hj,Bool.or_true])
  have hk:eA k bl=ae:=hl k (by simp only[aO,eA,Nat.beq_refl,Bool.true_or])
  have fin: ∀(dv dl:List (V U)) (b:BC U.D),aCV U bl M.bx l=aa dl->d=dv++dl->(∀M1,C3 U l (dl++rest)=aa (M1,rest)->C3 U ((k,s,rr)::l) (dv++(dl++rest))=aa ((k,b)::M1,rest))->(∃e,Ss c bl k=aa e/\Di U (Ss c bl) p e b)->
        ∃M0,C3 U ((k,s,rr)::l) (d++rest)=aa (M0,rest)/\(∀j,dL M0 j=ad->eA j (((k,s,rr)::l).map (·.1))=ah)/\(∀j b,dL M0 j=aa b->∃e,Ss c bl j=aa e/\Di U (Ss c bl) p e b):=by
   intro dv dl b hd he hu hb;obtain⟨M1,h1,h2,h3⟩:=aAN Mm rest hd fa;refine⟨(k,b)::M1,by rw[he,aQ];exact hu M1 h1,λj hj=>?_,λj b' hj=>?_⟩
   .rw[gP]at hj;by_cases e1:j=k
    .rw[bI e1]at hj;cases hj
    .rw[bH e1]at hj;simp only[aO,eA,h2 j hj,Bool.or_false];exact aDe λe=>e1 e.symm
   .rw[gP]at hj;by_cases e1:j=k
    .rw[bI e1]at hj;simp only[aA]at hj;subst hj;rw[e1];exact hb
    .rw[bH e1]at hj;exact h3 j b' hj
  unfold aCV at h;split at h
  .rename_i cont rs d' hf hd;obtain⟨e,he,id,cs,hid,bc,hcs,kx⟩:=Mm.bx k _ hf;split at h
   .cases h
   .cases h
   .rename_i s0 pi hnn;split at h
    .rename_i a ha;cases hb:leR rr rs with
     |false=>rw[hb]at h;cases h
     |true=>
      rw[hb]at h;simp only[aI,aA]at h;obtain⟨s',g1,g2⟩:=UL ha (λe=>hnn e) hcs
      have hun: ∀M1,C3 U l (d'++rest)=aa (M1,rest)->C3 U ((k,s,rr)::l) (a++(d'++rest))=aa ((k,.bx s' rr)::M1,rest):=by
       intro M1 hM1;have: ∀d2,C3 U ((k,s,rr)::l) d2=(match SK U s d2 with|some (x,d')=>(match C3 U l d' with|some (M,qn)=>aa ((k,.bx x rr)::M,qn)|none=>ad)|none=>ad):=by
        intro d2;cases s with
        |row t=>exact(pi t rfl).elim
        |_=>cases d2<;>first|rfl|(simp only[C3])
       rw[this,g1];simp only[hM1]
      exact fin a d' (.bx s' rr) hd h.symm hun ⟨e,Er he hk,id,cs,hid,bc,g2,Ka hb kx⟩
    .cases h
  .rename_i et v d' hf hd;split at h
   .rename_i t;cases hb:et.beq t with
    |false=>rw[hb]at h;cases h
    |true=>
     rw[hb]at h;simp only[aI,aA]at h;obtain⟨e,he,hr⟩:=Mm.bx k _ hf;refine fin [⟨.sl et,v⟩] d' (.row et v) hd h.symm (λM1 hM1=>?_) ⟨e,Er he hk,hr⟩
     simp only[aR,C3,hb,aI,hM1]
   .cases h
  .cases h
end
end Go.TV
namespace Go.TV
open Go.AI Go.PI
section
variable{P:aw}{U:hJ}{T:TP U.D}{c c0:Cx}{W:Type}{r:W}{q p:PSt}{M:TM U.D}{S:TS U.D}{S':PS}{pc:jB}
def Lj(hU:hQ U){ct:Cut}{d:List (V U)}(h:GY U ct S M=aa d)(F:lX U c S S')(Mm:MR U q c0 c M p):
    ∃S0 M0 c',JN U ct d=aa (S0,M0)/\lX U c' S0 (keeps S' ct.ts)/\MR U q c0 c' M0 p:=by
 unfold GY at h;split at h
 .rename_i a b ha hb;cases h;obtain⟨S0,h1,h2⟩:=aAM hU F b ha;obtain⟨M0,h3,h4,h5⟩:=aAN Mm [] hb (λ_ h=>h)
  rw[bA]at h3;refine⟨S0,⟨M0,[]⟩,Ss c (ct.bx.map (·.1)),by simp only[JN,h1,h3],h2,?_⟩
  refine⟨λk hk=>?_,h5,λk e id g1 g2=>Mm.lt k e id (Et g1).1 g2,λk k' e e' id g1 g2 g3 g4=>Mm.inj k k' e e' id (Et g1).1 (Et g2).1 g3 g4,Mm.next,λk e g1 g2=>Mm.bor k e (Et g1).1 g2,λk e id g1 g2 g3=>Mm.loc k e id (Et g1).1 g2 g3,Mm.old,Mm.dirty,Mm.wr⟩
  unfold Ss;rw[h4 k hk];rfl
 .cases h
def MR.cln(Mm:MR U q c0 c M p):MR U q c0 c ⟨M.bx,[]⟩ (PI.cln p):=
 ⟨Mm.dom,λk b h=>by obtain⟨e,h1,h2⟩:=Mm.bx k b h;exact⟨e,h1,yN h2 λ_ _=>rfl⟩,Mm.lt,Mm.inj,Mm.next,Mm.bor,Mm.loc,Mm.old,Mm.dirty,λid hi=>by cases hi⟩
def MR.dty{p':PSt}(Mm:MR U q c0 c M p'){c1:Cx}{M1:TM U.D}(Mp:MR U q c0 c1 M1 p)(hn:p.next<=p'.next):MR U q c0 c M (PI.dty p p'):=
 ⟨Mm.dom,λk b h=>by obtain⟨e,h1,h2⟩:=Mm.bx k b h;exact⟨e,h1,yN h2 λ_ _=>rfl⟩,Mm.lt,Mm.inj,Mm.next,Mm.bor,Mm.loc,Mm.old,Mm.dirty,λid hi=>by
  have hi:id∈p'.wr.foldr Gy p.wr:=hi;rw[fE]at hi;rcases hi with h|h
  .exact Mm.wr id h
  .obtain⟨h1,h2⟩:=Mp.wr id h;exact⟨Nat.lt_of_lt_of_le h1 hn,h2⟩⟩
variable(hU:hQ U)(hT:rQ P U T)
include hU hT
def aUp(P:aw)(U:hJ)(T:TP U.D)(q:PSt)(c0:Cx)(run:{W:Type}->TS U.D->TM U.D->TK U.D W->Option W)(prun:PS->PSt->Option (Fl×PS×PSt)):Prop:=
 ∀(W:Type) (K:TK U.D W) (r:W) (S:TS U.D) (M:TM U.D) (S':PS) (p:PSt) (c:Cx),lX U c S S'->MR U q c0 c M p->run S M K=aa r->
  ∃fl c' S1 M1 S1' p',K fl S1 M1=aa r/\prun S' p=aa (fl,S1',p')/\lX U c' S1 S1'/\MR U q c0 c' M1 p'/\p.next<=p'.next
omit hU hT in
def Q2(hU:hQ U){ct:Cut}{run:{W:Type}->TS U.D->TM U.D->TK U.D W->Option W}{prun:PS->PSt->Option (Fl×PS×PSt)}(hr:aUp P U T q c0 run prun){K:TK U.D W}:
    ∀(n:Nat) (d:List (V U)) (S0:TS U.D) (M0:TM U.D) (S':PS) (p:PSt) (c:Cx),JN U ct d=aa (S0,M0)->lX U c S0 (keeps S' ct.ts)->MR U q c0 c M0 p->CG U ct (λS M K=>run S M K) K n d=aa r->
    ∃fl c' S1 M1 S1' p',K fl S1 M1=aa r/\AV (λS p=>prun (keeps S ct.ts) p) n S' p=aa (fl,S1',p')/\lX U c' S1 S1'/\MR U q c0 c' M1 p'/\p.next<=p'.next
 |0,d,S0,M0,S',p,c,hu,F,Mm,h=>by cases h
 |n+1,d,S0,M0,S',p,c,hu,F,Mm,h=>by
  simp only[CG,oZ,hu]at h;obtain⟨fl,c1,S1,M1,S1',p1,h1,h2,h3,h4,h5⟩:=hr W _ r S0 M0 _ p c F Mm h;cases fl with
  |normal=>
   simp only[fT]at h1;split at h1
   .rename_i d' hd;obtain⟨S2,M2,c2,g1,g2,g3⟩:=Lj hU hd h3 h4;obtain⟨fl,c',S3,M3,S3',p3,k1,k2,k3,k4,k5⟩:=Q2 hU hr n d' S2 M2 S1' p1 c2 g1 g2 g3 h1;exact⟨fl,c',S3,M3,S3',p3,k1,by simp only[AV,h2,k2],k3,k4,Nat.le_trans h5 k5⟩
   .cases h1
  |exit id=>exact⟨_,c1,S1,M1,S1',p1,h1,by simp only[AV,h2],h3,h4,h5⟩
  |ret=>exact⟨_,c1,S1,M1,S1',p1,h1,by simp only[AV,h2],h3,h4,h5⟩
omit hU hT in
def aGf{q:PSt}{c0 c:Cx}{ops:Array Oper}{S:TS U.D}{M:TM U.D}{S':PS}{p:PSt}(F:lX U c S S')(Mm:MR U q c0 c M p)(h:HW U ops S M=ae):Eu ops S' p=ae:=by
 unfold HW at h;unfold Eu;split at h
 .rename_i e;rw[e]
 .rename_i s t e;rw[e];simp only;have r1:=(F s).1;have r2:=(F t).1;split at h
  .rename_i v k o2 p2 e1 e2;rw[e1]at r1;rw[e2]at r2;obtain⟨es,i,off,_,q1,_⟩:=r1;obtain⟨e',id,q2,q3,q4⟩:=r2;rw[q1,q4];simp only;split at h
   .rename_i bs br hf;obtain⟨e2',q5,bu,cs,q6,q7,_⟩:=Mm.bx k _ hf;rw[q2]at q5;cases q5;rw[q3]at q6;cases q6;rw[q7]
   .cases h
  .cases h
 .cases h
def aHO{tc:pX U.D}(hc:iW U T tc pc)(L:Nat): ∀(code:TC),aUp P U T q c0 (λ{W} S M K=>fO U T (W:=W) tc L code S M K) (eX P pc L code.pc):=by
 intro code;induction code with
 |skip=>intro W K r S M S' p c F Mm h;exact⟨.normal,c,S,M,S',p,h,rfl,F,Mm,aS _⟩
 |label l=>intro W K r S M S' p c F Mm h;exact⟨.normal,c,S,M,S',p,h,rfl,F,Mm,aS _⟩
 |region id ops draw ms sc=>
  intro W K r S M S' p c F Mm h;simp only[fO]at h;cases draw with
  |true=>
   obtain⟨c',S1,M1,S1',p',h1,h2,h3,h4,h5,h6⟩:=qY hU hT hc sc [] [] S ⟨M.bx,[]⟩ S' (PI.cln p) c F Mm.cln (λid hi=>by cases hi) trivial h
   obtain⟨h1,htw⟩:K .normal S1 M1=aa r/\HW U ops S1 M1=ae:=by
    cases hb:HW U ops S1 M1 with
    |true=>rw[hb,aI]at h1;exact⟨h1,rfl⟩
    |false=>rw[hb]at h1;cases h1
   refine⟨.normal,c',S1,M1,S1',PI.dty p p',h1,?_,h4,h5.dty Mm h6,h6⟩;simp only[TC.pc,eX,aI,h2,aHG,aGf h4 h5 htw,aK]
  |false=>
   obtain⟨c',S1,M1,S1',p',h1,h2,h3,h4,h5,h6⟩:=runT_ok hU hT hc sc S M S' p c F Mm h;refine⟨.normal,c',S1,M1,S1',p',h1,?_,h4,h5,h6⟩;simp only[TC.pc,eX,aJ,h2,aK]
 |seq a b ff jk=>
  intro W K r S M S' p c F Mm h;simp only[fO]at h;obtain⟨fl,c1,S1,M1,S1',p1,h1,h2,h3,h4,h5⟩:=ff W _ r S M S' p c F Mm h;cases fl with
  |normal=>
   obtain⟨fl,c2,S2,M2,S2',p2,g1,g2,g3,g4,g5⟩:=jk W _ r S1 M1 S1' p1 c1 h3 h4 h1;exact⟨fl,c2,S2,M2,S2',p2,g1,by simp only[TC.pc,eX,h2,g2],g3,g4,Nat.le_trans h5 g5⟩
  |exit id=>exact⟨_,c1,S1,M1,S1',p1,h1,by simp only[TC.pc,eX,h2],h3,h4,h5⟩
  |ret=>exact⟨_,c1,S1,M1,S1',p1,h1,by simp only[TC.pc,eX,h2],h3,h4,h5⟩
 |cond x a b ff jk=>
  intro W K r S M S' p c F Mm h;simp only[fO]at h;have h1:=(dD F x).1;split at h
  .rename_i w hx;rw[hx]at h1;have h1:cQ S' x= .v (.bool w):=of_bool h1;rcases Fw h with⟨rfl,h⟩|⟨rfl,h⟩
   .obtain⟨fl,c1,S1,M1,S1',p1,g1,g2,g3⟩:=ff W _ r S M S' p c F Mm h;exact⟨fl,c1,S1,M1,S1',p1,g1,by simp only[TC.pc,eX,h1,g2],g3⟩
   .obtain⟨fl,c1,S1,M1,S1',p1,g1,g2,g3⟩:=jk W _ r S M S' p c F Mm h;exact⟨fl,c1,S1,M1,S1',p1,g1,by simp only[TC.pc,eX,h1,g2],g3⟩
  .cases h
 |block id a ff=>
  intro W K r S M S' p c F Mm h;simp only[fO]at h;obtain⟨fl,c1,S1,M1,S1',p1,h1,h2,h3,h4,h5⟩:=ff W _ r S M S' p c F Mm h;cases fl with
  |normal=>exact⟨_,c1,S1,M1,S1',p1,h1,by simp only[TC.pc,eX,h2],h3,h4,h5⟩
  |ret=>exact⟨_,c1,S1,M1,S1',p1,h1,by simp only[TC.pc,eX,h2],h3,h4,h5⟩
  |exit n=>
   simp only[cO]at h1;cases hb:am n id with
   |true=>
    rw[hb]at h1;exact⟨_,c1,S1,M1,S1',p1,h1,by simp only[TC.pc,eX,h2,hb,aI],h3,h4,h5⟩
   |false=>
    rw[hb]at h1;exact⟨_,c1,S1,M1,S1',p1,h1,by simp only[TC.pc,eX,h2,hb,aJ],h3,h4,h5⟩
 |loop ct a ff=>
  intro W K r S M S' p c F Mm h;simp only[fO]at h;split at h
  .rename_i d hd;obtain⟨S0,M0,c1,g1,g2,g3⟩:=Lj hU hd F Mm;obtain⟨fl,c',S3,M3,S3',p3,k1,k2,k3⟩:=Q2 hU ff L d S0 M0 S' p c1 g1 g2 g3 h;exact⟨fl,c',S3,M3,S3',p3,k1,k2,k3⟩
  .cases h
 |exit id=>intro W K r S M S' p c F Mm h;exact⟨.exit id,c,S,M,S',p,h,rfl,F,Mm,aS _⟩
 |ret=>intro W K r S M S' p c F Mm h;exact⟨.ret,c,S,M,S',p,h,rfl,F,Mm,aS _⟩
 |scope a ff=>intro W K r S M S' p c F Mm h;exact ff W K r S M S' p c F Mm h
 |cut ct a ff=>
  intro W K r S M S' p c F Mm h;simp only[fO]at h;split at h
  .rename_i d hd;obtain⟨S0,M0,c1,g1,g2,g3⟩:=Lj hU hd F Mm;simp only[oZ,g1]at h;exact ff W K r S0 M0 _ p c1 g2 g3 h
  .cases h
 |ice t a ff=>
  intro W K r S M S' p c F Mm h;simp only[fO]at h;split at h
  .rename_i R hR;obtain⟨S1',p1,h1,h2,h3,h4⟩:=TZ hU F hR Mm;obtain⟨fl,c2,S2,M2,S2',p2,g1,g2,g3,g4,g5⟩:=ff W K r R.1 R.2 S1' p1 c h2 h3 h;exact⟨fl,c2,S2,M2,S2',p2,g1,by simp only[TC.pc,eX,h1,g2],g3,g4,Nat.le_trans (runT_ok.pfreeze_next h1) g5⟩
  .cases h
 |other cd=>intro W K r S M S' p c F Mm h;cases h
def Kb(F:lX U c S S')(Mm:MR U q c0 c M p): ∀{rs:List ResultVar} {ts:List Ty} {l:List (V U)},GH U T S M rs ts=aa l->
    ∃vs,gN P S' p rs=aa vs/\List.map (λx=>wk x.1) vs=l.map (λv=>dK U v.t v.x)/\l.map (λv=>v.t)=ts/\
      (∀t v,rs=[.tmp t]->vs=[v]->v=S'.at t)/\(∀v w,vs=[w]->l=[v]->VR U v.t v.x w.1)/\(∀t gf w pe v l',rs= .tmp t::gf->vs=w::pe->l=v::l'->w=S'.at t/\VR U v.t v.x w.1)
 |[],[],l,h=>by
  simp only[GH,aA]at h;subst h;exact⟨[],rfl,rfl,rfl,λ_ _ h=>(by cases h),λ_ _ h=>(by cases h),λ_ _ _ _ _ _ h=>(by cases h)⟩
 | .tmp t::rs,ty::ts,l,h=>by
  unfold GH at h;split at h
  .rename_i v l' hv hl;cases h;obtain⟨h1,h2⟩:=lK hU hv (F t).1;obtain⟨vs,g1,g2,g3,_,_,_⟩:=Kb F Mm hl;refine⟨S'.at t::vs,by simp only[gN,rZ,g1],by rw[aO,aO,g2,h2.wk],by rw[aO,h1,g3],λt' v' e1 e2=>?_,λv' w e1 e2=>?_,λt' gf w pe v' l'' e1 e2 e3=>?_⟩
   .cases e1;cases e2;rfl
   .cases e1;cases e2;exact h2
   .cases e1;cases e2;cases e3;exact⟨rfl,h2⟩
  .cases h
 | .cell a t::rs,ty::ts,l,h=>by
  unfold GH at h;split at h
  .rename_i k off pq ty' l' hk fu hl;split at h
   .rename_i cv rr hf;split at h
    .rename_i w o hw;cases hb:w.t.beq ty&&ty.beq ty'&&am o off with
     |false=>rw[hb]at h;cases h
     |true=>
      rw[hb]at h;simp only[aI,aA]at h;subst h;simp only[aC,dN,aD]at hb;obtain⟨⟨hb1,hb2⟩,rfl⟩:=hb;have e1:=Ty.beq_eq hb1;have e2:=Ty.beq_eq hb2;subst e2;have hs:=(F a).1;rw[hk]at hs;obtain⟨e,id,m1,m2,m3⟩:=hs;obtain⟨e',m1',bu,cs,m2',bc,⟨c1,c2,c3⟩,_⟩:=Mm.bx k _ hf;rw[m1]at m1';cases m1';rw[m2]at m2';cases m2';obtain⟨wt,wx⟩:=w;have e1:wt=ty:=e1;subst e1;obtain⟨g1,_⟩:=xH hU hw (⟨c1,c2⟩:SR cv.t cv.x (cs.map (·.1)));obtain⟨v,k1,k2,k3,k4⟩:=AM hU hT fu g1;have fa:jZ P p t (S'.at a).1=aa v:=by rw[m3];simp only[jZ,bc];exact k1
      obtain⟨vs,g1,g2,g3,_,_,_⟩:=Kb F Mm hl;refine⟨(v,ah)::vs,by simp only[gN,rZ,fa,aK,g1],by rw[aO,aO,g2,k2.wk],by rw[aO,g3],λt' v' e1 e2=>?_,λv' w e1 e2=>?_,λt' gf w pe v' l'' e1 e2 e3=>?_⟩
      .cases e1
      .cases e1;cases e2;exact k2
      .cases e1
    .cases h
   .cases h
  .cases h
 |[],_::_,l,h=>by cases h
 | .tmp _::_,[],l,h=>by cases h
 | .cell _ _::_,[],l,h=>by cases h
omit hU hT in
def KL(Mm:MR U q c0 c M p): ∀{l:List (Sh×jC)} {bo:List jC} {j:Nat} {d:List (V U)},QJ U M l bo j=aa d->
    ∃m,fL U l bo d=aa m/\(∀i x,m[i]?=aa x->∃e,c (j+i)=aa e/\Di U c p e x)
 |[],[],j,d,h=>by
  simp only[QJ,aA]at h;subst h;exact⟨[],rfl,λi x h=>by simp at h⟩
 |(s,rr)::l,r::bo,j,d,h=>by
  have next: ∀{x0:BC U.D} {m:List (BC U.D)} {e:Ce},(∀i x,m[i]?=aa x->∃e,c (j+1+i)=aa e/\Di U c p e x)->c j=aa e->Di U c p e x0->∀i x,(x0::m)[i]?=aa x->∃e,c (j+i)=aa e/\Di U c p e x:=by
   intro x0 m e g2 he k1 i x hx;cases i with
   |zero=>
    simp only[aU,aA]at hx;subst hx;exact⟨e,he,k1⟩
   |succ i=>
    rw[aT]at hx;have:=g2 i x hx
    rwa [show j+1+i=j+(i+1) by omega]at this
  unfold QJ at h;split at h
  .rename_i cont rs d' hf hd;obtain⟨e,he,id,cs,hid,bc,hcs,kx⟩:=Mm.bx j _ hf;obtain⟨m,g1,g2⟩:=KL Mm hd;split at h
   .rename_i t v;cases hb:v.t.beq t&&leR r rs with
    |false=>rw[hb]at h;cases h
    |true=>
     rw[hb]at h;simp only[aI,aA]at h;subst h;simp only[aC]at hb;exact⟨.bx (.val v) r::m,by simp only[fL,g1],next g2 he ⟨id,cs,hid,bc,hcs,Ka hb.2 kx⟩⟩
   .rename_i f caps f' cm;cases hb:am f f'&&yX caps cm with
    |false=>rw[hb]at h;cases h
    |true=>
     rw[hb]at h;simp only[aI,aA]at h;subst h;simp only[aC,dN,aD]at hb;have e2:=xJ hb.2;rw[<-hb.1,<-e2]at hcs;exact⟨.bx (.cl f caps) []::m,by simp only[fL,g1],next g2 he ⟨id,cs,hid,bc,hcs,λ_ _ h=>by cases h⟩⟩
   .cases h
  .rename_i et x d' hf hd;obtain⟨e,he,bh⟩:=Mm.bx j _ hf;obtain⟨m,g1,g2⟩:=KL Mm hd;split at h
   .rename_i t;cases hb:et.beq t with
    |false=>rw[hb]at h;cases h
    |true=>
     rw[hb]at h;simp only[aI,aA]at h;subst h;exact⟨.row et x::m,by simp only[fL,g1],next g2 he bh⟩
   .cases h
  .cases h
 |[],_::_,j,d,h=>by cases h
 |_::_,[],j,d,h=>by cases h
end
end Go.TV
namespace Go.TV
open Go.AI Go.PI
section
variable{P:aw}{U:hJ}{T:TP U.D}{c c0:Cx}{q p:PSt}{M:TM U.D}{S:TS U.D}{S':PS}
def YX: ∀{l:List (Nat×Sh×jC)} {d rest:List (V U)} {S0:TS U.D},aDw U l d=aa (S0,rest)->∀k,eA k (l.map (·.1))=ah->lW S0 k=(.no,[])
 |[],d,rest,S0,h,k,_=>by simp only[aDw,aA,aB]at h;rw[<-h.1];rfl
 |(t,s,r)::l,d,rest,S0,h,k,hk=>by
  unfold aDw at h;split at h
  .rename_i x d' hx;split at h
   .rename_i S1 qn hS;simp only[aA,aB]at h;obtain⟨rfl,rfl⟩:=h;simp only[aO,eA,Bool.or_eq_false_iff]at hk;rw[E1 (λe=>by rw[e,Nat.beq_refl]at hk;cases hk.1)]
    exact YX hS k hk.2
   .cases h
  .cases h
def QA: ∀(ps:List (Sh×Bool)) (i k:Nat),eA k ((cutOf.psL ps i).map (·.1))=(aj (i<=k)&&aj (k<i+ps.length))
 |[],i,k=>by simp[cutOf.psL,eA]
 |(s,o)::ps,i,k=>by
  simp only[cutOf.psL,aO,eA,QA ps (i+1) k,aM,dN];rw[Bool.eq_iff_iff];simp only[b9,aC,aD];omega
def RV: ∀(ps:List (Sh×jC)) (i k:Nat),eA k ((cutOf.bxL ps i).map (·.1))=(aj (i<=k)&&aj (k<i+ps.length))
 |[],i,k=>by simp[cutOf.bxL,eA]
 |(s,o)::ps,i,k=>by
  simp only[cutOf.bxL,aO,eA,RV ps (i+1) k,aM,dN];rw[Bool.eq_iff_iff];simp only[b9,aC,aD];omega
def aNH{k:Nat}{s:Sh}{rr:jC}{l:List (Nat×Sh×jC)}(pi: ∀t,s≠ .row t){d2:List (V U)}:C3 U ((k,s,rr)::l) d2=(match SK U s d2 with|some (x,d')=>(match C3 U l d' with|some (M,qn)=>aa ((k,.bx x rr)::M,qn)|none=>ad)|none=>ad):=by
 cases s with
 |row t=>exact(pi t rfl).elim
 |_=>cases d2<;>first|rfl|(simp only[C3])
def YY: ∀{l:List (Nat×Sh×jC)} {d rest:List (V U)} {M0:List (Nat×BC U.D)},C3 U l d=aa (M0,rest)->∀k,dL M0 k=ad->eA k (l.map (·.1))=ah
 |[],d,rest,M0,h,k,_=>rfl
 |(t,s,r)::l,d,rest,M0,h,k,hk=>by
  have fin: ∀{b:BC U.D} {M1:List (Nat×BC U.D)} {d':List (V U)},M0=(t,b)::M1->C3 U l d'=aa (M1,rest)->eA k (((t,s,r)::l).map (·.1))=ah:=by
   intro b M1 d' e h1;subst e;rw[gP]at hk;by_cases e1:k=t
   .rw[bI e1]at hk;cases hk
   .rw[bH e1]at hk;simp only[aO,eA,YY h1 k hk,Bool.or_false];exact aDe λe=>e1 e.symm
  have other:(∀t',s≠ .row t')->eA k (((t,s,r)::l).map (·.1))=ah:=by
   intro pi;rw[aNH pi]at h;split at h
   .rename_i x d' _;split at h
    .rename_i M1 qn h1;simp only[aA,aB]at h;obtain⟨e1,e2⟩:=h;subst e2;exact fin e1.symm h1
    .cases h
   .cases h
  cases s with
  |row t'=>
   cases d with
   |nil=>cases h
   |cons v d=>
    obtain⟨vt,vx⟩:=v;cases vt with
    |sl e=>
     simp only[C3]at h;cases hb:e.beq t' with
     |false=>rw[hb]at h;cases h
     |true=>
      rw[hb]at h;simp only[aI]at h;split at h
      .rename_i M1 d' h1;simp only[aA,aB]at h;obtain⟨e1,e2⟩:=h;subst e2;exact fin e1.symm h1
      .cases h
    |_=>cases h
  |_=>exact other λ_ e=>by cases e
def rB{n:Nat}: ∀{l:List (Sh×jC)} {rs:List jC} {d:List (V U)} {m:List (BC U.D)},fL U l rs d=aa m->GS n l=ae->∀(i f:Nat) (caps:List Nat) (r:jC),m[i]?=aa (.bx (.cl f caps) r)->wF caps n=ae
 |[],[],[],m,h,_,i,f,caps,r,hm=>by simp only[fL,aA]at h;subst h;simp at hm
 |(.val t,rr)::l,r::rs,v::d,m,h,ho,i,f,caps,r',hm=>by
  simp only[fL]at h;split at h
  .rename_i m' h1;cases h;cases i with
   |zero=>simp at hm
   |succ i=>rw[aT]at hm;exact rB h1 ho i f caps r' hm
  .cases h
 |(.cl f0 caps0,rr)::l,r::rs,d,m,h,ho,i,f,caps,r',hm=>by
  simp only[fL]at h;simp only[GS,aC]at ho;split at h
  .rename_i m' h1;cases h;cases i with
   |zero=>
    simp only[aU,aA,BC.bx.injEq,SV.cl.injEq]at hm;rw[<-hm.1.2];exact ho.1
   |succ i=>rw[aT]at hm;exact rB h1 ho.2 i f caps r' hm
  .cases h
 |[],_::_,_,_,h,_,_,_,_,_,_=>by simp[fL]at h
 |[],[],_::_,_,h,_,_,_,_,_,_=>by simp[fL]at h
 |(s,rr)::l,[],d,m,h,_,_,_,_,_,_=>by cases s<;>simp[fL]at h
 |(.val t,rr)::l,r::rs,[],m,h,_,_,_,_,_,_=>by simp[fL]at h
 |(.tup _,_)::_,_::_,_,_,h,_,_,_,_,_,_=>by simp[fL]at h
 |(.nl,_)::_,_::_,_,_,h,_,_,_,_,_,_=>by simp[fL]at h
 |(.lc _ _ _,_)::_,_::_,_,_,h,_,_,_,_,_,_=>by simp[fL]at h
 |(.ep _,_)::_,_::_,_,_,h,_,_,_,_,_,_=>by simp[fL]at h
 |(.rw _,_)::_,_::_,_,_,h,_,_,_,_,_,_=>by simp[fL]at h
 |(.nf,_)::_,_::_,_,_,h,_,_,_,_,_,_=>by simp[fL]at h
 |(.row t,rr)::l,r::rs,⟨.sl e,x⟩::d,m,h,ho,i,f,caps,r',hm=>by
  simp only[fL]at h;split at h
  .rename_i m' h1;cases h;cases i with
   |zero=>simp at hm
   |succ i=>rw[aT]at hm;exact rB h1 ho i f caps r' hm
  .cases h
 |(.row t,rr)::l,r::rs,[],m,h,_,_,_,_,_,_=>by simp[fL]at h
 |(.row t,rr)::l,r::rs,⟨.int _,x⟩::d,m,h,_,_,_,_,_,_=>by simp[fL]at h
 |(.row t,rr)::l,r::rs,⟨.bool,x⟩::d,m,h,_,_,_,_,_,_=>by simp[fL]at h
 |(.row t,rr)::l,r::rs,⟨.str,x⟩::d,m,h,_,_,_,_,_,_=>by simp[fL]at h
 |(.row t,rr)::l,r::rs,⟨.rc _,x⟩::d,m,h,_,_,_,_,_,_=>by simp[fL]at h
 |(.no,_)::_,_::_,_,_,h,_,_,_,_,_,_=>by simp[fL]at h
def wV: ∀{l:List (Sh×jC)} {rs:List jC} {d:List (V U)} {m:List (BC U.D)},fL U l rs d=aa m->∀(i:Nat),m[i]?=aa .gone->False
 |l,rs,d,m,h,i,hm=>by
  unfold fL at h;split at h
  .simp only[aA]at h;subst h;simp at hm
  .split at h
   .rename_i m' h1;cases h;cases i with
    |zero=>simp at hm
    |succ i=>rw[aT]at hm;exact wV h1 i hm
   .cases h
  .split at h
   .rename_i m' h1;cases h;cases i with
    |zero=>simp at hm
    |succ i=>rw[aT]at hm;exact wV h1 i hm
   .cases h
  .split at h
   .rename_i m' h1;cases h;cases i with
    |zero=>simp at hm
    |succ i=>rw[aT]at hm;exact wV h1 i hm
   .cases h
  .cases h
def IU{n:Nat}: ∀{l:List PV},(∀x∈l,below n x=ae)->jK n l=ae
 |[],_=>rfl
 |x::l,h=>by
  show(below n x&&jK n l)=ae;rw[h x (aH ..),IU λy hy=>h y (aG _ hy)];rfl
def aIv{n:Nat}{x:PV}(h:gd (wk x)=ae):below n x=ae:=by
 cases x with
 |agg cs=>simp[wk,gd]at h
 |tup cs=>simp[wk,gd]at h
 |ptr i o=>simp[wk,gd]at h
 |rs i o l=>simp[wk,gd]at h
 |mp i=>simp[wk,gd]at h
 |fn f a b=>simp[wk,gd]at h
 |_=>rfl
def Fy{n:Nat}: ∀{caps:List Nat} {ps:List PV},yY c caps ps->(∀k e id,k∈caps->c k=aa e->e.id=aa id->id<n)->jK n ps=ae
 |[],[],_,_=>rfl
 |k::ks,x::ps,⟨⟨e,id,h1,h2,h3⟩,h4⟩,hb=>by
  simp only[jK,Fy h4 (λk' e id hk=>hb k' e id (aG _ hk)),bE]
  rw[h3];simp only[below,gZ,aD];exact hb k e id (aH ..) h1 h2
 |[],_::_,h,_=>h.elim
 |_::_,[],h,_=>h.elim
def Cd{n:Nat}: ∀{l:List Nat},wF l n=ae->∀k∈l,k<n
 |x::l,h,k,hk=>by
  simp only[wF,aC,gZ,aD]at h;rcases List.mem_cons.1 hk with rfl|hk
  .exact h.1
  .exact Cd h.2 k hk
def RS{c':Cx}: ∀{caps:List Nat} {ps:List PV},yY c caps ps->(∀k e,k∈caps->c k=aa e->c' k=aa e)->yY c' caps ps
 |[],[],_,_=>trivial
 |k::ks,x::ps,⟨⟨e,id,h1,h2,h3⟩,h4⟩,hb=>⟨⟨e,id,hb k e (aH ..) h1,h2,h3⟩,RS h4 λk' e hk=>hb k' e (aG _ hk)⟩
 |[],_::_,h,_=>h.elim
 |_::_,[],h,_=>h.elim
def aAo{O:DD}{s:Sz}{d:List (V U)}{args:List (PV×Bool)}{cc:Cx}{S0:TS U.D}{M0:TM U.D}(bz:aOE O s=ae)(hf:am s.f O.n=ae)(hin:Gk U s d p cc args S0 M0):
    s.bx=[]/\s.bo=[]/\s.rs=[.str]/\s.own=ah/\∃a b o1 o2,d=[⟨.int .i64,a⟩,⟨.int .i64,b⟩]/\args=[(.v (.int .i64 a),o1),(.v (.int .i64 b),o2)]:=by
 obtain⟨f,ps,bx,bo,rs,own⟩:=s;unfold aOE at bz;rw[hf,aI]at bz;split at bz
 .rename_i e1 e2 e3 e4 e5;simp only at e1 e2 e3 e4 e5;subst e1;subst e2;subst e3;subst e4;subst e5;refine⟨rfl,rfl,rfl,rfl,?_⟩;have cf:=hin.start;have hu: ∀(t:Ty) (x:Den U.D t) (l:List (V U)),SK U (.val (.int .i64)) (⟨t,x⟩::l)=bif t.beq (.int .i64)then aa (.val ⟨t,x⟩,l)else ad:=λ_ _ _=>rfl
  simp only[JN,cutOf,cutOf.psL,cutOf.bxL,aDw]at cf
  match d,cf,hin with
  |[],cf,_=>cases cf
  |[⟨t,x⟩],cf,_=>
   rw[hu]at cf;cases h1:t.beq (.int .i64)with
   |false=>rw[h1]at cf;cases cf
   |true=>rw[h1]at cf;cases cf
  |⟨t,x⟩::⟨u,y⟩::r,cf,hin=>
   rw[hu]at cf;cases h1:t.beq (.int .i64)with
   |false=>rw[h1]at cf;cases cf
   |true=>
    rw[h1,aI]at cf;simp only[hu]at cf;cases h2:u.beq (.int .i64)with
    |false=>rw[h2]at cf;cases cf
    |true=>
     have e1:=Ty.beq_eq h1;have e2:=Ty.beq_eq h2;subst e1;subst e2;rw[h2,aI]at cf;cases r with
     |cons z r=>cases cf
     |nil=>
      simp only[C3,aA,aB]at cf;obtain⟨g1,g2⟩:=cf
      match args,hin.len,hin.args with
      |[(p1,o1),(p2,o2)],_,ha=>
       have a1:=(ha 0 _ rfl).1;have a2:=(ha 1 _ rfl).1;rw[<-g1]at a1 a2;refine⟨x,y,o1,o2,rfl,?_⟩;have b1:p1= .v (.int .i64 x):=iP a1;have b2:p2= .v (.int .i64 y):=iP a2;rw[b1,b2]
 .cases bz
def QL{O:DD}{s:Sz}{d:List (V U)}{args:List (PV×Bool)}{cc:Cx}{S0:TS U.D}{M0:TM U.D}(bz:aOE O s=ae)(hn:am s.f O.n=ah)(hf:am s.f O.m=ae)(hin:Gk U s d p cc args S0 M0):
    s.bx=[]/\s.bo=[]/\s.rs=[.bool]/\s.own=ah/\d=[]/\args=[]:=by
 obtain⟨f,ps,bx,bo,rs,own⟩:=s;unfold aOE at bz;rw[hn,aJ,hf,aI]at bz;split at bz
 .rename_i e1 e2 e3 e4 e5;simp only at e1 e2 e3 e4 e5;subst e1;subst e2;subst e3;subst e4;subst e5;refine⟨rfl,rfl,rfl,rfl,?_,?_⟩
  .have cf:=hin.start;simp only[JN,cutOf,cutOf.psL,cutOf.bxL,aDw]at cf;cases d with
   |nil=>rfl
   |cons x d=>simp only[C3]at cf;cases cf
  .exact List.length_eq_zero_iff.1 hin.len
 .cases bz
variable(hU:hQ U)(hT:rQ P U T)
include hU hT
omit hU hT in
def aEI{own:Bool}{a:List (V U)}(h: ∀v,a≠ [v]): ∃rs0,C6 U own a=(.tup a,rs0)/\(rs0=[]∨∃v b,a=[v,⟨.bool,b⟩]/\own=ae/\b=ae/\rs0=[(0,ae)]):=by
 unfold C6;split
 .rename_i v;exact(h v rfl).elim
 .rename_i v b;refine⟨_,rfl,?_⟩;cases own with
  |false=>exact .inl rfl
  |true=>
   cases b with
   |false=>exact .inl rfl
   |true=>exact .inr ⟨v,ae,rfl,rfl,rfl,rfl⟩
 .exact⟨[],rfl,.inl rfl⟩
def aEb{tc:pX U.D}{pc:jB}(ih:iW U T tc pc){L:Nat}{s:Sz}{code:TC}{rs:List ResultVar}(hb1:s.bx.length<=100)(hb2:GS s.bx.length s.bx=ae){d out:List (V U)}
    (h:oZ U (cutOf s) (λS M=>fO U T tc L code S M (aPp U T s rs)) d=aa out) {p:PSt} {cc:Cx} {args:List (PV×Bool)} {S0:TS U.D} {M0:TM U.D} (hin:Gk U s d p cc args S0 M0):
    ∃pv own p',HG P pc L code.pc rs args p=aa (pv,own,p')/\aBG U s out p cc pv own p':=by
 simp only[oZ,hin.start]at h;have cf:=hin.start;unfold JN at cf;split at cf
 .rename_i Sa da hSa;split at cf
  .rename_i Ma hMa;simp only[aA,aB]at cf;obtain⟨e1,e2⟩:=cf;subst e1;subst e2;have gr: ∀k e,cc k=aa e->k<s.bx.length:=λk e hk=>by
    rcases b7 k s.bx.length with h|h
    .exact h
    .rw[hin.dom k h]at hk;cases hk
   have F0:lX U cc Sa (Bb args 0 .none):=by
    intro k;rw[Rs];by_cases hk:k<args.length
    .rw[bI ⟨Nat.zero_le _,by omega⟩,Nat.sub_zero,aV hk]
     exact hin.args k _ (aV hk)
    .rw[bH (by omega)]
     have:lW Sa k=(.no,[]):=YX hSa k (by
      show eA k ((cutOf.psL s.ps 0).map (·.1))=ah;rw[QA];have:=hin.len;simp;omega)
     rw[this];exact⟨trivial,bX _ _⟩
   have M0':MR U p cc cc ⟨Ma,[]⟩ (a8J p):=by
    refine⟨λk hk=>?_,λk b hk=>?_,hin.lt,hin.inj,aS _,λk e h1 _=>h1,λk e id h1 h2 h3=>?_,λid _ _=>rfl,λid hi=>(by cases hi),λid hi=>(by cases hi)⟩
    .have:=YY hMa k hk;rw[show(cutOf s).bx=cutOf.bxL s.bx 0 from rfl,RV]at this
     refine hin.dom k ?_;simp at this;omega
    .obtain⟨e,h1,h2⟩:=hin.bx k b hk;exact⟨e,h1,yN h2 λ_ _=>rfl⟩
    .have:=gr k e h1;omega
   obtain⟨fl,c1,S1,M1,S1',p1,h1,h2,h3,h4,h5⟩:=aHO hU hT ih L code (List (V U)) (aPp U T s rs) out Sa ⟨Ma,[]⟩ (Bb args 0 .none) (a8J p) cc F0 M0' h;have ki:(∀id,fl≠ .exit id)/\∃a b,GH U T S1 M1 rs s.rs=aa a/\QJ U M1 s.bx s.bo 0=aa b/\Lk U S1 rs s.own s.rs a=ae/\out=a++b:=by
    have key: ∀(r:Option (List (V U))),r=(match GH U T S1 M1 rs s.rs,QJ U M1 s.bx s.bo 0 with|some a,aa b=>bif Lk U S1 rs s.own s.rs a then aa (a++b)else ad|_,_=>ad)->r=aa out->∃a b,GH U T S1 M1 rs s.rs=aa a/\QJ U M1 s.bx s.bo 0=aa b/\Lk U S1 rs s.own s.rs a=ae/\out=a++b:=by
     intro r e1 e2;rw[e1]at e2;split at e2
     .rename_i a b ha bp;cases hw:Lk U S1 rs s.own s.rs a with
      |false=>rw[hw]at e2;cases e2
      |true=>rw[hw]at e2;cases e2;exact⟨a,b,ha,bp,hw,rfl⟩
     .cases e2
    cases fl with
    |exit id=>cases h1
    |normal=>exact⟨λ_ e=>(by cases e),key _ rfl h1⟩
    |ret=>exact⟨λ_ e=>(by cases e),key _ rfl h1⟩
   obtain⟨bn,a,b,ha,bp,hw,rfl⟩:=ki;obtain⟨vs,r1,r2,r3,r4,r5,r6⟩:=Kb hU hT h3 h4 ha;obtain⟨m,o1,o2⟩:=KL h4 bp;simp only[Nat.zero_add]at o2;have hal:a.length=s.rs.length:=by rw[<-r3,List.length_map]
   have htake:(a++b).take s.rs.length=a:=by rw[<-hal];exact List.take_left
   have gc:(a++b).drop s.rs.length=b:=by rw[<-hal];exact List.drop_left
   have kn:qB U cc (C6 U s.own a) ((eJ vs).1,(eJ vs).2)/\below p.next (eJ vs).1=ae:=by
    have hlen:vs.length=a.length:=by have:=congrArg List.length r2;simpa using this
    have htup:(∀v,a≠ [v])->(qB U cc (C6 U s.own a) ((eJ vs).1,(eJ vs).2)/\below p.next (eJ vs).1=ae):=by
     intro hn1;obtain⟨rs0,e1,hrs0⟩:=aEI (own:=s.own) hn1;have e2: ∃fg,eJ vs=(.tup (wks (vs.map (·.1))),fg)/\∀w w' l,vs=w::w'::l->fg=((w.2||kN w.1)&& !K2 w.1&&aGV w.1):=by
      cases vs with
      |nil=>exact⟨ah,rfl,λ_ _ _ h=>by cases h⟩
      |cons w vs=>cases vs with
       |cons w' vs=>exact⟨_,rfl,λ_ _ _ h=>by cases h;rfl⟩
       |nil=>
        cases a with
        |nil=>simp at hlen
        |cons x a=>cases a with
         |nil=>exact(hn1 x rfl).elim
         |cons y a=>simp at hlen
     obtain⟨fg,e2,qk⟩:=e2;have e3:wks (vs.map (·.1))=a.map λv=>dK U v.t v.x:=by rw[mL,List.map_map];exact r2
     rw[e1,e2];refine⟨⟨⟨_,rfl,e3⟩,?_⟩,?_⟩
     .rcases hrs0 with rfl|⟨v,b,rfl,ho,rfl,rfl⟩
      .exact bX _ _
      ·
       obtain⟨w,w',rfl⟩: ∃w w',vs=[w,w']:=by
        match vs,hlen with
        |[w,w'],_=>exact⟨w,w',rfl⟩
       have hF:aF8 U S1 rs=ae:=by
        cases hf:aF8 U S1 rs with
        |true=>rfl
        |false=>simp[Lk,ho,hf,bQA]at hw
       have kc:bAu s.rs=ae:=by
        simp only[Lk,ho,hF,aI,b9,aC]at hw;rcases hw with⟨h6,_⟩|h6
        .rw[<-r3]at h6;exact absurd (show QN [v.t,Ty.bool]=ae from h6) (by simp[QN])
        .exact h6
       obtain⟨t,gf,nc,cf⟩: ∃t gf,rs= .tmp t::gf/\qA (lW S1 t).2=ae:=by
        unfold aF8 at hF;split at hF
        .exact⟨_,_,rfl,hF⟩
        .cases hF
       obtain⟨lj,kw⟩:=r6 t gf w [w'] v _ nc rfl rfl;have cw: ∃e,v.t= .sl e:=by
        rw[<-r3]at kc;cases gw:v.t with
        |sl e=>exact⟨e,rfl⟩
        |_=>rw[aO,gw]at kc;cases kc
       obtain⟨e,cw⟩:=cw;have lu:=oO kw (by rw[cw];rfl)
       have hN:aGV w.1=ae:=by
        obtain⟨vt,vx⟩:=v;have cw:vt= .sl e:=cw;subst cw;obtain⟨_,hl⟩:=tK kw;rcases hl with⟨_,h8⟩|⟨_,h8⟩
        .rcases h8 with h8|h8|h8<;>rw[h8]<;>rfl
        .rw[h8];rfl
       have qk:=qk w w' [] rfl;rcases(h3 t).2 0 ae (rW cf)with⟨g1,_⟩|⟨_,_,g1,g2⟩
       .rw[<-lj,lu]at g1;cases g1
       .rw[<-lj]at g1 g2;have hfg1:fg=ae:=by rw[qk,g1,g2 rfl,hN];rfl
        intro o st hi;simp only[List.mem_singleton,aB]at hi;refine .inr ⟨hi.1,rfl,by rw[hfg1];rfl,λ_=>?_⟩
        rw[e3];show K2 (.tup (dK U v.t v.x::_))=ah;have hg:gd (dK U v.t v.x)=ae:=by
         obtain⟨vt,vx⟩:=v;have cw:vt= .sl e:=cw;subst cw;exact eT _ _
        have:=BY hg;rw[aPb];generalize dK U v.t v.x=y at this;cases y with
        |sl z es=>cases es with
         |nil=>cases this
         |cons _ _=>rfl
        |_=>rfl
     show jK p.next _=ae
     rw[e3,fS];intro x hx;obtain⟨v,_,rfl⟩:=List.mem_map.1 hx;exact RB hU _ _ _
    cases a with
    |nil=>exact htup λv e=>by cases e
    |cons v a=>
     cases a with
     |cons y a=>exact htup λv e=>by cases e
     |nil=>
      cases vs with
      |nil=>simp at hlen
      |cons w vs=>
       cases vs with
       |cons y vs=>simp at hlen
       |nil=>
        have hv:=r5 v w rfl rfl;refine⟨⟨aTS hU hv,?_⟩,?_⟩
        .cases ho:s.own with
         |false=>exact bX _ _
         |true=>
          have hB:bAu s.rs=ah:=by rw[<-r3];cases gw:v.t<;>simp[bAu,gw]
          have hw1:a2B U S1 rs=ae/\QN s.rs=ae:=by
           cases hf:aF8 U S1 rs with
           |true=>
            simp only[Lk,ho,hf,aI,hB,Bool.or_false,aC]at hw;exact⟨hw.2,hw.1⟩
           |false=>simp[Lk,ho,hf,hB]at hw
          obtain⟨hw1,hw2⟩:=hw1;have nc: ∃t,rs=[.tmp t]/\qA (lW S1 t).2=ae:=by
           unfold a2B at hw1;split at hw1
           .exact⟨_,rfl,hw1⟩
           .cases hw1
          obtain⟨t,rfl,hst2⟩:=nc;have lj:=r4 t w rfl rfl;have cw:lV v.t=ah:=by
           have hw3:QN [v.t]=ae:=by rw[<-r3]at hw2;exact hw2
           cases gw:v.t with
           |sl t=>rfl
           |_=>rw[gw]at hw3;cases hw3
          have lu:=oO hv cw;rcases(h3 t).2 0 ae (rW hst2)with⟨g1,_⟩|⟨_,_,g1,g2⟩
          .rw[<-lj,lu]at g1;cases g1
          .rw[<-lj]at g1 g2;intro o st hi;have hi:(o,st)∈Tq ae:=hi;simp only[Tq,List.mem_singleton,aB]at hi;refine .inr ⟨hi.1,?_,?_,λ_=>?_⟩
           .show isAgg (wk w.1)=ah;rw[hv.wk,<-hv.wk];cases hh:w.1 with
            |agg cs=>rw[hh]at lu;cases lu
            |sl z es=>cases es<;>rfl
            |_=>rfl
           .show(((w.2||kN w.1)&& !K2 w.1)||kN (wk w.1))=ae;rw[g1,g2 rfl];rfl
           .exact aGX w.1
        .show below p.next (wk w.1)=ae
         rw[hv.wk];exact RB hU _ _ _
   obtain⟨hslr,hbel⟩:=kn;have hmlen:m.length=s.bx.length:=vA o1;have hold: ∀id,id∈(p1.dirty.filter λid=>d8 id p.next)↔id∈p1.dirty/\id<p.next:=λid=>by
    rw[List.mem_filter];simp only[gZ,aD]
   have hidx: ∀k e id,cc k=aa e->e.id=aa id->∃x,m[k]?=aa x/\c1 k=aa e/\Di U c1 p1 e x:=by
    intro k e id hk hid;have bi:=gr k e hk;obtain⟨e',g1,g2⟩:=o2 k m[k] (aV (by omega))
    have:=h4.bor k e' g1 (by omega)
    rw[hk]at this;cases this;exact⟨_,aV (by omega),g1,g2⟩
   have np: ∀id,id<p.next->p1.get id=p1.mem.get id:=λid hi=>by
    have:d8 id p1.next=ae:=by rw[gZ,aD];exact Nat.lt_of_lt_of_le hi h5
    simp only[PSt.get,this,aI]
   have sa:(p1.dirty.filter λid=>d8 id p.next).all (wD p.next p1.mem)=ae:=by
    rw[bJ];intro id hi;obtain⟨hd,bi⟩:=(hold id).1 hi;obtain⟨k,e,g1,g2⟩:=h4.dirty id hd bi;obtain⟨x,g3,g4,g5⟩:=hidx k e id g1 g2;cases x with
    |gone=>exact(wV o1 k g3).elim
    |row t l=>
     obtain⟨_,hz,⟨g6,_⟩|⟨bu,g6,g7⟩⟩:=g5
     .rw[g2]at g6;cases g6
     rw[g2]at g6;cases g6;rw[np id bi]at g7;simp only[wD,g7,sU];exact IU λy hy=>by
      obtain⟨y',mq,hx⟩:=List.mem_flatMap.1 hy;obtain⟨a,_,rfl⟩:=List.mem_map.1 mq;exact E3 (bJ.1 (tZ hU t a) y hx)
    |bx sv rr=>
    obtain⟨bu,cs,g6,g7,g8,_⟩:=g5;rw[g2]at g6;cases g6;have g5:=g7;have g6:=g8;rw[np id bi]at g5;simp only[wD,g5,sU,bJ];intro y hy;cases sv with
    |val v=>
     obtain⟨k1,k2,k3⟩:=g6;exact aIv ((⟨k1,k2⟩:SR v.t v.x (cs.map (·.1))).gd hU (List.mem_map.2 ⟨y,hy,rfl⟩))
    |cl f caps=>
     obtain⟨pv,bb,e1,ps,e2,e3⟩:=g6;rw[e1,List.mem_singleton]at hy;rw[hy,e2];show(jK p.next []&&jK p.next ps)=ae
     rw[Fy e3 λk' e' bu gk h6 h7=>hin.lt k' e' bu (h4.bor k' e' h6 (by have:=Cd (rB o1 hb2 k f caps rr g3) k' gk;omega)) h7]
     rfl
    |nf=>
     obtain⟨bb,e1⟩:=g6;rw[e1,List.mem_singleton]at hy;rw[hy];rfl
    |_=>exact g6.elim
   have jo:PI.settle p (eJ vs).1 p1=⟨(p1.dirty.filter λid=>d8 id p.next).foldr (aIy p1.mem) p.mem,p.next,(p1.dirty.filter λid=>d8 id p.next).foldr Gy p.dirty,(p1.wr.filter λid=>d8 id p.next).foldr Gy p.wr⟩:=by
    unfold PI.settle;rw[hbel,sa];rfl
   have hfm:=B0 (mem:=p.mem) (q:=p1.mem) (old:=p1.dirty.filter λid=>d8 id p.next) (λid hi e=>by
    have:=bJ.1 sa id hi;simp only[wD,e]at this;cases this)
   have bc: ∀id,id<p.next->(PI.settle p (eJ vs).1 p1).get id=if id∈(p1.dirty.filter λid=>d8 id p.next)then p1.get id else p.get id:=by
    intro id hi;rw[jo];have hbl:d8 id p.next=ae:=by rw[gZ,aD];exact hi
    show(bif d8 id p.next then _ else ad)=_
    rw[hbl,aI,hfm id,np id hi];by_cases h6:id∈(p1.dirty.filter λid=>d8 id p.next)
    .rw[bI h6,bI h6]
    .rw[bH h6,bH h6];simp only[PSt.get,hbl,aI]
   have ry: ∀id,id<p.next->(PI.settle p (eJ vs).1 p1).get id=p1.get id:=by
    intro id hi;rw[bc id hi];by_cases h6:id∈(p1.dirty.filter λid=>d8 id p.next)
    .rw[bI h6]
    .rw[bH h6];exact(h4.old id hi λhd=>h6 ((hold id).2 ⟨hd,hi⟩)).symm
   refine⟨(eJ vs).1,(eJ vs).2,PI.settle p (eJ vs).1 p1,?_,?_⟩
   .have:HG P pc L code.pc rs args p=aa ((eJ vs).1,(eJ vs).2,PI.settle p (eJ vs).1 p1):=by
     simp only[HG,h2];cases fl with
     |exit id=>exact(bn id rfl).elim
     |normal=>simp only[r1]
     |ret=>simp only[r1]
    exact this
   .refine⟨by rw[htake];exact hslr,⟨m,by rw[gc];exact o1,λj x hj=>?_⟩,by rw[jo],λid hi dj=>?_,λid hi dj=>?_,λid hi=>?_,λid hi=>?_,λid hi=>?_⟩
    .obtain⟨e,g1,g2⟩:=o2 j x hj;have hjl:j<m.length:=by
      rcases b7 j m.length with h|h
      .exact h
      .rw[d9 h]at hj;cases hj
     have hcj:=h4.bor j e g1 (by omega)
     refine⟨e,hcj,?_⟩;cases x with
     |gone=>trivial
     |row t l=>
      obtain⟨k1,k2,k3⟩:=g2;refine⟨k1,k2,?_⟩;rcases k3 with k3|⟨id,k3,k4⟩
      .exact .inl k3
      .exact .inr ⟨id,k3,by rw[ry id (hin.lt j e id hcj k3)];exact k4⟩
     |bx sv rr=>
     obtain⟨id,cs,g2,g3,g4,g5⟩:=g2;refine⟨id,cs,g2,by rw[ry id (hin.lt j e id hcj g2)];exact g3,?_,g5⟩
     cases sv with
     |cl f caps=>
      obtain⟨pv,bb,e1,ps,e2,e3⟩:=g4;exact⟨pv,bb,e1,ps,e2,RS e3 λk' e' gk h6=>h4.bor k' e' h6 (by have:=Cd (rB o1 hb2 j f caps rr hj) k' gk;omega)⟩
     |_=>exact g4
    .rw[bc id hi,bH];intro h6;obtain⟨hd,bi⟩:=(hold id).1 h6;obtain⟨k,e,g1,g2⟩:=h4.dirty id hd bi;exact dj k e g1 g2
    .rw[jo]at dj;have dj:id∉(p1.dirty.filter λid=>d8 id p.next).foldr Gy p.dirty:=dj
     rw[fE]at dj;rw[bc id hi,bH λh6=>dj (.inl h6)]
    .rw[jo]at hi;have hi:id∈(p1.dirty.filter λid=>d8 id p.next).foldr Gy p.dirty:=hi
     rw[fE]at hi;rcases hi with h6|h6
     .obtain⟨hd,bi⟩:=(hold id).1 h6;exact .inr (h4.dirty id hd bi)
     .exact .inl h6
    .rw[jo];show id∈(p1.dirty.filter λid=>d8 id p.next).foldr Gy p.dirty
     rw[fE];exact .inr hi
    .rw[jo]at hi;have hi:id∈(p1.wr.filter λid=>d8 id p.next).foldr Gy p.wr:=hi
     rw[fE]at hi;rcases hi with h6|h6
     .rw[List.mem_filter,gZ,aD]at h6;exact .inr ((h4.wr id h6.1).2 h6.2)
     .exact .inl h6
  .cases cf
 .cases cf
def aIl{G:aQ8}{GP:aKv}(hG: ∀i s code rs,T.sig i=aa s->G i=aa (code,rs)->GP s.f=aa (code.pc,rs))(hA: ∀i s,T.sig i=aa s->Ca P s.f s.ps.length=ae)(L:Nat): ∀n,iW U T (vY U T G L n) (sS P T.orc GP L n):=by
 intro n;induction n with
 |zero=>intro inst s d out hs h;cases h
 |succ n ih=>
  intro inst s d out hs h p cc args S0 M0 hin;simp only[vY,hs]at h;split at h
  .rename_i s' code rs gy hg;cases gy;cases hb:aOE T.orc s&&an s.bx.length 100&&GS s.bx.length s.bx with
   |false=>rw[hb]at h;cases h
   |true=>
    rw[hb]at h;simp only[aC,d7]at hb;obtain⟨⟨hb0,hb1⟩,hb2⟩:=hb;rw[aI]at h;split at h
    .rename_i x hx;simp only[aA]at h;subst h;unfold aOv at hx;cases hf:am s.f T.orc.n with
     |false=>
      rw[hf,aJ]at hx;cases hm:am s.f T.orc.m with
      |false=>rw[hm]at hx;cases hx
      |true=>
       obtain⟨k1,k2,k3,k4,rfl,rfl⟩:=QL hb0 hf hm hin;rw[hm,aI]at hx;cases hx;refine⟨.v (.bool ae),ah,p,?_,?_⟩
       .simp only[sS,aOw,hf,hm,aI,aJ,bKV]
       .refine⟨?_,⟨[],?_,λj x hj=>(by cases hj)⟩,rfl,λ_ _ _=>rfl,λ_ _ _=>rfl,λid h=> .inl h,λid h=>h,λid h=> .inl h⟩
        .rw[k3,k4];exact⟨fP _,bX _ _⟩
        .rw[k3,k1,k2];rfl
     |true=>
      obtain⟨k1,k2,k3,k4,a,b,o1,o2,rfl,rfl⟩:=aAo hb0 hf hin;rw[hf,aI]at hx;simp only at hx;rw[aF]at hx;obtain⟨x,hx,rfl⟩:=hx;refine⟨.str x,ah,p,?_,?_⟩
      .simp only[sS,aOw,hf,aI,hx,aK,bKV]
      .refine⟨?_,⟨[],?_,λj x hj=>(by cases hj)⟩,rfl,λ_ _ _=>rfl,λ_ _ _=>rfl,λid h=> .inl h,λid h=>h,λid h=> .inl h⟩
       .rw[k3,k4];exact⟨FW _,bX _ _⟩
       .rw[k3,k1,k2];rfl
    rename_i cb;have dj:aOw T.orc s.f args=ad/\aTn T.orc s.f args=ae:=by
     unfold aOw aTn;cases hf:am s.f T.orc.n with
     |false=>
      cases hm:am s.f T.orc.m with
      |false=>exact⟨rfl,rfl⟩
      |true=>
       obtain⟨k1,k2,k3,k4,rfl,rfl⟩:=QL hb0 hf hm hin;unfold aOv at cb;rw[hf,aJ,hm,aI]at cb;cases cb
     |true=>
      obtain⟨k1,k2,k3,k4,a,b,o1,o2,rfl,rfl⟩:=aAo hb0 hf hin;unfold aOv at cb;rw[hf,aI]at cb;exact⟨cb,rfl⟩
    have jd:Ca P s.f args.length=ae:=by rw[hin.len];exact hA _ _ hs
    have hGP:=hG inst s code rs hs hg;obtain⟨pv,own,p',g1,g2⟩:=aEb hU hT ih hb1 hb2 h hin;exact⟨pv,own,p',by simp only[sS,dj.1,dj.2,jd,bD,Bool.or_self,aJ,hGP,g1],g2⟩
  .cases h
end
end Go.TV
namespace Go.TV
open Go.AI Go.PI
inductive aKu where
 |n
 |r (tk:List Nat) (fz:List (Nat×Nat)) (cl:List (Nat×Nat×List Nat))
 |s (a b:aKu)
 |c (a b:aKu)
 |b (a:aKu)
 |l (ct:Cut) (a:aKu)
 |o (a:aKu)
 |d (ct:Cut) (a:aKu)
 |i (ts:List Nat) (a:aKu)
def bF4(i:Nat):List (Nat×Nat)->List Bw
 |[]=>[]
 |x::xs=>bif am x.1 i then .freeze x.2::bF4 i xs else bF4 i xs
def HD(tk:List Nat)(fz:List (Nat×Nat))(i:Nat):List Bw:=bF4 i fz++ [.op i (eA i tk)]
def aCk(ops:Array Oper)(tk:List Nat)(fz:List (Nat×Nat)):Nat->List Nat->List Bw
 |0,l=>l.flatMap (HD tk fz)
 |f+1,a::i::s::l=>bif aTj ops a i s then .app a i s::aCk ops tk fz f l else HD tk fz a++aCk ops tk fz f (i::s::l)
 |_+1,l=>l.flatMap (HD tk fz)
def aIn:List (Nat×Nat×List Nat)->Nat->Nat×List Nat
 |[],_=>(0,[])
 |x::l,i=>bif am x.1 i then x.2 else aIn l i
def aXn(cl:List (Nat×Nat×List Nat)):Bw->TStep
 | .op i take=> .op i take (aIn cl i).1 (aIn cl i).2
 | .app a i s=> .app a i s
 | .freeze t=> .freeze t
def aOb(tk:List Nat)(fz:List (Nat×Nat))(cl:List (Nat×Nat×List Nat))(id:Nat)(ops:Array Oper):Bool->TC
 |true=> .region id ops ae (gG ops.toList []) ((aCk ops tk fz ops.size (zI ops (gG ops.toList []))).map (aXn cl))
 |false=> .region id ops ah [] ((aCk ops tk fz ops.size (List.range ops.size)).map (aXn cl))
def qS:Code->TC
 | .skip=> .skip
 | .label l=> .label l
 | .region id ops draw=>aOb [] [] [] id ops draw
 | .seq a b=> .seq (qS a) (qS b)
 | .cond x a b=> .cond x (qS a) (qS b)
 | .block id a=> .block id (qS a)
 | .exit id=> .exit id
 | .ret=> .ret
 | .scope a=> .scope (qS a)
 |c=> .other c
def aAI:List Nat->TC->TC
 |[],c=>c
 |t::ts,c=> .ice t (aAI ts c)
def iX:aKu->Code->TC
 | .n,c=>qS c
 | .d ct x,c=> .cut ct (iX x c)
 | .i ts x,c=>aAI ts (iX x c)
 | .r tk fz cl,c=>match c with| .region id ops draw=>aOb tk fz cl id ops draw|c=> .other c
 | .s x y,c=>match c with| .seq a b=> .seq (iX x a) (iX y b)|c=> .other c
 | .c x y,c=>match c with| .cond v a b=> .cond v (iX x a) (iX y b)|c=> .other c
 | .b x,c=>match c with| .block id a=> .block id (iX x a)|c=> .other c
 | .l ct x,c=>match c with| .loop a=> .loop ct (iX x a)|c=> .other c
 | .o x,c=>match c with| .scope a=> .scope (iX x a)|c=> .other c
def qC(a b:List Bw):gF (a++b)=gF a++gF b:=by
 induction a with
 |nil=>rfl
 |cons x a ih=>cases x<;>simp[gF,ih]
def aCl(i:Nat)(l:List (Nat×Nat)):gF (bF4 i l)=[]:=by
 induction l with
 |nil=>rfl
 |cons x l ih=>simp only[bF4];cases am x.1 i<;>simp[gF,ih]
def CA(tk:List Nat)(fz:List (Nat×Nat))(i:Nat):gF (HD tk fz i)=[i]:=by
 unfold HD;rw[qC,aCl];rfl
def uR(tk:List Nat)(fz:List (Nat×Nat))(l:List Nat):gF (l.flatMap (HD tk fz))=l:=by
 induction l with
 |nil=>rfl
 |cons i l ih=>rw[aN,qC,CA,ih];rfl
def DY(ops:Array Oper)(tk:List Nat)(fz:List (Nat×Nat)): ∀(f:Nat) (l:List Nat),gF (aCk ops tk fz f l)=l:=by
 intro f;induction f with
 |zero=>intro l;exact uR tk fz l
 |succ f ih=>
  intro l
  match l with
  |[]=>rfl
  |[a]=>exact uR tk fz [a]
  |[a,i]=>exact uR tk fz [a,i]
  |a::i::s::l=>
   simp only[aCk];cases aTj ops a i s with
   |true=>simp only[aI,gF,ih]
   |false=>simp only[aJ];rw[qC,CA,ih];rfl
def aDX(cl:List (Nat×Nat×List Nat))(l:List Bw):(l.map (aXn cl)).map TStep.un=l:=by
 induction l with
 |nil=>rfl
 |cons x l ih=>rw[aO,aO,ih];cases x<;>rfl
def ZQ(tk:List Nat)(fz:List (Nat×Nat))(cl:List (Nat×Nat×List Nat))(id:Nat)(ops:Array Oper)(draw:Bool):eS (aOb tk fz cl id ops draw).pc= .region id ops draw/\rR (aOb tk fz cl id ops draw).pc:=by
 cases draw with
 |true=>
  refine⟨rfl,?_⟩;show gG ops.toList []=gG ops.toList []/\gF _=_;rw[aDX];exact⟨rfl,DY _ _ _ _ _⟩
 |false=>
  refine⟨rfl,?_⟩;show gF _=_;rw[aDX];exact DY _ _ _ _ _
def aDN: ∀c:Code,eS (qS c).pc=c/\rR (qS c).pc:=by
 intro c;induction c with
 |region id ops draw=>exact ZQ _ _ _ _ _ _
 |seq a b ff jk=>exact⟨by simp only[qS,TC.pc,eS,ff.1,jk.1],ff.2,jk.2⟩
 |cond x a b ff jk=>exact⟨by simp only[qS,TC.pc,eS,ff.1,jk.1],ff.2,jk.2⟩
 |block id a ih=>exact⟨by simp only[qS,TC.pc,eS,ih.1],ih.2⟩
 |scope a ih=>exact⟨by simp only[qS,TC.pc,eS,ih.1],ih.2⟩
 |_=>exact⟨rfl,trivial⟩
def Rc(ts:List Nat)(c:TC):eS (aAI ts c).pc=eS c.pc/\(rR c.pc->rR (aAI ts c).pc):=by
 induction ts with
 |nil=>exact⟨rfl,id⟩
 |cons t ts ih=>exact⟨ih.1,ih.2⟩
def DJ: ∀(s:aKu) (c:Code),eS (iX s c).pc=c/\rR (iX s c).pc:=by
 intro s;induction s with
 |n=>exact aDN
 |r tk fz cl=>intro c;cases c<;>first|exact ZQ _ _ _ _ _ _|exact⟨rfl,trivial⟩
 |s x y mo pu=>intro c;cases c<;>first|exact⟨by simp only[iX,TC.pc,eS,(mo _).1,(pu _).1],(mo _).2,(pu _).2⟩|exact⟨rfl,trivial⟩
 |c x y mo pu=>intro c;cases c<;>first|exact⟨by simp only[iX,TC.pc,eS,(mo _).1,(pu _).1],(mo _).2,(pu _).2⟩|exact⟨rfl,trivial⟩
 |b x ih=>intro c;cases c<;>first|exact⟨by simp only[iX,TC.pc,eS,(ih _).1],(ih _).2⟩|exact⟨rfl,trivial⟩
 |l ct x ih=>intro c;cases c<;>first|exact⟨by simp only[iX,TC.pc,eS,(ih _).1],(ih _).2⟩|exact⟨rfl,trivial⟩
 |o x ih=>intro c;cases c<;>first|exact⟨by simp only[iX,TC.pc,eS,(ih _).1],(ih _).2⟩|exact⟨rfl,trivial⟩
 |d ct x ih=>intro c;exact⟨(ih c).1,(ih c).2⟩
 |i ts x ih=>intro c;exact⟨by simp only[iX,(Rc ts _).1,(ih c).1],(Rc ts _).2 (ih c).2⟩
structure cC where
 sig:Sz
 sk:aKu
def sT(P:aw)(f:Nat):Code:=match P.funcs[f]? with|some fn=>fn.body.getD .skip|none=> .skip
def HL(P:aw)(f:Nat):List ResultVar:=match P.funcs[f]? with|some fn=>fn.results.toList|none=>[]
def rN:List (Nat×cC)->Nat->Option cC
 |[],_=>ad
 |x::l,i=>bif am x.1 i then aa x.2 else rN l i
def Ba:List (Nat×cC)->Nat->Option cC
 |[],_=>ad
 |x::l,f=>bif am x.2.sig.f f then aa x.2 else Ba l f
def JV(l:List (Nat×cC))(i:Nat):Option Sz:=(rN l i).map (·.sig)
def GD(P:aw)(l:List (Nat×cC)):aQ8:=λi=>match rN l i with
 |some x=>aa (iX x.sk (sT P x.sig.f),HL P x.sig.f)
 |none=>ad
def Eg(P:aw)(l:List (Nat×cC)):aKv:=λf=>match Ba l f with
 |some x=>aa ((iX x.sk (sT P f)).pc,HL P f)
 |none=>ad
def bKW(P:aw)(l:List (Nat×cC))(x:cC):Prop:= ∃y,Ba l x.sig.f=aa y/\(iX y.sk (sT P x.sig.f)).pc=(iX x.sk (sT P x.sig.f)).pc
def aNL{P:aw}{l:List (Nat×cC)}(h: ∀i x,rN l i=aa x->bKW P l x): ∀i s code rs,JV l i=aa s->GD P l i=aa (code,rs)->Eg P l s.f=aa (code.pc,rs):=by
 intro i s code rs h1 h2;unfold JV at h1;unfold GD at h2;cases hx:rN l i with
 |none=>rw[hx]at h1;cases h1
 |some x=>
  rw[hx]at h1 h2;simp only[aK,aA,aB]at h1 h2;obtain⟨y,g1,g2⟩:=h i x hx;subst h1;obtain⟨rfl,rfl⟩:=h2;simp only[Eg,g1,g2]
def aCu{P C:aw}(h:C.funcs.toList.all (jW P)=ae){l:List (Nat×cC)}(hb: ∀f x,Ba l f=aa x->∃fn c,C.funcs[f]?=aa fn/\fn.body=aa c):WH P C (Eg C l):=by
 intro f c rs hf;unfold Eg at hf;split at hf<;>try cases hf
 rename_i x hx;obtain⟨fn,cd,h1,h2⟩:=hb f x hx;have e1:sT C f=cd:=by simp only[sT,h1,h2,Option.getD_some]
 refine⟨fn,h1,by rw[h2,(DJ _ _).1,e1],by simp only[HL,h1],(DJ _ _).2,?_⟩
 rw[bJ]at h;have:=h fn (by have:=Array.mem_of_getElem? h1;simpa using this)
 simp only[jW,h2,aC]at this;rw[(DJ _ _).1,e1];exact this.1
section
variable{U:hJ}{T:TP U.D}{W:Type}{c:pX U.D}{L:Nat}
def P7{f g:TS U.D->TM U.D->TK U.D W->Option W}(h: ∀S M K,f S M K=g S M K)(K:TK U.D W):DO U f K=DO U g K:=by
 funext fl S M;cases fl<;>first|exact h S M K|rfl
def bNm: ∀(code:TC) (S:TS U.D) (M:TM U.D) (K:TK U.D W),oG U T c (Dx U T c L) (Ex U T c L) code S M K=fO U T c L code S M K:=by
 intro code;induction code with
 |seq a b ff jk=>intro S M K;simp only[oG,fO];rw[ff,P7 jk]
 |cond x a b ff jk=>intro S M K;simp only[oG,fO,ff,jk]
 |block id a ih=>intro S M K;simp only[oG,fO,ih]
 |scope a ih=>intro S M K;simp only[oG,fO,ih]
 |ice t a ih=>intro S M K;simp only[oG,fO,ih]
 |_=>intro S M K;rfl
end
def Lp{N:Type}(F:Nat->Nat->Option N)(r:N):Prop:= ∃α,∀L n,α<=L->α<=n->F L n=aa r
section
variable{N W:Type}{r:W}
def jG{x:W}:Lp (λ_ _=>aa x) x:=⟨0,λ_ _ _ _=>rfl⟩
end
end Go.TV
