import Derived.Test.YtjapdpcodgaoaaaGreatDoorKe
open Option renaming some->aa,none->ae,getD_some->od
open Bool renaming true->ah,false->aj,or_eq_true->d7,not_eq_true'->io,true_and->iu,and_self->n8
open Decidable renaming decide->ak
open Nat renaming beq->ao,ble->aq,lt_or_ge->b8,ble_eq->d8,blt->d9,le_add_right->iq,zero_add->ir,le_trans->oi
open Go renaming TypeId->aw,Program->az,Operand->a8,Oper->ic
open List renaming getElem?_eq_none->ed,mem_of_getElem?->ef,getElem?_append_right->eo,mem_singleton->ig,mem_cons->ik,length_map->iw,mem_map->ix,getElem?_append_left->i7,getElem?_take->m6,getElem?_drop->m7,getElem?_map->m8,mem_append->oa,length_take->og,length_drop->oh
set_option linter.all false
namespace Go.TV
open Go.AI Go.PI
def gd:PV->Bool
 | .v _| .str _| .emp=>ah
 | .sl _ (_::_)=>ah
 |_=>aj
def eA(U:iY):(t:Ty)->Den U.D t->PV
 | .int k,n=> .v (.int k n)
 | .bool,b=> .v (.bool b)
 | .str,s=> .str s
 | .sl t,l=>eO (dW U t) (List.map (eA U t) l)
 | .rc n,x=> .agg (U.en n x)
def en{U:iY}(v:V U):PV:=eA U v.t v.x
def QA(U:iY)(t:Ty):au PV:=(kC U t).flatMap aNh
def aTg(l:au PV)(i:Nat):Bool:=match l[i]? with|some .nil=>ah|_=>aj
def bKl:PV->Bool
 | .v _| .str _=>ah
 |_=>aj
structure jA(U:iY):Prop where
 eqc: ∀n f x,U.eq n=aa f->(U.en n x).all bKl=ah
 ty: ∀n x,(U.un n x).map (λv=>v.t)=U.fs n
 un_of: ∀n l x,U.of n l=aa x->U.un n x=l
 en: ∀n x,U.en n x=(U.un n x).flatMap λv=>(eA U v.t v.x).cells
 len: ∀n x,(U.en n x).length=U.sz n
 sz: ∀n,U.sz n=fD U (U.fs n)
 gd: ∀n x,(U.en n x).all gd=ah
 pos: ∀n,1<=U.sz n
 zero: ∀n,U.un n (U.zero n)=(U.fs n).map λt=>⟨t,qZ U t⟩
 lt: ∀n,U.lt n=(U.fs n).flatMap (kC U)
 zc: ∀n,wks ((U.lt n).flatMap aNh)=U.en n (U.zero n)
 nz: ∀n,(BJ U (.rc n)).all (λx=>aTg ((U.lt n).flatMap aNh) x.1)=ah
 ltl: ∀n,(U.lt n).length=U.sz n
def a3W{x:PV}(h:gd x=ah):x.pur=ah:=by cases x<;>first|rfl|simp[gd]at h
def aHP{x:PV}(h:gd x=ah):wk x=x:=by
 cases x with
 |sl z es=>cases es with
  |nil=>simp[gd]at h
  |cons e es=>rfl
 |_=>first|rfl|simp[gd]at h
def qI{x:PV}(h:gd x=ah):x.cells=[x]:=by cases x<;>first|rfl|simp[gd]at h
def CM{x:PV}(h:gd x=ah):LX x=aj:=by
 cases x with
 |sl z es=>cases es with
  |nil=>simp[gd]at h
  |cons e es=>rfl
 |_=>first|rfl|simp[gd]at h
def FY{x:PV}{n:Nat}(h:gd x=ah):below n x=ah:=by cases x<;>first|rfl|simp[gd]at h
def fK(z:Nat)(l:au PV):gd (eO z l)=ah:=by cases l<;>rfl
def oG(l:au PV):wks l=l.map wk:=by induction l with
 |nil=>rfl
 |cons x l ih=>simp only[wks,ih,aO]
def Mb{l:au PV}(h:l.all gd=ah):wks l=l:=by
 rw[oG];induction l with
 |nil=>rfl
 |cons x l ih=>
  simp only[aP,aC]at h;rw[aO,aHP h.1,ih h.2]
section
variable{U:iY}(hU:jA U)
include hU
def vW(t:Ty)(x:Den U.D t):(eA U t x).cells.all gd=ah:=by
 cases t with
 |int k=>rfl
 |bool=>rfl
 |str=>rfl
 |sl t=>simp only[eA,qI (fK _ _),aP,fK,List.all_nil,n8]
 |rc n=>exact hU.gd n x
def jT(t:Ty)(x:Den U.D t):(eA U t x).cells.length=dW U t:=by
 cases t with
 |int k=>rfl
 |bool=>rfl
 |str=>rfl
 |sl t=>simp only[eA,qI (fK _ _),dW,aM,aX]
 |rc n=>exact hU.len n x
def aBl(t:Ty)(x:Den U.D t):wk (eA U t x)=eA U t x:=by
 cases t with
 |int k=>rfl
 |bool=>rfl
 |str=>rfl
 |sl t=>exact aHP (fK _ _)
 |rc n=>simp only[eA,wk,Mb (hU.gd n x)]
def rP(t:Ty):1<=dW U t:=by
 cases t with
 |rc n=>exact hU.pos n
 |_=>exact aS _
def Sb(n:Nat)(t:Ty)(x:Den U.D t):below n (eA U t x)=ah:=by
 cases t with
 |int k=>rfl
 |bool=>rfl
 |str=>rfl
 |sl t=>exact FY (fK _ _)
 |rc m=>
  show kG n (U.en m x)=ah;rw[gJ];intro c hc;exact FY (bK.1 (hU.gd m x) c hc)
end
section
variable{U:iY}{p:PV}
def Tl{x:Value}(h:wk p= .v x):p= .v x:=by
 cases p with
 |v y=>exact h
 |sl z es=>cases es<;>simp[wk]at h
 |_=>simp[wk]at h
def KO{x:au UInt8}(h:wk p= .str x):p= .str x:=by
 cases p with
 |str y=>exact h
 |sl z es=>cases es<;>simp[wk]at h
 |_=>simp[wk]at h
def Tn{x:au PV}(h:wk p= .agg x): ∃cs,p= .agg cs/\wks cs=x:=by
 cases p with
 |agg y=>simp only[wk,PV.agg.injEq]at h;exact⟨y,rfl,h⟩
 |sl z es=>cases es<;>simp[wk]at h
 |_=>simp[wk]at h
def aVR(h:wk p= .emp):p= .emp∨p= .nil∨∃z,p= .sl z []:=by
 cases p with
 |emp=>exact .inl rfl
 |nil=>exact .inr (.inl rfl)
 |sl z es=>cases es with
  |nil=>exact .inr (.inr ⟨z,rfl⟩)
  |cons e es=>simp[wk]at h
 |_=>simp[wk]at h
def a7a{z:Nat}{e:PV}{es:au PV}(h:wk p= .sl z (e::es)):p= .sl z (e::es):=by
 cases p with
 |sl z es=>cases es with
  |nil=>simp[wk]at h
  |cons e es=>exact h
 |_=>simp[wk]at h
def aEi{z:Nat}{es:au PV}(h:wk p=eO z es):(es=[]/\(p= .emp∨p= .nil∨∃z,p= .sl z []))∨(es≠ []/\p= .sl z es):=by
 cases es with
 |nil=>exact .inl ⟨rfl,aVR h⟩
 |cons e es=>exact .inr ⟨by simp,a7a h⟩
def aIc{z:Nat}{es:au PV}(h:wk p=eO z es)(hz: ∀z',p= .sl z' []->z'=z):qL z p=aa es:=by
 rcases aEi h with⟨rfl,rfl|rfl|⟨z',rfl⟩⟩|⟨_,rfl⟩
 .rfl
 .rfl
 .have:=hz z' rfl;subst this;simp[qL]
 .simp[qL]
end
section
variable(U:iY)
def QB(ts:au Ty)(cs:au PV):Prop:= ∀(j z:Nat),cs[j]?=aa (.sl z [])->∃e,ts[j]?=aa (.sl e)/\z=dW U e
structure VR(t:Ty)(x:Den U.D t)(p:PV):Prop where
 wk:PI.wk p=eA U t x
 z:QB U (kC U t) p.cells
structure Ce where
 id:Option Nat
 n:Nat
 z:Nat
abbrev Cx:=Nat->f9 Ce
def At(c:Cx):au Nat->au PV->Prop
 |[],[]=>True
 |k::ks,p::ps=>(∃e id,c k=aa e/\e.id=aa id/\p= .ptr id 0)/\At c ks ps
 |_,_=>False
def wH(c:Cx):SV U.D->PV->Prop
 | .val v,p=>VR U v.t v.x p
 | .tup l,p=> ∃ps,p= .tup ps/\ps=l.map λv=>eA U v.t v.x
 | .nl,p=>p= .nil
 | .lc k off _,p=> ∃e id,c k=aa e/\e.id=aa id/\p= .ptr id off
 | .ep v,p=> ∃es i off e,p= .pin es i off/\es[i]?=aa e/\(e.cells.drop off).take (dW U v.t)=(eA U v.t v.x).cells
 | .rw k,p=> ∃e,c k=aa e/\((e.id=ae/\e.n=0/\(p= .sl e.z []∨p= .emp))∨∃id,e.id=aa id/\1<=e.n/\p= .rs id 0 e.n)
 | .rp k i off _,p=> ∃e id,c k=aa e/\e.id=aa id/\0<=i/\i<(e.n:Int)/\p= .ptr id (i.toNat*e.z+off)
 | .cl f caps,p=> ∃ps,p= .fn f [] ps/\At c caps ps
 | .nf,p=>p= .v .nilFunc
 | .zr l,p=>p= .agg l
 | .no,_=>True
def isAgg:PV->Bool
 | .agg _=>ah
 |_=>aj
def aD4(rs:kA)(p:PV)(ow:Bool):Prop:=
 ∀o s,(o,s)∈rs->(isAgg p=ah/\p.cells[o]?=aa .nil)∨(o=0/\isAgg p=aj/\(ow||lV p)=ah/\(s=ah->LX p=aj))
def rR(c:Cx)(x:X U)(y:PV×Bool):Prop:=wH U c x.1 y.1/\aD4 x.2 y.1 y.2
def mZ(c:Cx)(S:TS U.D)(S':PS):Prop:= ∀t,rR U c (mY S t) (S'.at t)
def Bc(c:Cx):SV U.D->au (PV×Bool)->Prop
 | .val v,cs=>wks (cs.map (·.1))=(eA U v.t v.x).cells/\QB U (kC U v.t) (cs.map (·.1))/\∀x∈cs,x.1≠ .nil
 | .cl f caps,cs=> ∃p b,cs=[(p,b)]/\wH U c (.cl f caps) p
 | .nf,cs=> ∃b,cs=[(.v .nilFunc,b)]
 |_,_=>False
def bGQ(rs:kA)(cs:au (PV×Bool)):Prop:= ∀o s,(o,s)∈rs->∃x,cs[o]?=aa (x,ah)/\(s=ah->LX x=aj)
def D4(c:Cx)(p:PSt)(e:Ce):BC U.D->Prop
 | .bx s r=> ∃id cs,e.id=aa id/\p.get id=aa (.box cs)/\Bc U c s cs/\bGQ r cs
 | .row t l=>e.n=l.length/\e.z=dW U t/\((e.id=ae/\l=[])∨∃id,e.id=aa id/\p.get id=aa (.row e.z (mW t) ((l.map (eA U t)).flatMap PV.cells)))
 | .gone=>True
structure MR(q:PSt)(c0 c:Cx)(M:TM U.D)(p:PSt):Prop where
 dom: ∀k,eB M.bx k=ae->c k=ae
 bx: ∀k b,eB M.bx k=aa b->∃e,c k=aa e/\D4 U c p e b
 lt: ∀k e id,c k=aa e->e.id=aa id->id<p.next
 inj: ∀k k' e e' id,c k=aa e->c k'=aa e'->e.id=aa id->e'.id=aa id->k=k'
 next:q.next<=p.next
 bor: ∀k e,c k=aa e->k<100->c0 k=aa e
 loc: ∀k e id,c k=aa e->100<=k->e.id=aa id->q.next<=id
 old: ∀id,id<q.next->id∉p.dirty->p.get id=q.get id
 dirty: ∀id,id∈p.dirty->id<q.next->∃k e,c0 k=aa e/\e.id=aa id
 wr: ∀id,id∈p.wr->id<p.next/\(id<q.next->∃k e,c0 k=aa e/\e.id=aa id)
def WR(c:Cx)(M:TM U.D)(p:PSt):Prop:= ∀id,id∈p.wr->∀k e,c k=aa e->e.id=aa id->eM k M.wr=ah
def leC(c c':Cx):Prop:= ∀k e,c k=aa e->c' k=aa e
end
def bHN(P:az)(U:iY)(T:TP U.D)(id:aw):Ty->Prop
 | .int k=>P.underlying id=aa (.int k)
 | .bool=>P.underlying id=aa .bool
 | .str=>P.underlying id=aa .string
 | .sl t=> ∃e,P.underlying id=aa (.slice e)/\T.T.ty e=aa t/\T.el id=aa e
 | .rc n=>T.T.arr id=aj->∃fs,P.underlying id=aa (.struct fs)/\fs.size=(U.fs n).length/\∀i f,fs[i]?=aa f->T.T.ty f.type=(U.fs n)[i]?/\f.offset=lG U n i
def aC6(U:iY):au Ty->Nat->au (Nat×Nat)
 |[],_=>[]
 |t::ts,o=>(o,dW U t)::aC6 U ts (o+dW U t)
structure tR(P:az)(U:iY)(T:TP U.D):Prop where
 ag: ∀id t,T.T.ty id=aa t->mB P id=aa (mW t)
 sz: ∀id t,T.T.ty id=aa t->iN P id=aa (dW U t)
 un: ∀id t,T.T.ty id=aa t->bHN P U T id t
 zc: ∀id t,T.T.ty id=aa t->zeroCells P id=aa (QA U t)
 fn: ∀id,T.T.fn id=ah->mB P id=aa aj/\iN P id=aa 1/\zeroCells P id=aa [.v .nilFunc]
 inf: ∀id t,T.T.ty id=aa t->∃info z,P.info? id=aa info/\info.size=dW U t/\info.bytes=T.T.by' id/\1<=info.bytes/\info.zero=aa z/\z.cells.size=info.size/\ofVs z.cells.toList=QA U t/\z.cells.toList.all bZ=ah
 bd: ∀id n,T.T.ty id=aa (.rc n)->T.T.arr id=aj->∃fs pl,P.underlying id=aa (.struct fs)/\cU P (fs.mapM λf=>do pure (f.offset,<-Go.sizeOf f.type))=aa pl/\pl.toList=aC6 U (U.fs n) 0
 arr: ∀id n,T.T.ty id=aa (.rc n)->T.T.arr id=ah->∃len e te,P.underlying id=aa (.array len e)/\iN P e=aa (dW U te)/\U.fs n=List.replicate len te
 eq: ∀id n f,T.T.ty id=aa (.rc n)->U.eq n=aa f->∀(x y:U.D n) (a b:a8),
  pJ P .eql id a b (.agg (U.en n x)) (.agg (U.en n y))=aa (.v (.bool (f x y)))/\pJ P .neq id a b (.agg (U.en n x)) (.agg (U.en n y))=aa (.v (.bool (!f x y)))
section
variable{U:iY}{c c':Cx}{S:TS U.D}{S':PS}
def aCL{T:TP U.D}{id:aw}{t:Ty}(h:QF T.T id=aa t):T.T.ty id=aa t/\T.T.arr id=aj:=by
 unfold QF at h;cases ha:T.T.arr id with
 |true=>rw[ha]at h;cases h
 |false=>rw[ha]at h;exact⟨h,rfl⟩
def NX(h:leC c c'): ∀{ks:au Nat} {ps:au PV},At c ks ps->At c' ks ps
 |[],[],_=>trivial
 |k::ks,p::ps,⟨⟨e,id,h1,h2,h3⟩,h4⟩=>⟨⟨e,id,h k e h1,h2,h3⟩,NX h h4⟩
 |[],_::_,hh=>hh.elim
 |_::_,[],hh=>hh.elim
def aEL(h:leC c c'){x:SV U.D}{p:PV}(r:wH U c x p):wH U c' x p:=by
 cases x with
 |val v=>exact r
 |tup l=>exact r
 |nl=>exact r
 |lc k off q=>obtain⟨e,id,h1,h2,h3⟩:=r;exact⟨e,id,h k e h1,h2,h3⟩
 |ep v=>exact r
 |rw k=>obtain⟨e,h1,h2⟩:=r;exact⟨e,h k e h1,h2⟩
 |rp k i off q=>obtain⟨e,id,h1,h2,h3⟩:=r;exact⟨e,id,h k e h1,h2,h3⟩
 |cl f caps=>obtain⟨ps,h1,h2⟩:=r;exact⟨ps,h1,NX h h2⟩
 |nf=>exact r
 |zr l=>exact r
 |no=>trivial
def aXk(h:leC c c'){x:X U}{p:PV×Bool}(r:rR U c x p):rR U c' x p:=⟨aEL h r.1,r.2⟩
def UB(h:leC c c')(F:mZ U c S S'):mZ U c' S S':=λt=>aXk h (F t)
def leC.refl(c:Cx):leC c c:=λ_ _ h=>h
def leC.trans{c'':Cx}(h:leC c c')(h':leC c' c''):leC c c'':=λk e hh=>h' k e (h k e hh)
def cJ(p:PV)(ow:Bool):aD4 [] p ow:=λo s h=>by cases h
def aOa{rs:kA}{p:PV}{ow ow':Bool}(h:aD4 rs p ow)(ha:isAgg p=ah):aD4 rs p ow':=λo s hm=>by
 rcases h o s hm with h1|⟨_,h2,_⟩
 .exact .inl h1
 .rw[ha]at h2;cases h2
def aFf{rs:kA}{p:PV}{ow ow':Bool}(h:aD4 rs p ow)(ho:ow=ah->(ow'||lV p)=ah):aD4 rs p ow':=λo s hm=>by
 rcases h o s hm with h1|⟨h1,h2,h3,h4⟩
 .exact .inl h1
 .refine .inr ⟨h1,h2,?_,h4⟩;cases ow with
  |true=>exact ho rfl
  |false=>simp only[Bool.false_or]at h3;rw[h3,Bool.or_true]
def aNB{v:V U}{p:PV}(h:VR U v.t v.x p)(hr:mW v.t=ah):isAgg p=ah:=by
 obtain⟨t,x⟩:=v;cases t with
 |rc n=>obtain⟨cs,rfl,_⟩:=Tn h.wk;rfl
 |_=>cases hr
def qB{v:V U}{p:PV}(h:VR U v.t v.x p)(hr:mW v.t=aj):isAgg p=aj:=by
 obtain⟨t,x⟩:=v;cases t with
 |rc n=>cases hr
 |int k=>rw[Tl h.wk];rfl
 |bool=>rw[Tl h.wk];rfl
 |str=>rw[KO h.wk];rfl
 |sl t=>rcases aEi h.wk with⟨_,h1|h1|⟨z,h1⟩⟩|⟨_,h1⟩<;>rw[h1]<;>rfl
def xN{x:X U}{p:PV}{ow:Bool}(h:rR U c x (p,ow)):rR U c (vR U x) (p,aj):=by
 obtain⟨sv,rs⟩:=x;obtain⟨h1,h2⟩:=h;cases sv with
 |val v=>
  cases hr:mW v.t with
  |true=>simp only[vR,hr,aI];exact⟨h1,aOa h2 (aNB h1 hr)⟩
  |false=>simp only[vR,hr,aJ];exact⟨h1,cJ _ _⟩
 |nl=>
  refine⟨h1,λo s hm=>?_⟩
  simp only[vR,ig,aB]at hm;have h3:p= .nil:=h1;exact .inr ⟨hm.1,by rw[h3];rfl,by rw[h3];rfl,λ_=>by rw[h3];rfl⟩
 |_=>exact⟨h1,cJ _ _⟩
def sE(S':PS)(t k:Nat)(x:PV×Bool):(S'.set t x).at k=if k=t then x else S'.at k:=by
 unfold PS.set PS.at;simp only;by_cases h:k=t
 .subst h;simp
 .have:ao k t=aj:=by rw[<-Bool.not_eq_true];intro hh;exact h (aE hh)
  rw[this,bI h];rfl
def zK(S:TS U.D)(t k:Nat)(x:X U):mY ((t,x)::S) k=if k=t then x else mY S k:=by
 show(bif ao t k then x else mY S k)=_;by_cases h:k=t
 .subst h;simp
 .have:ao t k=aj:=by rw[<-Bool.not_eq_true];intro hh;exact h (aE hh).symm
  rw[this,bI h];rfl
def uY(F:mZ U c S S'){t:Nat}{x:X U}{y:PV×Bool}(h:rR U c x y):mZ U c ((t,x)::S) (S'.set t y):=λk=>by
 rw[zK,sE];by_cases e:k=t
 .rw[bJ e,bJ e];exact h
 .rw[bI e,bI e];exact F k
def BX(F:mZ U c S S'){d:f9 Tmp}{x:X U}{v:PV}{own:Bool}(h:rR U c x (v,own)):mZ U c (aCY U S d x) (S'.put d v own):=by
 cases d with
 |none=>exact F
 |some d=>exact uY F h
def tN(F:mZ U c S S')(x:a8):mZ U c (xM U S x) (oX S' x):=by
 cases x with
 |tmp t=>exact uY F (xN (ow:=(S'.at t).2) (F t))
 |_=>exact F
def RV(F:mZ U c S S'){t:Nat}{x:X U}(h:rR U c x (S'.at t)):mZ U c ((t,x)::S) S':=λk=>by
 rw[zK];by_cases e:k=t
 .rw[bJ e,e];exact h
 .rw[bI e];exact F k
def dO(F:mZ U c S S')(x:a8):rR U c (kE U S x) (dG S' x,jC S' x):=by
 cases x with
 |tmp t=>
  refine⟨(F t).1,aFf (F t).2 λh=>?_⟩
  simp only[jC,h,Bool.true_or]
 |const v=>
  have hv: ∀y,VR U y.t y.x (CF v)->rR U c (.val y,[]) (CF v,jC S' (.const v)):=λy h=>⟨h,cJ _ _⟩
  have h0: ∀(w:Value) (t:Ty) (h:CF v= .v w),QB U (kC U t) (CF v).cells:=λw t h j z hz=>by
   rw[h]at hz;cases j<;>simp[PV.cells]at hz
  cases v with
  |bool b=>exact hv ⟨.bool,b⟩ ⟨rfl,h0 _ _ rfl⟩
  |int k n=>exact hv ⟨.int k,n⟩ ⟨rfl,h0 _ _ rfl⟩
  |string s=>exact hv ⟨.str,s.data.toList⟩ ⟨rfl,λj z hz=>by cases j<;>simp[CF,PV.cells]at hz⟩
  |slice b l k=>
   cases b with
   |some b=>exact⟨trivial,cJ _ _⟩
   |none=>
    refine⟨rfl,λo s hm=>?_⟩
    simp only[kE,bOs,ig,aB]at hm;exact .inr ⟨hm.1,rfl,rfl,λ_=>rfl⟩
  |nilFunc=>exact⟨rfl,cJ _ _⟩
  |agg cs=>cases cs;exact⟨rfl,cJ _ _⟩
  |_=>exact⟨trivial,cJ _ _⟩
 |func f=>exact⟨⟨[],rfl,trivial⟩,cJ _ _⟩
 |global g=>exact⟨trivial,cJ _ _⟩
def Mr: ∀{l r:au PV},aD8 l r=ah->l=r:=by
 intro l;induction l with
 |nil=>intro r h;cases r with|nil=>rfl|cons x r=>cases h
 |cons x l ih=>
  intro r h;cases r with
  |nil=>cases x<;>first|cases h|(rename_i v;cases v<;>cases h)
  |cons y r=>
   unfold aD8 at h;split at h
   .rename_i heq;cases heq
   .rename_i e1 e2;cases e1;cases e2;simp only[aC,aD]at h;rw[h.1.1,h.1.2,ih h.2]
   .rename_i e1 e2;cases e1;cases e2;simp only[aC,aD]at h;rw[h.1,ih h.2]
   .rename_i e1 e2;cases e1;cases e2;rw[ih h]
   .rename_i e1 e2;cases e1;cases e2;simp only[aC,List.isEmpty_iff]at h;rw[h.1.1,h.1.2,ih h.2]
   .rename_i e1 e2;cases e1;cases e2;rw[ih h]
   .cases h
def mQ(hU:jA U){t:Ty}{s:SV U.D}{v:V U}{p:PV}(h:Ku U t s=aa v)(r:wH U c s p):v.t=t/\VR U v.t v.x p:=by
 cases s with
 |val w=>
  simp only[Ku]at h;cases hb:w.t.beq t with
  |false=>rw[hb]at h;cases h
  |true=>rw[hb]at h;cases h;exact⟨Ty.beq_eq hb,r⟩
 |nl=>
  simp only[Ku]at h;split at h
  .cases h;have hp:p= .nil:=r;subst hp;exact⟨rfl,rfl,λj z hz=>by cases j<;>simp[PV.cells]at hz⟩
  .cases h
 |zr l=>
  simp only[Ku]at h;split at h
  .rename_i n;cases hb:aD8 l ((U.lt n).flatMap aNh)with
   |false=>rw[hb]at h;cases h
   |true=>
    rw[hb]at h;cases h;have hp:p= .agg l:=r;subst hp;rw[Mr hb];refine⟨rfl,?_,λj z hz=>?_⟩
    .show PV.agg (wks _)= .agg _;rw[hU.zc n]
    .have hm:(PV.sl z [])∈(U.lt n).flatMap aNh:=ef hz;rw[List.mem_flatMap]at hm;obtain⟨t,_,h1⟩:=hm;cases t<;>simp[aNh]at h1
  .cases h
 |_=>cases h
def aEa(hU:jA U){t:f9 Ty}{s:SV U.D}{p:PV}(r:wH U c s p):wH U c (bGJ U t s) p:=by
 unfold bGJ;split
 .split
  .split
   .rename_i v hv;exact(mQ hU hv r).2
   .trivial
  .trivial
 .exact r
def qM{D:Nat->Type}{t u:Ty}{x:Den D t}{y:Den D u}(h:Vr t u x=aa y):(⟨t,x⟩:TV D)=⟨u,y⟩:=by
 unfold Vr at h;split at h
 .rename_i e _;subst e;cases h;rfl
 .cases h
end
section
variable{P:az}{U:iY}{T:TP U.D}
def lD(l:au PV):(wks l).length=l.length:=by rw[oG,iw]
def tW(l r:au PV):wks (l++r)=wks l++wks r:=by simp only[oG,List.map_append]
def Ev(l:au PV)(n:Nat):wks (l.drop n)=(wks l).drop n:=by simp only[oG,List.map_drop]
def Eu(l:au PV)(n:Nat):wks (l.take n)=(wks l).take n:=by simp only[oG,List.map_take]
def uX{c:PV}(h:gd (wk c)=ah): ∀cs,c≠ .agg cs:=λcs e=>by subst e;simp[wk,gd]at h
def mO{c:PV}(h: ∀cs,c≠ .agg cs):c.cells=[c]:=by
 cases c with
 |agg cs=>exact(h cs rfl).elim
 |_=>rfl
def aVQ{c:PV}(h:gd (wk c)=ah):c.one=ah:=by
 cases c with
 |agg cs=>simp[wk,gd]at h
 |tup cs=>simp[wk,gd]at h
 |und=>simp[wk,gd]at h
 |_=>rfl
def aRa{l:au PV}(h:(wks l).all gd=ah):l.all PV.one=ah:=by
 rw[oG,List.all_map,bK]at h;rw[bK];exact λx hx=>aVQ (h x hx)
def Tk{ts us:au Ty}{cs ds:au PV}(hl:ts.length=cs.length)(h:QB U ts cs)(h':QB U us ds):QB U (ts++us) (cs++ds):=λj z hj=>by
 by_cases hlt:j<cs.length
 .rw[i7 hlt]at hj;obtain⟨e,h1,h2⟩:=h j z hj;exact⟨e,by rw[i7 (by omega)];exact h1,h2⟩
 .rw[eo (by omega)]at hj
  obtain⟨e,h1,h2⟩:=h' _ z hj;exact⟨e,by rw[eo (by omega),hl];exact h1,h2⟩
def aEc{ts:au Ty}{cs:au PV}(h:QB U ts cs)(o n:Nat):QB U ((ts.drop o).take n) ((cs.drop o).take n):=λj z hj=>by
 rw[m6]at hj⊢;split at hj
 .rename_i hjn;rw[m7]at hj⊢;rw[bJ hjn];exact h _ z hj
 .cases hj
def Et{ts:au Ty}{cs:au PV}(h:cs.all gd=ah):QB U ts cs:=λj z hj=>by
 have:=bK.1 h _ (ef hj);simp[gd]at this
def aNo(ts:au Ty):QB U ts []:=λj z hj=>by simp at hj
variable(hU:jA U)
include hU
def A7(t:Ty):(kC U t).length=dW U t:=by
 cases t with
 |rc n=>exact hU.ltl n
 |_=>rfl
omit hU in
def KZ(ts us:au Ty):fD U (ts++us)=fD U ts+fD U us:=by
 induction ts with
 |nil=>simp[fD]
 |cons t ts ih=>simp only[aY,fD,ih,Nat.add_assoc]
def xZ(l:au (V U)):au PV:=l.flatMap λv=>(eA U v.t v.x).cells
omit hU in
def kF(v:V U)(l:au (V U)):xZ (v::l)=(eA U v.t v.x).cells++xZ l:=rfl
def Sm{l:au (V U)}{i:Nat}{v:V U}(h:l[i]?=aa v):
    ((xZ l).drop (fD U ((l.map λv=>v.t).take i))).take (dW U v.t)=(eA U v.t v.x).cells:=by
 induction l generalizing i with
 |nil=>simp at h
 |cons w l ih=>
  cases i with
  |zero=>
   simp only[aU,aA]at h;subst h;rw[kF,List.take_zero,fD,List.drop_zero];exact List.take_left' (jT hU _ _)
  |succ i=>
   rw[aT]at h;rw[kF,aO,List.take_succ_cons,fD];rw[<-ih h];congr 1;rw[<-List.drop_drop];congr 1;exact List.drop_left' (jT hU _ _)
def LW{ts:au Ty}{i:Nat}{t:Ty}(h:ts[i]?=aa t):((ts.flatMap (kC U)).drop (fD U (ts.take i))).take (dW U t)=kC U t:=by
 induction ts generalizing i with
 |nil=>simp at h
 |cons w l ih=>
  cases i with
  |zero=>
   simp only[aU,aA]at h;subst h;rw[aN,List.take_zero,fD,List.drop_zero];exact List.take_left' (A7 hU _)
  |succ i=>
   rw[aT]at h;rw[aN,List.take_succ_cons,fD];rw[<-ih h];congr 1;rw[<-List.drop_drop];congr 1;exact List.drop_left' (A7 hU _)
def CO{n i:Nat}{x:U.D n}{v:V U}(h:(U.un n x)[i]?=aa v):((U.en n x).drop (lG U n i)).take (dW U v.t)=(eA U v.t v.x).cells:=by
 rw[hU.en n x,lG,<-hU.ty n x];exact Sm hU h
def Gc{n i:Nat}{x:U.D n}{v:V U}(h:(U.un n x)[i]?=aa v):(U.fs n)[i]?=aa v.t:=by
 rw[<-hU.ty n x,m8,h];rfl
def Gd{n i:Nat}{t:Ty}(h:(U.fs n)[i]?=aa t):((U.lt n).drop (lG U n i)).take (dW U t)=kC U t:=by
 rw[hU.lt n];exact LW hU h
structure SR(t:Ty)(x:Den U.D t)(cs:List PV):Prop where
 wk:wks cs=(eA U t x).cells
 z:QB U (kC U t) cs
def SR.len{t:Ty}{x:Den U.D t}{cs:au PV}(h:SR t x cs):cs.length=dW U t:=by
 rw[<-lD,h.wk,jT hU]
def SR.gd{t:Ty}{x:Den U.D t}{cs:au PV}(h:SR t x cs){c:PV}(hc:c∈cs):gd (PI.wk c)=ah:=by
 have h1:=vW hU t x;rw[<-h.wk,oG,List.all_map,bK]at h1;exact h1 c hc
def SR.one{t:Ty}{x:Den U.D t}{cs:au PV}(h:SR t x cs):cs.all PV.one=ah:=aRa (by rw[h.wk];exact vW hU t x)
def SR.fld{n i:Nat}{x:U.D n}{cs:au PV}(h:SR (U:=U) (.rc n) x cs){v:V U}(hv:(U.un n x)[i]?=aa v):SR v.t v.x ((cs.drop (lG U n i)).take (dW U v.t)):=by
 refine⟨?_,?_⟩
 .rw[Eu,Ev,h.wk];exact CO hU hv
 .have:=aEc h.z (lG U n i) (dW U v.t);rw[show kC U (.rc n)=U.lt n from rfl,Gd hU (Gc hU hv)]at this
  exact this
omit hU in
def VR.sr{t:Ty}{x:Den U.D t}{p:PV}(h:VR U t x p):SR t x p.cells:=by
 refine⟨?_,h.z⟩;have h1:=h.wk;cases t with
 |rc n=>obtain⟨cs,rfl,h2⟩:=Tn h1;exact h2
 |int k=>rw[Tl h1];rfl
 |bool=>rw[Tl h1];rfl
 |str=>rw[KO h1];rfl
 |sl t=>
  have hg:gd (PI.wk p)=ah:=by rw[h1];exact fK _ _
  rw[mO (uX hg),eA,qI (fK _ _),wks,wks,h1,eA]
def BF(hT:tR P U T){id:aw}{t:Ty}(ht:T.T.ty id=aa t){x:Den U.D t}{cs:au PV}{off:Nat}(h:SR t x ((cs.drop off).take (dW U t))):
    ∃p,sX P id cs off=aa p/\VR U t x p/\p.cells=(cs.drop off).take (dW U t)/\isAgg p=mW t:=by
 have hl:=h.len hU;unfold sX;rw[hT.ag id t ht];cases hr:mW t with
 |true=>
  simp only[hT.sz id t ht,hl,Nat.beq_refl,aI];refine⟨_,rfl,⟨?_,h.z⟩,rfl,rfl⟩;cases t with
  |rc n=>simp only[PI.wk,h.wk];rfl
  |_=>cases hr
 |false=>
  simp only;have hs:dW U t=1:=by cases t<;>first|rfl|cases hr
  rw[hs]at h hl⊢;have hlt:off<cs.length:=by
   rw[og,oh]at hl;omega
  have vc:(cs.drop off).take 1=[cs[off]]:=by
   rw[List.drop_eq_getElem_cons hlt];rfl
  rw[vc]at h⊢;refine⟨cs[off],by rw[aV hlt],?_,?_,?_⟩
  .have hg:=h.gd hU (ig.2 rfl);refine⟨?_,?_⟩
   .have h1:=h.wk;rw[wks,wks]at h1;cases t with
    |rc n=>cases hr
    |int k=>exact List.head_eq_of_cons_eq h1
    |bool=>exact List.head_eq_of_cons_eq h1
    |str=>exact List.head_eq_of_cons_eq h1
    |sl t=>rw[eA,qI (fK _ _)]at h1;exact List.head_eq_of_cons_eq h1
   .rw[mO (uX hg)];exact h.z
  .exact mO (uX (h.gd hU (ig.2 rfl)))
  .have:=uX (h.gd hU (ig.2 rfl));cases hc:cs[off]<;>first|rfl|exact(this _ hc).elim
def zL{p:au Nat}: ∀{v w:V U} {o:Nat} {cs:au PV},BW U p v=aa (w,o)->SR v.t v.x cs->SR w.t w.x ((cs.drop o).take (dW U w.t))/\o+dW U w.t<=dW U v.t:=by
 induction p with
 |nil=>
  intro v w o cs h r;simp only[BW,aA,aB]at h;obtain⟨rfl,rfl⟩:=h;refine⟨?_,by omega⟩
  rw[List.drop_zero,List.take_of_length_le (by rw[r.len hU];exact aS _)]
  exact r
 |cons i p ih=>
  intro v w o cs h r;unfold BW at h;split at h
  .rename_i y hy;split at h
   .rename_i z hz;simp only[aA,aB]at h;obtain⟨h1,h2⟩:=h;obtain⟨t,x⟩:=v;unfold Me at hy;split at hy
    .rename_i n x' heq;cases heq;have kf:BW U p y=aa (w,z.2):=by rw[hz,<-h1]
     obtain⟨g1,g2⟩:=ih kf (r.fld hU hy);have bu:lG U n i+dW U y.t<=U.sz n:=by
      have hr:cs.length=U.sz n:=r.len hU;have:=(r.fld hU hy).len hU;rw[og,oh,hr]at this;have hp:=rP hU y.t;omega
     have ho:o=lG U n i+z.2:=by rw[<-h2];rfl
     subst ho;refine⟨?_,?_⟩
     .rw[List.drop_take,List.drop_drop,List.take_take,Nat.min_eq_left (by omega)]at g1
      exact g1
     .show _<=U.sz n;omega
    .cases hy
   .cases h
  .cases h
end
section
variable{P:az}{U:iY}{T:TP U.D}{c:Cx}{W:Type}{r:W}
def pU{N:Type}{a:f9 N}{K:N->f9 W}(h:ob a K=aa r): ∃x,a=aa x/\K x=aa r:=by
 cases a with
 |none=>cases h
 |some x=>exact⟨x,rfl,h⟩
def fX{b:Bool}{K:f9 W}(h:lZ b K=aa r):b=ah/\K=aa r:=by
 cases b with
 |false=>cases h
 |true=>exact⟨rfl,h⟩
def Gy{b:Bool}{A B:f9 W}(h:bW b A B=aa r):(b=ah/\A=aa r)∨(b=aj/\B=aa r):=by
 cases b with
 |false=>exact .inr ⟨rfl,h⟩
 |true=>exact .inl ⟨rfl,h⟩
def aSr(ts:au Ty)(x:Value):QB U ts (PV.v x).cells:=λj z hz=>by
 cases j<;>simp[PV.cells]at hz
def jI(k:IntKind)(n:Int):VR U (.int k) n (.v (.int k n)):=⟨rfl,aSr _ _⟩
def gF(b:Bool):VR U .bool b (.v (.bool b)):=⟨rfl,aSr _ _⟩
def GZ(s:au UInt8):VR U .str s (.str s):=⟨rfl,λj z hz=>by cases j<;>simp[PV.cells]at hz⟩
def jP{k:IntKind}{n:Int}{p:PV}(h:VR U (.int k) n p):p= .v (.int k n):=Tl h.wk
def of_bool{b:Bool}{p:PV}(h:VR U .bool b p):p= .v (.bool b):=Tl h.wk
def A6{s:au UInt8}{p:PV}(h:VR U .str s p):p= .str s:=KO h.wk
def Rs{n:Nat}{x:U.D n}{p:PV}(h:VR U (.rc n) x p): ∃cs,p= .agg cs/\wks cs=U.en n x:=Tn h.wk
def vN{t:Ty}{l:au (Den U.D t)}{p:PV}(h:VR U (.sl t) l p):qL (dW U t) p=aa (l.map (eA U t))/\((l=[]/\(p= .emp∨p= .nil∨p= .sl (dW U t) []))∨(l≠ []/\p= .sl (dW U t) (l.map (eA U t)))):=by
 have hz: ∀z',p= .sl z' []->z'=dW U t:=λz' e=>by
  obtain⟨e',h1,h2⟩:=h.z 0 z' (by rw[e];rfl)
  simp only[kC,aU,aA,Ty.sl.injEq]at h1;rw[h2,<-h1]
 have hw:PI.wk p=eO (dW U t) (l.map (eA U t)):=h.wk;refine⟨aIc hw hz,?_⟩;rcases aEi hw with⟨h1,h2⟩|⟨h1,h2⟩
 .refine .inl ⟨by simpa using h1,?_⟩
  rcases h2 with h2|h2|⟨z,h2⟩
  .exact .inl h2
  .exact .inr (.inl h2)
  .exact .inr (.inr (by rw[h2,hz z h2]))
 .exact .inr ⟨by simpa using h1,h2⟩
def AK(t:Ty)(l:au (Den U.D t)){z:Nat}{es:au PV}(hz:z=dW U t)(he:es=l.map (eA U t)):VR U (.sl t) l (eO z es):=by
 subst hz he;refine⟨aHP (fK _ _),λj z hj=>?_⟩
 rw[qI (fK _ _)]at hj;have:=fK (dW U t) (l.map (eA U t));cases j with
 |zero=>
  simp only[aU,aA]at hj;rw[hj]at this;simp[gd]at this
 |succ j=>simp at hj
def LD{op:BinOp}{t:aw}{x y:a8}{u w:Value}(hu:bZ u=ah)(hw:bZ w=ah):pJ P op t x y (.v u) (.v w)=(iX P op t x y u w).map CF:=by
 have h1:=Fj hu;have h2:=Fj hw;simp only[pJ,aEE,sN,hu,hw,aI,iX,h1,h2,n8]
def jN(s:au UInt8):Value:= .string ⟨s.toArray⟩
def aGq{op:BinOp}{t:aw}{x y:a8}{s u:au UInt8}:pJ P op t x y (.str s) (.str u)=(iX P op t x y (jN s) (jN u)).map CF:=by
 simp only[pJ,aEE,sN,iX,jN,dP,bZ,n8,aI]
def bq(s u:au UInt8):(s==u)=ak (s=u):=by by_cases h:s=u<;>simp[h]
def aPm{op:BinOp}{t:aw}{x y:a8}{k:IntKind}{a b:Int}{K:V U->f9 W}(h:aHj U op k a b K=aa r):
    ∃v w,K v=aa r/\pJ P op t x y (.v (.int k a)) (.v (.int k b))=aa w/\VR U v.t v.x w:=by
 have go: ∀(v:V U) (w:Value),K v=aa r->iX P op t x y (.int k a) (.int k b)=aa w->VR U v.t v.x (CF w)->∃v w,K v=aa r/\pJ P op t x y (.v (.int k a)) (.v (.int k b))=aa w/\VR U v.t v.x w:=
  λv w hk ha hv=>⟨v,CF w,hk,by rw[LD rfl rfl,ha];rfl,hv⟩
 cases op with
 |eql=>exact go _ _ h bCd (by rw[show(a==b)=ak (a=b) from rfl];exact gF _)
 |neq=>exact go _ _ h bB6 (gF _)
 |lss=>exact go _ _ h bB9 (gF _)
 |leq=>exact go _ _ h bCa (gF _)
 |gtr=>exact go _ _ h bCb (gF _)
 |geq=>exact go _ _ h bCc (gF _)
 |add=>exact go _ _ h bCg (jI _ _)
 |sub=>exact go _ _ h bB1 (jI _ _)
 |mul=>exact go _ _ h bB8 (jI _ _)
 |quo=>
  obtain⟨hb,hk⟩:=fX h;exact go _ _ hk (bB5 (by simpa using hb)) (jI _ _)
 |rem=>
  obtain⟨hb,hk⟩:=fX h;exact go _ _ hk (bB4 (by simpa using hb)) (jI _ _)
 |and=>exact go _ _ h bCf (jI _ _)
 |or=>exact go _ _ h bJV (jI _ _)
 |xor=>exact go _ _ h bB0 (jI _ _)
 |andNot=>exact go _ _ h aG3 (jI _ _)
 |_=>cases h
def aXn{op:BinOp}{t:aw}{x y:a8}{k j:IntKind}{a b:Int}{K:V U->f9 W}(h:a8m U op k a b K=aa r):
    ∃v w,K v=aa r/\pJ P op t x y (.v (.int k a)) (.v (.int j b))=aa w/\VR U v.t v.x w:=by
 have go: ∀(v:V U) (w:Value),K v=aa r->iX P op t x y (.int k a) (.int j b)=aa w->VR U v.t v.x (CF w)->∃v w,K v=aa r/\pJ P op t x y (.v (.int k a)) (.v (.int j b))=aa w/\VR U v.t v.x w:=
  λv w hk ha hv=>⟨v,CF w,hk,by rw[LD rfl rfl,ha];rfl,hv⟩
 cases op with
 |shl=>
  obtain⟨hb,hk⟩:=fX h;exact go _ _ hk (bB3 (by simpa using hb)) (jI _ _)
 |shr=>
  obtain⟨hb,hk⟩:=fX h;exact go _ _ hk (bB2 (by simpa using hb)) (jI _ _)
 |_=>cases h
def qP{op:BinOp}{t:aw}{x y:a8}{s u:au UInt8}{v:Value}(h:cU P (Op.stringOp op ⟨s.toArray⟩ ⟨u.toArray⟩)=aa v)(hv:dP v=ah)(qb:op= .eql∨op= .neq∨op= .lss∨op= .leq∨op= .gtr∨op= .geq∨op= .add):
    iX P op t x y (jN s) (jN u)=aa v:=by
 have e:cU P (do eqGuard op t x y (jN s) (jN u);binOp op t (jN s) (jN u))=aa v:=by
  rcases qb with rfl|rfl|rfl|rfl|rfl|rfl|rfl<;>
   simp only[jN,bT,eqGuard,bE,Bool.not_false,Bool.false_eq_true,bP,bQ,cB,aL,binOp,h]
 unfold iX dU;rw[show(dP (jN s)&&dP (jN u))=ah from rfl,aI,e]
 simp only[hv,aI]
def aNN{op:BinOp}{t:aw}{x y:a8}{a b:au UInt8}{K:V U->f9 W}(h:aEN U op a b K=aa r):
    ∃v w,K v=aa r/\pJ P op t x y (.str a) (.str b)=aa w/\VR U v.t v.x w:=by
 have go: ∀(v:V U) (w:Value),K v=aa r->iX P op t x y (jN a) (jN b)=aa w->VR U v.t v.x (CF w)->∃v w,K v=aa r/\pJ P op t x y (.str a) (.str b)=aa w/\VR U v.t v.x w:=
  λv w hk ha hv=>⟨v,CF w,hk,by rw[aGq,ha];rfl,hv⟩
 have hl: ∀s:au UInt8,(⟨s.toArray⟩:ByteArray).toList=s:=λs=>by rw[ByteArray.toList_mk]
 cases op with
 |eql=>exact go _ _ h (qP (v:= .bool (ak (a=b))) (by simp only[Op.stringOp,hl,bq];rfl) rfl (by simp)) (gF _)
 |neq=>exact go _ _ h (qP (v:= .bool (!decide (a=b))) (by simp only[Op.stringOp,hl,bq];rfl) rfl (by simp)) (gF _)
 |lss=>exact go _ _ h (qP (v:= .bool (Op.bytesLess a b)) (by simp only[Op.stringOp,hl,bq];rfl) rfl (by simp)) (gF _)
 |leq=>exact go _ _ h (qP (v:= .bool (Op.bytesLess a b||ak (a=b))) (by simp only[Op.stringOp,hl,bq];rfl) rfl (by simp)) (gF _)
 |gtr=>exact go _ _ h (qP (v:= .bool (!(Op.bytesLess a b||ak (a=b)))) (by simp only[Op.stringOp,hl,bq];rfl) rfl (by simp)) (gF _)
 |geq=>exact go _ _ h (qP (v:= .bool (!Op.bytesLess a b)) (by simp only[Op.stringOp,hl,bq];rfl) rfl (by simp)) (gF _)
 |add=>
  obtain⟨hb,hk⟩:=fX h;rw[d8]at hb;refine go _ _ hk (qP (v:= .string (⟨a.toArray⟩++⟨b.toArray⟩)) ?_ rfl (by simp)) ?_
  .simp only[Op.stringOp];rw[bI]
   .rfl
   .show¬((((⟨a.toArray⟩:ByteArray).data.size+(⟨b.toArray⟩:ByteArray).data.size:Nat):Int)>9223372036854775807);simp only[List.size_toArray];omega
  .show VR U .str _ (.str (((⟨a.toArray⟩:ByteArray)++⟨b.toArray⟩).data.toList));rw[ByteArray.data_append];simp only[Array.toList_append];exact GZ _
 |_=>cases h
def aQT(hU:jA U)(hT:tR P U T){op:BinOp}{t:aw}{x y:a8}{a b:SV U.D}{p p':PV}{K:V U->f9 W}(h:aDD U op (T.T.ty t) a b K=aa r)(ra:wH U c a p)(rb:wH U c b p'):
    ∃v w,K v=aa r/\pJ P op t x y p p'=aa w/\VR U v.t v.x w:=by
 unfold aDD at h;split at h
 .rename_i k n j m;rw[jP ra,jP rb];cases hs:aAZ op with
  |true=>rw[hs]at h;exact aXn h
  |false=>
   rw[hs]at h;simp only[aJ]at h;cases hj:ak (k=j)with
   |false=>rw[hj]at h;cases h
   |true=>
    rw[hj]at h;have:=bL hj;subst this;exact aPm h
 .rename_i n m;rw[of_bool ra,of_bool rb];split at h
  .rename_i _ ht;have hu:P.underlying t=aa .bool:=hT.un t .bool ht;exact⟨_,_,h,by rw[LD rfl rfl,bCe hu];rfl,gF _⟩
  .rename_i _ ht;have hu:P.underlying t=aa .bool:=hT.un t .bool ht;exact⟨_,_,h,by rw[LD rfl rfl,bB7 hu];rfl,gF _⟩
  .cases h
 .rw[A6 ra,A6 rb];exact aNN h
 .rename_i n x1 m y1;split at h
  .rename_i i ht;split at h
   .rename_i f x2 y2 hf h1 h2;have e1:=qM h1;have e2:=qM h2;have ra':VR U (.rc i) x2 p:=by have:=ra;unfold wH at this;rw[e1]at this;exact this
    have rb':VR U (.rc i) y2 p':=by have:=rb;unfold wH at this;rw[e2]at this;exact this
    obtain⟨cs,rfl,hc⟩:=Rs ra';obtain⟨ds,rfl,hd⟩:=Rs rb';have kg: ∀{cs:au PV} {x:U.D i},wks cs=U.en i x->cs=U.en i x:=by
     intro cs x hx;have h3:=hU.eqc i f x hf;rw[<-hx]at h3;rw[<-hx];clear hx;induction cs with
     |nil=>rfl
     |cons c cs ih=>
      simp only[wks,aP,aC]at h3;rw[wks,<-ih h3.2];congr 1;have h4:=h3.1;cases hc:wk c<;>rw[hc]at h4<;>first|exact Tl hc|exact KO hc|cases h4
    have he:=hT.eq t i f ht hf x2 y2 x y;rw[<-kg hc,<-kg hd]at he;split at h
    .exact⟨_,_,h,he.1,gF _⟩
    .exact⟨_,_,h,he.2,gF _⟩
    .cases h
   .cases h
  .cases h
 .rename_i e l;have hp:p'= .nil:=rb;subst hp;obtain⟨_,hl⟩:=vN ra;have key: ∀(op:BinOp),l.isEmpty=aj->(∃e',T.T.ty t=aa (.sl e'))->pJ P op t x y p .nil=a1e op p:=by
   intro op bi ⟨e',ht⟩;obtain⟨fp,hu,_⟩:=hT.un t _ ht;rcases hl with⟨rfl,_⟩|⟨_,rfl⟩
   .cases bi
   .simp only[pJ,aEE,sN,hu]
  have co:l.isEmpty=aj->∃z es,p= .sl z es:=λbi=>by
   rcases hl with⟨rfl,_⟩|⟨_,h1⟩
   .cases bi
   .exact⟨_,_,h1⟩
  split at h
  .rename_i ht;obtain⟨bi,hk⟩:=fX h;simp only[io]at bi;obtain⟨z,es,rfl⟩:=co bi;exact⟨_,_,hk,by rw[key _ bi ⟨_,ht⟩];rfl,gF _⟩
  .rename_i ht;obtain⟨bi,hk⟩:=fX h;simp only[io]at bi;obtain⟨z,es,rfl⟩:=co bi;exact⟨_,_,hk,by rw[key _ bi ⟨_,ht⟩];rfl,gF _⟩
  .cases h
 .cases h
end
section
variable{P:az}{U:iY}{T:TP U.D}{c:Cx}{W:Type}{r:W}
def aWx{op:UnOp}{a:SV U.D}{p:PV}{K:V U->f9 W}(h:a6s U op a K=aa r)(ra:wH U c a p): ∃v w,K v=aa r/\bBf P op p=aa w/\VR U v.t v.x w:=by
 unfold a6s at h;split at h
 .rw[of_bool ra];exact⟨_,_,h,rfl,gF _⟩
 .rename_i k n;rw[jP ra];refine⟨_,.v (.int k (k.wrap (0-n))),h,?_,jI _ _⟩;cases k<;>rfl
 .cases h
def Kp: ∀{l:au Int} {s:au UInt8},sC l=aa s->kX (l.map λn=>PV.v (.int .u8 n))=aa s
 |[],s,h=>by simp only[sC,aA]at h;subst h;rfl
 |n::l,s,h=>by
  unfold sC at h;split at h
  .rename_i s' hs;cases h;simp only[aO,kX,Kp hs,aK]
  .cases h
def aIw(hT:tR P U T){sq:Bool}{s d:aw}{a:SV U.D}{p:PV}{K:V U->f9 W}(h:Kj U sq (T.T.ty s) (T.T.ty d) a K=aa r)(ra:wH U c a p):
    ∃v w,K v=aa r/\VR U v.t v.x w/\(Az P s d p=aa w∨(sq=ah/\Az P s d p=ae/\CC P s d p=aa w)):=by
 unfold Kj at h;split at h
 .rename_i k1 j k n hs hd;rw[jP ra];have h1:P.underlying s=aa (.int k1):=hT.un s _ hs;have h2:P.underlying d=aa (.int j):=hT.un d _ hd;refine⟨_,.v (.int j (j.wrap n)),h,jI _ _,.inl ?_⟩;have:=a1I (k:=k) (a:=n) h1 h2;simp only[aI2,bZ,aI]at this;simp only[Az,sN,bZ,aI,this];rfl
 .rename_i x hs hd;rw[A6 ra];have h1:P.underlying s=aa .string:=hT.un s _ hs;have h2:P.underlying d=aa .string:=hT.un d _ hd;refine⟨_,.str x,h,GZ _,.inl ?_⟩;simp only[Az,sN,dU,convert,bT,cC,h1,h2,aL,cB,dP,aI];rfl
 .rename_i l hs hd;cases sq with
  |false=>cases h
  |true=>
   obtain⟨x,hx,hk⟩:=pU h;obtain⟨e,h1,he,_⟩:=hT.un s _ hs;have h2:P.underlying d=aa .string:=hT.un d _ hd;have h3:P.underlying e=aa (.int .u8):=hT.un e _ he;obtain⟨wf,hl⟩:=vN ra;refine⟨_,.str x,hk,GZ _,.inr ⟨rfl,?_,?_⟩⟩
   .have:sN p=ae:=by
     rcases hl with⟨_,rfl|rfl|rfl⟩|⟨_,rfl⟩<;>rfl
    simp only[Az,this]
   .have gu:qL 1 p=aa (l.map λn=>PV.v (.int .u8 n)):=wf
    simp only[CC,h1,h2,h3,gu,Kp hx,aK]
 .cases h
def aGn{w:Bool}{a b:X U}{p q:PV}{o1 o2:Bool}{K:X U->f9 W}(h:JM U w a b K=aa r)(ra:rR U c a (p,o1))(rb:rR U c b (q,o2)):
    ∃x,K x=aa r/\rR U c x (bif w then p else q,aj):=by
 unfold JM at h;split at h
 .rename_i t x u y ea eb;split at h
  .rename_i y' hy;have e:=qM hy;have h1:=ra.1;have h2:=rb.1;rw[ea]at h1;rw[eb,e]at h2;refine⟨_,h,?_,cJ _ _⟩;cases w with
   |true=>exact h1
   |false=>exact h2
  .cases h
 .rcases Gy h with⟨rfl,hk⟩|⟨rfl,hk⟩
  .exact⟨_,hk,xN ra⟩
  .exact⟨_,hk,xN rb⟩
def aPd(hT:tR P U T){t:aw}{x:SV U.D}{p:PV}{K:X U->f9 W}(h:aDf U (T.T.ty t) x K=aa r)(ra:wH U c x p):
    ∃y w,K y=aa r/\DQ P t p=aa w/\rR U c y (w,aj):=by
 unfold aDf at h;split at h
 .rename_i e e' l ht;cases he:e.beq e' with
  |false=>rw[he]at h;cases h
  |true=>
   rw[he]at h;obtain⟨fp,hu,_⟩:=hT.un t _ ht;obtain⟨_,hl⟩:=vN ra;refine⟨_,i64 (l.length:Int),h,?_,jI _ _,cJ _ _⟩;simp only[DQ,hu];rcases hl with⟨rfl,rfl|rfl|rfl⟩|⟨_,rfl⟩<;>simp
 .rename_i l ht;have hu:P.underlying t=aa .string:=hT.un t _ ht;rw[A6 ra];refine⟨_,i64 (l.length:Int),h,?_,jI _ _,cJ _ _⟩;simp only[DQ,hu]
 .rename_i e ht;have hp:p= .nil:=ra;subst hp;obtain⟨fp,hu,_⟩:=hT.un t _ ht;exact⟨_,i64 0,h,by simp only[DQ,hu],jI _ _,cJ _ _⟩
 .cases h
def aG5{mx:Bool}{ts:Array aw}{ty:aw}{a b:SV U.D}{p q:PV}{K:X U->f9 W}(h:a1O U mx a b K=aa r)(ra:wH U c a p)(rb:wH U c b q):
    ∃y w,K y=aa r/\pS P mx ts ty [p,q]=aa w/\rR U c y (w,aj):=by
 unfold a1O at h;split at h
 .rename_i x y;rw[jP ra,jP rb];refine⟨_,_,h,?_,jI _ _,cJ _ _⟩;cases mx with
  |true=>
   simp only[pS,Tu,sN,bZ,aI,dU,Builtin.max_,List.foldlM_cons,List.foldlM_nil,Builtin.max2,bT,cB,aL,dP];by_cases fw:x<y
   .simp[fw];rfl
   .simp[fw];rfl
  |false=>
   simp only[pS,Tu,sN,bZ,aI,aJ,dU,Builtin.min_,List.foldlM_cons,List.foldlM_nil,Builtin.min2,bT,cB,aL,dP];by_cases fw:y<x
   .simp[fw];rfl
   .simp[fw];rfl
 .cases h
def pT{x:f9 (SV U.D)}{y:f9 PV}{i:f9 Int}(h:aGu U x=aa i)(hr: ∀a,x=aa a->∃b,y=aa b/\wH U c a b)(hn:x=ae->y=ae):
    (i=ae/\y=ae)∨∃n k,i=aa n/\y=aa (.v (.int k n)):=by
 unfold aGu at h;split at h
 .cases h;exact .inl ⟨rfl,hn rfl⟩
 .rename_i k n;cases h;obtain⟨b,h1,h2⟩:=hr _ rfl;exact .inr ⟨n,k,rfl,by rw[h1,jP h2]⟩
 .cases h
def jO{S:TS U.D}{S':PS}(F:mZ U c S S')(x:f9 a8):(∀a,(x.map λx=>(kE U S x).1)=aa a->∃b,x.map (dG S')=aa b/\wH U c a b)/\((x.map λx=>(kE U S x).1)=ae->x.map (dG S')=ae):=by
 cases x with
 |none=>exact⟨λa h=>(by cases h),λ_=>rfl⟩
 |some x=>exact⟨λa h=>by cases h;exact⟨_,rfl,(dO F x).1⟩,λh=>by cases h⟩
def EK{N:Type}{l s:au N}{lo hi:Int}(h:slc l lo hi=aa s):0<=lo/\lo<=hi/\hi<=(l.length:Int)/\s=(l.take hi.toNat).drop lo.toNat:=by
 unfold slc at h;cases hb:ak (0<=lo)&&ak (lo<=hi)&&ak (hi<=(l.length:Int))with
 |false=>rw[hb]at h;cases h
 |true=>
  rw[hb]at h;simp only[aI,aA]at h;simp only[aC,aD]at hb;exact⟨hb.1.1,hb.1.2,hb.2,h.symm⟩
def R7(s:au UInt8)(l h:Nat):((⟨s.toArray⟩:ByteArray).extract l h).data.toList=(s.take h).drop l:=by
 rw[ByteArray.data_extract];simp only[Array.toList_extract,List.extract_eq_take_drop];rw[List.drop_take]
def aXi(hT:tR P U T){S:TS U.D}{S':PS}(F:mZ U c S S'){p:PSt}{t:aw}{x:SV U.D}{a:PV}{lo hi mx:f9 a8}{K:X U->f9 W}(h:a6w U S (T.T.ty t) x lo hi mx K=aa r)(ra:wH U c x a):
    ∃y w own,K y=aa r/\mG P p t a (lo.map (dG S')) (hi.map (dG S')) (mx.map (dG S'))=aa (w,own)/\rR U c y (w,own):=by
 unfold a6w at h;split at h
 .rename_i s l hh ht hl ko hm;have h1:=pT hl (jO F lo).1 (jO F lo).2;have h2:=pT ko (jO F hi).1 (jO F hi).2;have h3:=pT hm (jO F mx).1 (jO F mx).2;obtain⟨q,hq,hk⟩:=pU h;obtain⟨b1,b2,b3,rfl⟩:=EK hq;have hu:P.underlying t=aa .string:=hT.un t _ ht;rw[A6 ra];rcases h3 with⟨_,h3⟩|⟨_,_,h3,_⟩
  .refine⟨_,.str ((s.take (hh.getD (s.length:Int)).toNat).drop (l.getD 0).toNat),aj,hk,?_,GZ _,cJ _ _⟩;have key: ∀(lv hv:f9 Value),(lv=ae/\l=ae∨∃n k,l=aa n/\lv=aa (.int k n))->(hv=ae/\hh=ae∨∃n k,hh=aa n/\hv=aa (.int k n))->
          dU P (Instr.sliceAt t (.string ⟨s.toArray⟩) lv hv ae)=aa (.string ((⟨s.toArray⟩:ByteArray).extract (l.getD 0).toNat (hh.getD (s.length:Int)).toNat)):=by
    intro lv hv hlv hhv;have bu:(⟨s.toArray⟩:ByteArray).size=s.length:=by show s.toArray.size=_;simp
    have e:cU P (Instr.sliceBounds aj s.length s.length lv hv ae)=aa ((l.getD 0).toNat,(hh.getD (s.length:Int)).toNat,s.length):=by
     rcases hlv with⟨rfl,rfl⟩|⟨n,k,rfl,rfl⟩<;>rcases hhv with⟨rfl,rfl⟩|⟨m,j,rfl,rfl⟩
     .simp[Instr.sliceBounds,bT,cB]
     .simp only[Option.getD_none,od]at b1 b2 b3;simp[Instr.sliceBounds,Instr.sliceBound,asIntOf,bT,cB,b2,b3]
     .simp only[Option.getD_none,od]at b1 b2 b3;simp[Instr.sliceBounds,Instr.sliceBound,asIntOf,bT,cB,b1,b2]
     .simp only[od]at b1 b2 b3;have b0:0<=m:=by omega
      have b4:(m.toNat:Int)=m:=by omega
      simp[Instr.sliceBounds,Instr.sliceBound,asIntOf,bT,cB,b0,b1,b2,b3,b4]
    simp only[dU,Instr.sliceAt,Instr.slice,bT,cC,hu,aL,Option.isSome_none,Bool.false_eq_true,bP,cB,bu,e,dP,bZ,aI]
   have hv1: ∃lv,Ub (lo.map (dG S'))=aa lv/\(lv=ae/\l=ae∨∃n k,l=aa n/\lv=aa (.int k n)):=by
    rcases h1 with⟨rfl,e⟩|⟨n,k,rfl,e⟩
    .exact⟨ae,by rw[e];rfl,.inl ⟨rfl,rfl⟩⟩
    .exact⟨aa (.int k n),by rw[e];rfl,.inr ⟨n,k,rfl,rfl⟩⟩
   have hv2: ∃hv,Ub (hi.map (dG S'))=aa hv/\(hv=ae/\hh=ae∨∃n k,hh=aa n/\hv=aa (.int k n)):=by
    rcases h2 with⟨rfl,e⟩|⟨n,k,rfl,e⟩
    .exact⟨ae,by rw[e];rfl,.inl ⟨rfl,rfl⟩⟩
    .exact⟨aa (.int k n),by rw[e];rfl,.inr ⟨n,k,rfl,rfl⟩⟩
   obtain⟨lv,e1,g1⟩:=hv1;obtain⟨hv,e2,g2⟩:=hv2;simp only[mG,hu,e1,e2,h3,key lv hv g1 g2,aK,CF,R7]
  .cases h3
 .rename_i e e' s l hh ht hl ko hm;have h1:=pT hl (jO F lo).1 (jO F lo).2;have h2:=pT ko (jO F hi).1 (jO F hi).2;have h3:=pT hm (jO F mx).1 (jO F mx).2;cases he:e.beq e' with
  |false=>rw[he]at h;cases h
  |true=>
   rw[he]at h;have:=Ty.beq_eq he;subst this;obtain⟨q,hq,hk⟩:=pU h;obtain⟨b1,b2,b3,rfl⟩:=EK hq;obtain⟨fp,hu,jc,_⟩:=hT.un t _ ht;have bu:=hT.sz fp e jc;have i1:pK (lo.map (dG S'))=aa l:=by rcases h1 with⟨rfl,e⟩|⟨n,k,rfl,e⟩<;>rw[e]<;>rfl
   have i2:pK (hi.map (dG S'))=aa hh:=by rcases h2 with⟨rfl,e⟩|⟨n,k,rfl,e⟩<;>rw[e]<;>rfl
   have i3:pK (mx.map (dG S'))=aa ae:=by rcases h3 with⟨_,e⟩|⟨n,k,e,_⟩;rw[e];rfl;cases e
   obtain⟨_,sj⟩:=vN ra;refine⟨_,eO (dW U e) (((s.map (eA U e)).take (hh.getD (s.length:Int)).toNat).drop (l.getD 0).toNat),aj,hk,?_,AK _ _ rfl (by rw[List.map_drop,List.map_take]),cJ _ _⟩
   rcases sj with⟨rfl,h4⟩|⟨_,rfl⟩
   .have b2:l.getD 0<=hh.getD 0:=b2;have b3:hh.getD 0<=0:=b3;have c1:(ak (0<=l.getD 0)&&ak (l.getD 0<=hh.getD 0)&&ak (hh.getD 0<=0))=ah:=by
     simp only[aC,aD];exact⟨⟨b1,b2⟩,b3⟩
    rcases h4 with rfl|rfl|rfl
    .simp only[mG,hu,bu,i1,i2,i3,c1,aI];simp[eO]
    .simp only[mG,hu,bu,i1,i2,i3,c1,aI];simp[eO]
    .simp only[mG,hu,bu,i1,i2,i3,Nat.beq_refl,iu];rw[show(ak (0<=l.getD 0)&&ak (l.getD 0<=hh.getD ((([]:au PV).length:Nat):Int))&&ak (hh.getD ((([]:au PV).length:Nat):Int)<=((([]:au PV).length:Nat):Int)))=ah from c1];simp[eO]
   .have c1:(ao (dW U e) (dW U e)&&ak (0<=l.getD 0)&&ak (l.getD 0<=hh.getD (s.length:Int))&&ak (hh.getD (s.length:Int)<=(s.length:Int)))=ah:=by
     simp only[Nat.beq_refl,iu,aC,aD];exact⟨⟨b1,b2⟩,b3⟩
    simp only[mG,hu,bu,i1,i2,i3,iw];rw[c1];rfl
 .rename_i e e' s l hh m ht hl ko hm;have h1:=pT hl (jO F lo).1 (jO F lo).2;have h2:=pT ko (jO F hi).1 (jO F hi).2;have h3:=pT hm (jO F mx).1 (jO F mx).2;cases he:e.beq e' with
  |false=>rw[he]at h;cases h
  |true=>
   rw[he]at h;have:=Ty.beq_eq he;subst this;rw[aI]at h;obtain⟨fp,hu,jc,_⟩:=hT.un t _ ht;have bu:=hT.sz fp e jc;have i1:pK (lo.map (dG S'))=aa l:=by rcases h1 with⟨rfl,e⟩|⟨n,k,rfl,e⟩<;>rw[e]<;>rfl
   have i2:pK (hi.map (dG S'))=aa (aa hh):=by rcases h2 with⟨e,_⟩|⟨n,k,e0,e⟩;cases e;rw[e];cases e0;rfl
   have i3:pK (mx.map (dG S'))=aa (aa m):=by rcases h3 with⟨e,_⟩|⟨n,k,e0,e⟩;cases e;rw[e];cases e0;rfl
   obtain⟨_,sj⟩:=vN ra;cases hk0:bDq mx with
   |true=>
    rw[hk0,aI]at h;have hc:=(fX h).1
    replace h:=(fX h).2
    simp only[aC,aD,List.isEmpty_iff]at hc;obtain⟨⟨⟨rfl,hl0⟩,rfl⟩,rfl⟩:=hc;refine⟨_,.emp,ah,h,?_,AK (U:=U) e [] (es:=[]) rfl rfl,?_⟩
    .rcases sj with⟨_,h4⟩|⟨h4,_⟩
     .rcases h4 with rfl|rfl|rfl
      all_goals simp[mG,hu,bu,i1,i2,i3,hl0]
     .exact absurd rfl h4
    .intro o s' si;simp only[ig,aB]at si;exact .inr ⟨si.1,rfl,rfl,λ_=>rfl⟩
   |false=>
   rw[hk0,aJ]at h;obtain⟨hc,h⟩:=fX h;simp only[aC,aD]at hc;obtain⟨q,hq,hk⟩:=pU h;obtain⟨b1,b2,b3,rfl⟩:=EK hq;rcases sj with⟨rfl,_⟩|⟨_,rfl⟩
   .simp only[aX]at b3;omega
   .refine⟨_,eO (dW U e) (((s.map (eA U e)).take hh.toNat).drop (l.getD 0).toNat),ah,hk,?_,AK _ _ rfl (by rw[List.map_drop,List.map_take]),?_⟩
    .have c1:(ao (dW U e) (dW U e)&&ak (0<=l.getD 0)&&ak (l.getD 0<(aa hh).getD (s.length:Int))&&ak ((aa hh).getD (s.length:Int)<=(s.length:Int))&&(aa hh).isSome&&ak ((aa hh).getD (s.length:Int)=m))=ah:=by
      simp only[Nat.beq_refl,iu,aC,aD,od,Option.isSome_some,and_true];exact⟨⟨⟨b1,hc.2⟩,b3⟩,hc.1⟩
     simp only[mG,hu,bu,i1,i2,i3,iw];rw[c1];rfl
    .intro o s' si;simp only[ig,aB]at si;refine .inr ⟨si.1,?_,rfl,λ_=>?_⟩
     .have:=fK (dW U e) (((s.map (eA U e)).take hh.toNat).drop (l.getD 0).toNat);cases hc:eO (dW U e) (((s.map (eA U e)).take hh.toNat).drop (l.getD 0).toNat)<;>first|rfl|(rw[hc]at this;cases this)
     .exact CM (fK _ _)
 .cases h
end
section
variable{P:az}{U:iY}{T:TP U.D}{c:Cx}{W:Type}{r:W}(hU:jA U)(hT:tR P U T)
def LR{o n:Nat}: ∀{rs:kA} {x:Nat×Bool},x∈Se o n rs->(x.1+o,x.2)∈rs/\x.1<n
 |[],x,h=>by cases h
 |y::rs,x,h=>by
  unfold Se at h;cases hb:aq o y.1&&d9 y.1 (o+n)with
  |false=>
   rw[hb]at h;obtain⟨h1,h2⟩:=LR h;exact⟨aG _ h1,h2⟩
  |true=>
   rw[hb]at h;simp only[aC,d8,iW,aD]at hb;rcases ik.1 h with rfl|h
   .refine⟨?_,by simp only;omega⟩
    have:y.1-o+o=y.1:=by omega
    simp only[this];exact aH ..
   .obtain⟨h1,h2⟩:=LR h;exact⟨aG _ h1,h2⟩
def EI{id:aw}{n f:Nat}{w:Ty}(hT:tR P U T)(ht:QF T.T id=aa (.rc n))(hw:(U.fs n)[f]?=aa w):
    ∃fs fd,P.underlying id=aa (.struct fs)/\fs[f]?=aa fd/\T.T.ty fd.type=aa w/\fd.offset=lG U n f:=by
 obtain⟨ht,ha⟩:=aCL ht;obtain⟨fs,hu,bu,hf⟩:=hT.un id _ ht ha;have hlt:f<(U.fs n).length:=by
  rcases b8 f (U.fs n).length with h|h
  .exact h
  .rw[ed h]at hw;cases hw
 have jl:f<fs.size:=by rw[bu];exact hlt
 have wa:fs[f]?=aa fs[f]:=Array.getElem?_eq_getElem jl;obtain⟨h1,h2⟩:=hf f _ wa;exact⟨fs,fs[f],hu,wa,by rw[h1,hw],h2⟩
def aFe{rs:kA}{cs:au PV}{o n:Nat}{ow:Bool}{q:PV}(h:aD4 rs (.agg cs) ow)(hq:q.cells=(cs.drop o).take n):aD4 (Se o n rs) q aj:=λi s hi=>by
 obtain⟨h1,h2⟩:=LR hi;rcases h _ _ h1 with⟨_,h3⟩|⟨_,h3,_⟩
 .have h4:q.cells[i]?=aa .nil:=by
   rw[hq,m6,bJ h2,m7,Nat.add_comm];exact h3
  cases kt:isAgg q with
  |true=>exact .inl ⟨rfl,h4⟩
  |false=>
   have:q.cells=[q]:=mO λds e=>by rw[e]at kt;cases kt
   rw[this]at h4;cases i with
   |zero=>
    simp only[aU,aA]at h4;subst h4;exact .inr ⟨rfl,rfl,rfl,λ_=>rfl⟩
   |succ i=>simp at h4
 .cases h3
include hU hT
def aH2{t:aw}{n f:Nat}{v w:V U}{rs:kA}{p:PV}{ow:Bool}(ht:QF T.T t=aa (.rc n))(hv:v.t.beq (.rc n)=ah)(hw:Me U v f=aa w)(ra:rR U c (.val v,rs) (p,ow)):
    ∃q,Fm P t p f=aa q/\rR U c (.val w,Se (lG U n f) (dW U w.t) rs) (q,aj):=by
 obtain⟨t',x⟩:=v;have:=Ty.beq_eq hv;subst this;obtain⟨cs,rfl,hcs⟩:=Rs ra.1;have hsr:SR (U:=U) (.rc n) x cs:=(VR.sr ra.1);have ro:(U.un n x)[f]?=aa w:=hw;obtain⟨fs,fd,hu,wa,fx,jx⟩:=EI hT ht (Gc hU ro);obtain⟨q,h1,h2,h3,h4⟩:=BF hU hT fx (hsr.fld hU ro);refine⟨q,?_,h2,aFe ra.2 h3⟩;simp only[Fm,hu,wa,jx];exact h1
def sB{t:aw}{n f:Nat}(ht:QF T.T t=aa (.rc n))(hf:f<(U.fs n).length):
    (∀id off,jB P t (.ptr id off) f=aa (.ptr id (off+lG U n f)))/\(∀es i off,jB P t (.pin es i off) f=aa (.pin es i (off+lG U n f))):=by
 obtain⟨w,hw⟩: ∃w,(U.fs n)[f]?=aa w:=⟨_,aV hf⟩;obtain⟨fs,fd,hu,wa,fx,jx⟩:=EI hT ht hw;have hz:ao (dW U w) 0=aj:=by
  rw[dZ,bD];have:=rP hU w;omega
 constructor
 .intro id off;simp only[jB,hu,wa,hT.sz _ _ fx,hz,aJ,jx]
 .intro es i off;simp only[jB,hu,wa,hT.sz _ _ fx,hz,aJ,jx]
def Mj{t:aw}{n f:Nat}{v w:V U}{p:PV}(ht:QF T.T t=aa (.rc n))(hv:v.t.beq (.rc n)=ah)(hw:Me U v f=aa w)(ra:wH U c (.ep v) p):
    ∃q,jB P t p f=aa q/\wH U c (.ep w) q:=by
 obtain⟨es,i,off,e,rfl,he,hcs⟩:=ra;obtain⟨t',x⟩:=v;have:=Ty.beq_eq hv;subst this;have ro:(U.un n x)[f]?=aa w:=hw;have hlt:f<(U.fs n).length:=by
  have:=Gc hU ro;rcases b8 f (U.fs n).length with h|h
  .exact h
  .rw[ed h]at this;cases this
 refine⟨_,(sB hU hT ht hlt).2 _ _ _,_,_,_,_,rfl,he,?_⟩;have hfc:=CO hU ro;have wh:(e.cells.drop off).take (U.sz n)=U.en n x:=hcs;rw[<-hfc,<-wh];have hle:lG U n f+dW U w.t<=U.sz n:=by
  have h1:((U.en n x).drop (lG U n f)).take (dW U w.t)=(eA U w.t w.x).cells:=hfc;have h2:=congrArg List.length h1;rw[og,oh,hU.len,jT hU]at h2;have:=rP hU w.t;omega
 rw[List.drop_take,List.drop_drop,List.take_take,Nat.min_eq_left (by omega)]
omit hU hT in
def AU(te:Ty): ∀j:Nat,fD U (List.replicate j te)=j*dW U te
 |0=>by simp[fD]
 |j+1=>by
  rw[List.replicate_succ,Nat.succ_mul];simp only[fD];rw[AU te j];omega
def L1{t:aw}{n j:Nat}{v w:V U}{p:PV}{k:IntKind}(ht:T.T.ty t=aa (.rc n))(ha:T.T.arr t=ah)(hv:v.t.beq (.rc n)=ah)(hw:Me U v j=aa w)(ra:wH U c (.ep v) p):
    ∃q,gX P t p (.v (.int k (j:Int)))=aa q/\wH U c (.ep w) q:=by
 obtain⟨es,i,off,e,rfl,he,hcs⟩:=ra;obtain⟨t',x⟩:=v;have:=Ty.beq_eq hv;subst this;have ro:(U.un n x)[j]?=aa w:=hw;have hlt:j<(U.fs n).length:=by
  have:=Gc hU ro;rcases b8 j (U.fs n).length with h|h
  .exact h
  .rw[ed h]at this;cases this
 obtain⟨len,el,te,hu,hz,hf⟩:=hT.arr t n ht ha;have hj:j<len:=by rw[hf,List.length_replicate]at hlt;exact hlt
 have hin:dJ (j:Int) len=ah:=by simp only[dJ,aC,aD];omega
 have ho:lG U n j=j*dW U te:=by rw[lG,hf,List.take_replicate,Nat.min_eq_left (by omega)];exact AU _ _
 refine⟨.pin es i (off+Int.toNat (j:Int)*dW U te),by simp only[gX,hu,hz,hin,aI],_,_,_,_,rfl,he,?_⟩
 have hfc:=CO hU ro;have wh:(e.cells.drop off).take (U.sz n)=U.en n x:=hcs;rw[<-hfc,<-wh];have hle:lG U n j+dW U w.t<=U.sz n:=by
  have h1:((U.en n x).drop (lG U n j)).take (dW U w.t)=(eA U w.t w.x).cells:=hfc;have h2:=congrArg List.length h1;rw[og,oh,hU.len,jT hU]at h2;have:=rP hU w.t;omega
 rw[List.drop_take,List.drop_drop,List.take_take,Nat.min_eq_left (by omega),Int.toNat_natCast,ho]
omit hU hT in
def BV{N:Type}{l:au N}{n:Int}{y:N}(h:dK l n=aa y):0<=n/\l[n.toNat]?=aa y/\n.toNat<l.length:=by
 unfold dK at h;cases hb:ak (0<=n)with
 |false=>rw[hb]at h;cases h
 |true=>
  rw[hb]at h;refine⟨bL hb,h,?_⟩;rcases b8 n.toNat l.length with h1|h1
  .exact h1
  .rw[aI,ed h1]at h;cases h
def LZ{t:aw}{e e':Ty}{l:au (Den U.D e')}{y:Den U.D e'}{k:IntKind}{n:Int}{p:PV}(ht:T.T.ty t=aa (.sl e))(he:e.beq e'=ah)(hy:dK l n=aa y)(ra:wH U c (.val ⟨.sl e',l⟩) p):
    ∃q,gX P t p (.v (.int k n))=aa q/\wH U c (.ep ⟨e',y⟩) q:=by
 have:=Ty.beq_eq he;subst this;obtain⟨h0,h1,h2⟩:=BV hy;obtain⟨fp,hu,jc,_⟩:=hT.un t _ ht;obtain⟨_,hl⟩:=vN ra;rcases hl with⟨hl,_⟩|⟨_,rfl⟩
 .have hl:l=[]:=hl;subst hl;simp at h2
 .refine⟨.pin (l.map (eA U e)) n.toNat 0,?_,_,_,_,_,rfl,by rw[m8,h1];rfl,?_⟩
  .have c1:(ao (dW U e) (dW U e)&&dJ n (l.map (eA U e)).length)=ah:=by
    simp only[Nat.beq_refl,iu,dJ,iw,aC,aD];exact⟨h0,by omega⟩
   simp only[gX,hu,hT.sz _ _ jc,c1,aI]
  .rw[List.drop_zero,List.take_of_length_le (by rw[jT hU];exact aS _)]
omit hU in
def aHl{t:aw}{s:au UInt8}{b:UInt8}{k:IntKind}{n:Int}{p:PV}(ht:T.T.ty t=aa .str)(hy:dK s n=aa b)(ra:wH U c (.val ⟨.str,s⟩) p):
    CB P t p (.v (.int k n))=aa (.v (.int .u8 (b.toNat:Int))):=by
 obtain⟨h0,h1,h2⟩:=BV hy;have hu:P.underlying t=aa .string:=hT.un t _ ht;rw[A6 ra];have bu:(⟨s.toArray⟩:ByteArray)[n.toNat]?=aa b:=by
  have h3:s[n.toNat]'h2=b:=by rw[aV h2]at h1;exact Option.some.inj h1
  show(if h:n.toNat<(⟨s.toArray⟩:ByteArray).size then aa _ else ae)=_
  rw[dif_pos (show n.toNat<(⟨s.toArray⟩:ByteArray).size by show n.toNat<s.toArray.size;simpa using h2)]
  congr 1
 simp only[CB,hu,sN,bZ,aI,dU,Instr.index,asIntOf,bT,cB,aL,cC,h0,bQ,bu,dP];rfl
end
section
variable{P:az}{U:iY}{T:TP U.D}{c:Cx}{W:Type}{r:W}
def Q0: ∀(x a b e:au PV),b.length=x.length->Cz (a++b++e) a.length x=a++x++e
 |[],a,b,e,h=>by
  have:b=[]:=List.length_eq_zero_iff.1 h;subst this;simp[Cz]
 |y::x,a,b,e,h=>by
  cases b with
  |nil=>simp at h
  |cons z b=>
   have h1:(a++(z::b)++e).set a.length y=(a++ [y])++b++e:=by
    rw[aQ,List.set_append_right _ _ (aS _)];simp
   have h2:=Q0 x (a++ [y]) b e (by simpa using h)
   rw[Cz,h1];simp only[aZ,aM,aX]at h2;rw[h2];simp
def aCZ: ∀(ss:au (au PV)) (i:Nat) (s x:au PV),ss[i]?=aa s->s.length=x.length->Cz ss.flatten (ss.take i).flatten.length x=(ss.set i x).flatten:=by
 intro ss i s x h hl;have h1:i<ss.length:=by
  rcases b8 i ss.length with h1|h1
  .exact h1
  .rw[ed h1]at h;cases h
 have hs:ss[i]=s:=by rw[aV h1]at h;exact Option.some.inj h
 have e1:ss.flatten=(ss.take i).flatten++s++(ss.drop (i+1)).flatten:=by
  have h3:ss=ss.take i++(ss[i]::ss.drop (i+1)):=by rw[<-List.drop_eq_getElem_cons h1,List.take_append_drop]
  conv=>lhs;rw[h3]
  rw[List.flatten_append,List.flatten_cons,hs,aQ]
 have e2:(ss.set i x).flatten=(ss.take i).flatten++x++(ss.drop (i+1)).flatten:=by
  rw[List.set_eq_take_append_cons_drop,bJ h1,List.flatten_append,List.flatten_cons,aQ]
 rw[e1,e2];exact Q0 x _ s _ hl
def DM(U:iY):au (V U×Bool)->au (au PV)->Prop
 |[],[]=>True
 |y::l,s::ss=>(SR y.1.t y.1.x s/\(y.2=ah->∀o b,(o,b)∈BJ U y.1.t->s[o]?=aa .nil))/\DM U l ss
 |_,_=>False
def QL: ∀{l:au (V U×Bool)} {ss:au (au PV)} {i:Nat} {y:V U×Bool},DM U l ss->l[i]?=aa y->∃s,ss[i]?=aa s/\SR y.1.t y.1.x s
 |[],[],i,y,_,h=>by simp at h
 |z::l,s::ss,0,y,h,e=>by simp only[aU,aA]at e;subst e;exact⟨s,rfl,h.1.1⟩
 |z::l,s::ss,i+1,y,h,e=>by rw[aT]at e;obtain⟨s',h1,h2⟩:=QL h.2 e;exact⟨s',by rw[aT];exact h1,h2⟩
 |[],_::_,_,_,h,_=>h.elim
 |_::_,[],_,_,h,_=>h.elim
def QK: ∀{l:au (V U×Bool)} {ss:au (au PV)} {i:Nat} {y:V U×Bool} {s:au PV},DM U l ss->(SR y.1.t y.1.x s/\(y.2=ah->∀o b,(o,b)∈BJ U y.1.t->s[o]?=aa .nil))->DM U (setF U l i y) (ss.set i s)
 |[],[],i,y,s,h,_=>by simp[setF,DM]
 |z::l,s'::ss,0,y,s,h,e=>⟨e,h.2⟩
 |z::l,s'::ss,i+1,y,s,h,e=>⟨h.1,QK h.2 e⟩
 |[],_::_,_,_,_,h,_=>h.elim
 |_::_,[],_,_,_,h,_=>h.elim
def EM: ∀{l:au (V U×Bool)} {i:Nat} {y z:V U×Bool},l[i]?=aa z->y.1.t=z.1.t->(setF U l i y).map (λx=>x.1.t)=l.map λx=>x.1.t
 |[],i,y,z,h,_=>by simp at h
 |w::l,0,y,z,h,e=>by simp only[aU,aA]at h;subst h;simp[setF,e]
 |w::l,i+1,y,z,h,e=>by rw[aT]at h;simp only[setF,aO,EM h e]
def aAC: ∀(ts:au Ty) (i o:Nat) (t:Ty),ts[i]?=aa t->(aC6 U ts o)[i]?=aa (o+fD U (ts.take i),dW U t)
 |[],i,o,t,h=>by simp at h
 |u::ts,0,o,t,h=>by simp only[aU,aA]at h;subst h;simp[aC6,fD]
 |u::ts,i+1,o,t,h=>by
  rw[aT]at h;rw[aC6,aT,aAC ts i _ t h,List.take_succ_cons,fD,Nat.add_assoc]
variable(hU:jA U)(hT:tR P U T)
include hU
def Th(t:Ty):wks (QA U t)=(eA U t (qZ U t)).cells:=by
 cases t with
 |rc n=>exact hU.zc n
 |int k=>rfl
 |bool=>rfl
 |str=>rfl
 |sl t=>rfl
omit hU in
def aNm(ts:au Ty): ∀c∈ts.flatMap aNh,∀z es,c≠ .sl z es:=by
 intro c hc z es e;rw[List.mem_flatMap]at hc;obtain⟨t,_,h⟩:=hc;cases t<;>simp[aNh,e]at h
def Ti(t:Ty):SR t (qZ U t) (QA U t):=⟨Th hU t,λj z hj=>(aNm _ _ (ef hj) z [] rfl).elim⟩
def Qz(t:Ty): ∀o b,(o,b)∈BJ U t->(QA U t)[o]?=aa .nil:=by
 intro o b h;cases t with
 |rc n=>
  have h1:=bK.1 (hU.nz n) _ h;unfold aTg at h1;split at h1
  .rename_i e;exact e
  .cases h1
 |sl t=>
  simp only[BJ,ig,aB]at h;rw[h.1];rfl
 |_=>cases h
def Qy: ∀(ts:au Ty),DM U (Cp U ts) (ts.map (QA U))
 |[]=>trivial
 |t::ts=>⟨⟨Ti hU t,λ_=>Qz hU t⟩,Qy ts⟩
omit hU in
def Qw: ∀(ts:au Ty),(Cp U ts).map (λx=>x.1.t)=ts
 |[]=>rfl
 |t::ts=>by rw[Cp,aO,Qw ts]
def aCq(n:Nat):((U.fs n).map (QA U)).flatten=QA U (.rc n):=by
 show _=(U.lt n).flatMap aNh;rw[hU.lt n];induction U.fs n with
 |nil=>rfl
 |cons t ts ih=>rw[aO,List.flatten_cons,ih,aN,List.flatMap_append];rfl
def AV: ∀{l:au (V U×Bool)} {ss:au (au PV)},DM U l ss->∀i,((ss.take i).flatten).length=fD U ((l.map λx=>x.1.t).take i)
 |[],[],_,i=>by simp[fD]
 |y::l,s::ss,h,0=>by simp[fD]
 |y::l,s::ss,h,i+1=>by
  rw[List.take_succ_cons,List.flatten_cons,aZ,AV h.2 i,h.1.1.len hU,aO,List.take_succ_cons];rfl
 |[],_::_,h,_=>h.elim
 |_::_,[],h,_=>h.elim
def Sw{S:TS U.D}{S':PS}(F:mZ U c S S'){ts:au Ty}{place:Nat->f9 (Nat×Nat)}(hp: ∀i t,ts[i]?=aa t->place i=aa (fD U (ts.take i),dW U t)):
    ∀(parts:au (Nat×a8)) (l l':au (V U×Bool)) (ss:au (au PV)),DM U l ss->l.map (λx=>x.1.t)=ts->aDB U S l parts=aa l'->
      ∃ss',BD place ss.flatten (parts.map λ(i,x)=>(i,dG S' x))=aa ss'.flatten/\DM U l' ss'/\l'.map (λx=>x.1.t)=ts
 |[],l,l',ss,hs,ht,h=>by
  simp only[aDB,aA]at h;subst h;exact⟨ss,rfl,hs,ht⟩
 |(i,x)::rest,l,l',ss,hs,ht,h=>by
  unfold aDB at h;split at h
  .rename_i y hy;split at h
   .rename_i v hv;obtain⟨jb,li⟩:=mQ hU hv (dO F x).1;obtain⟨s,hsi,hsr⟩:=QL hs hy;have hsr':=VR.sr li;have hlen:s.length=(dG S' x).cells.length:=by rw[hsr.len hU,hsr'.len hU,jb]
    have hti:ts[i]?=aa y.1.t:=by rw[<-ht,m8,hy];rfl
    have jx:(ss.take i).flatten.length=fD U (ts.take i):=by rw[AV hU hs,ht]
    have jt:DM U (setF U l i (v,match(kE U S x).1 with| .nl=>ah|_=>aj)) (ss.set i (dG S' x).cells):=by
     refine QK hs ⟨hsr',λhn o b ho=>?_⟩
     split at hn
     .rename_i e;have h1:=(dO F x).1;rw[e]at h1 hv;have hp:dG S' x= .nil:=h1;simp only[Ku]at hv;split at hv
      .cases hv;simp only[BJ,ig,aB]at ho;rw[hp,ho.1];rfl
      .cases hv
     .cases hn
    obtain⟨ss',g1,g2,g3⟩:=Sw F hp rest _ l' _ jt (by rw[EM hy jb];exact ht) h
    refine⟨ss',?_,g2,g3⟩;rw[aO];simp only[BD,hp i _ hti];have hle:fD U (ts.take i)+dW U y.1.t<=ss.flatten.length:=by
     have h1:=AV hU hs (i+1);have h2:(ss.take (i+1)).flatten.length<=ss.flatten.length:=by
      conv=>rhs;rw[<-List.take_append_drop (i+1) ss]
      rw[List.flatten_append,aZ];omega
     have h3:fD U (ts.take (i+1))=fD U (ts.take i)+dW U y.1.t:=by
      have hlt:i<ts.length:=by
       rcases b8 i ts.length with h|h
       .exact h
       .rw[ed h]at hti;cases hti
      rw[List.take_succ_eq_append_getElem hlt,KZ];have:ts[i]=y.1.t:=by rw[aV hlt]at hti;exact Option.some.inj hti
      rw[this];simp[fD]
     rw[ht]at h1;omega
    have c1:(ao (dG S' x).cells.length (dW U y.1.t)&&aq (fD U (ts.take i)+dW U y.1.t) ss.flatten.length&&(dG S' x).cells.all PV.one)=ah:=by
     rw[hsr'.one hU,<-hlen,hsr.len hU,Nat.beq_refl,iu,bF,d8];exact hle
    rw[c1,aI,<-jx,aCZ ss i s _ hsi hlen];exact g1
   .cases h
  .cases h
def aE0: ∀{l:au (V U×Bool)} {ss:au (au PV)},DM U l ss->wks ss.flatten=xZ (aHR l)/\QB U ((l.map λx=>x.1.t).flatMap (kC U)) ss.flatten
 |[],[],_=>⟨rfl,aNo _⟩
 |y::l,s::ss,h=>by
  obtain⟨h1,h2⟩:=aE0 h.2;refine⟨?_,?_⟩
  .rw[List.flatten_cons,tW,h1,h.1.1.wk,aHR,kF]
  .rw[List.flatten_cons,aO,aN];exact Tk (by rw[A7 hU,h.1.1.len hU]) h.1.1.z h2
 |[],_::_,h=>h.elim
 |_::_,[],h=>h.elim
omit hU in
def aG6{o:Nat}: ∀{rs:kA} {x:Nat×Bool},x∈a8n o rs->∃j,x.1=j+o/\(j,x.2)∈rs
 |[],x,h=>by cases h
 |y::rs,x,h=>by
  unfold a8n at h;rcases ik.1 h with rfl|h
  .exact⟨y.1,rfl,aH ..⟩
  .obtain⟨j,h1,h2⟩:=aG6 h;exact⟨j,h1,aG _ h2⟩
def ZW: ∀{l:au (V U×Bool)} {ss:au (au PV)} {o:Nat},DM U l ss->∀i b,(i,b)∈aGW U l o->∃j,i=j+o/\ss.flatten[j]?=aa .nil
 |[],[],o,_,i,b,h=>by cases h
 |y::l,s::ss,o,hs,i,b,h=>by
  unfold aGW at h;rcases oa.1 h with h1|h1
  .split at h1
   .rename_i hy;obtain⟨j,e1,e2⟩:=aG6 h1;have:=hs.1.2 hy j b e2;have hlt:j<s.length:=by
     rcases b8 j s.length with h2|h2
     .exact h2
     .rw[ed h2]at this;cases this
    exact⟨j,e1,by rw[List.flatten_cons,i7 hlt];exact this⟩
   .cases h1
  .obtain⟨j,e1,e2⟩:=ZW hs.2 i b h1;refine⟨s.length+j,by rw[hs.1.1.len hU];omega,?_⟩
   rw[List.flatten_cons,eo (by omega),Nat.add_sub_cancel_left];exact e2
 |[],_::_,_,h,_,_,_=>h.elim
 |_::_,[],_,h,_,_,_=>h.elim
include hT
def aIL{S:TS U.D}{S':PS}(F:mZ U c S S'){t:aw}{n:Nat}{parts:au (Nat×a8)}{l:au (V U×Bool)}{x:U.D n}(ht:T.T.ty t=aa (.rc n))(hl:aDB U S (Cp U (U.fs n)) parts=aa l)(hx:U.of n (aHR l)=aa x):
    ∃w,A4 P t (parts.map λ(i,x)=>(i,dG S' x))=aa w/\rR U c (.val ⟨.rc n,x⟩,aGW U l 0) (w,aj):=by
 obtain⟨place,vg,hpb⟩: ∃place:Nat->f9 (Nat×Nat),(∀i t',(U.fs n)[i]?=aa t'->place i=aa (fD U ((U.fs n).take i),dW U t'))/\∀ps,A4 P t ps=(BD place (QA U (.rc n)) ps).map .agg:=by
  cases wm:T.T.arr t with
  |false=>
   obtain⟨fs,pl,hu,dm,hpp⟩:=hT.bd t n ht wm;refine⟨λi=>pl[i]?,λi t' hi=>?_,λps=>by simp only[A4,hT.zc t _ ht,hu,dm]⟩
   have:=aAC (U:=U) (U.fs n) i 0 t' hi;rw[<-hpp,Array.getElem?_toList,ir]at this;exact this
  |true=>
   obtain⟨len,e,te,hu,hz,hf⟩:=hT.arr t n ht wm;refine⟨λi=>aa (i*dW U te,dW U te),λi t' hi=>?_,λps=>by simp only[A4,hT.zc t _ ht,hu,hz]⟩
   rw[hf,List.getElem?_replicate]at hi;split at hi
   .rename_i hi2;obtain rfl:=Option.some.inj hi;rw[hf,List.take_replicate,Nat.min_eq_left (by omega),AU]
   .cases hi
 obtain⟨ss',g1,g2,g3⟩:=Sw hU F vg parts _ _ _ (Qy hU (U.fs n)) (Qw _) hl;rw[aCq hU n]at g1;obtain⟨g4,g5⟩:=aE0 hU g2;have hun:=hU.un_of n _ x hx;refine⟨.agg ss'.flatten,?_,⟨?_,?_⟩,?_⟩
 .rw[hpb,g1,aK]
 .show PV.agg (wks ss'.flatten)= .agg (U.en n x);rw[g4,hU.en n x,hun];rfl
 .show QB U (U.lt n) ss'.flatten;rw[hU.lt n,<-g3];exact g5
 .intro i b hi;obtain⟨j,e1,e2⟩:=ZW hU g2 i b hi;exact .inl ⟨rfl,by rw[e1];exact e2⟩
omit hT hU in
def Tm{c:PV}(h:gd (wk c)=ah):c.pur=ah:=by
 cases c with
 |agg cs=>simp[wk,gd]at h
 |tup cs=>simp[wk,gd]at h
 |und=>simp[wk,gd]at h
 |_=>first|rfl|simp[wk,gd]at h
omit hT in
def wK{t:Ty}{x:Den U.D t}{p:PV}(h:VR U t x p):PI.shape (mW t) (dW U t) p=ah:=by
 have hs:=VR.sr h;have hp: ∀c∈p.cells,c.pur=ah:=λc hc=>Tm (hs.gd hU hc)
 cases hr:mW t with
 |true=>
  cases t with
  |rc n=>
   obtain⟨cs,rfl,_⟩:=Rs h;simp only[PI.shape,iu,aC,dZ,aD,bK];exact⟨hs.len hU,hp⟩
  |_=>cases hr
 |false=>
  have ha:isAgg p=aj:=qB (v:=⟨t,x⟩) h hr;have hc:p.cells=[p]:=mO λds e=>by rw[e]at ha;cases ha
  have hz:dW U t=1:=by cases t<;>first|rfl|cases hr
  have:=hp p (by rw[hc];exact ig.2 rfl)
  rw[hz];cases p<;>first|(cases ha;done)|simpa [PI.shape]using this
omit hU hT in
def QJ{N:Type}: ∀(l:au N) (i:Nat) (x:N),aNY l i x=l.set i x
 |[],_,_=>by cases ‹Nat› <;>rfl
 |y::l,0,x=>rfl
 |y::l,i+1,x=>by rw[aNY,QJ l i x];rfl
omit hT in
def aIM{S:TS U.D}{S':PS}(F:mZ U c S S'){e:Ty}: ∀(parts:au (Nat×a8)) (l l':au (Den U.D e)),aDA U S e l parts=aa l'->
    qD (mW e) (dW U e) (l.map (eA U e)) (parts.map λ(i,x)=>(i,dG S' x))=aa (l'.map (eA U e))
 |[],l,l',h=>by simp only[aDA,aA]at h;subst h;rfl
 |(i,x)::rest,l,l',h=>by
  unfold aDA at h;split at h
  .rename_i v hv;split at h
   .rename_i w hw;cases hb:d9 i l.length with
    |false=>rw[hb]at h;cases h
    |true=>
     rw[hb]at h;obtain⟨jb,li⟩:=mQ hU hv (dO F x).1;have e1:=qM hw;have hvr':VR U e w (dG S' x):=by
      have:VR U (⟨v.t,v.x⟩:TV U.D).t (⟨v.t,v.x⟩:TV U.D).x (dG S' x):=li;rw[e1]at this;exact this
     have g:=aIM F rest _ _ h;rw[aO];simp only[qD,iw,hb,wK hU hvr',n8,aI];rw[hvr'.wk,<-List.map_set,<-QJ];exact g
   .cases h
  .cases h
omit hU hT in
def QU{N:Type}(f:N->PV)(x:N)(y:PV)(h:y=f x): ∀n,pI y n=(rV x n).map f
 |0=>rfl
 |n+1=>by rw[pI,rV,aO,QU f x y h n,h]
def IR{S:TS U.D}{S':PS}(F:mZ U c S S'){p:PSt}{o:ic}{t:aw}{e:Ty}{len:Nat}{parts:Array (Nat×a8)}{l:au (Den U.D e)}(ho:o.op= .buildSlice t len parts)(ht:T.T.ty t=aa (.sl e))(hb:aq (len*dW U e) 1000000=ah)(hl:aDA U S e (rV (qZ U e) len) parts.toList=aa l):
    ∃w,fR P p S' o=aa (w,ah,p)/\rR U c (.val ⟨.sl e,l⟩,[(0,ah)]) (w,ah):=by
 obtain⟨fp,hu,jc,_⟩:=hT.un t _ ht;refine⟨eO (dW U e) (l.map (eA U e)),?_,AK _ _ rfl rfl,?_⟩
 .have pz:(QA U e).length=dW U e:=(Ti hU e).len hU;have c1:(aq (len*dW U e) 1000000&&ao (QA U e).length (dW U e)&&aq 1 (dW U e)&&(mW e||ao (dW U e) 1))=ah:=by
   rw[hb,pz,Nat.beq_refl];have h1:aq 1 (dW U e)=ah:=by rw[d8];exact rP hU e
   rw[h1];cases e<;>rfl
  have hz:wk (bif mW e then .agg (QA U e)else(QA U e).headD .und)=eA U e (qZ U e):=by
   have:=Th hU e;cases e with
   |rc n=>simp only[mW,aI,wk,this];rfl
   |_=>rfl
  have hg:=aIM hU F parts.toList _ _ hl;rw[<-QU (eA U e) (qZ U e) _ hz]at hg;simp only[fR,ho,hu,hT.sz _ _ jc,hT.ag _ _ jc,hT.zc _ _ jc,c1,aI,hg]
 .intro i s hi;simp only[ig,aB]at hi;refine .inr ⟨hi.1,?_,rfl,λ_=>CM (fK _ _)⟩
  have:=fK (dW U e) (l.map (eA U e));cases hc:eO (dW U e) (l.map (eA U e))<;>first|rfl|(rw[hc]at this;cases this)
end
section
variable{P:az}{U:iY}{T:TP U.D}{c c0:Cx}{W:Type}{r:W}{q p:PSt}{M:TM U.D}
def aDE{k t:Nat}(h:k≠t):ao k t=aj:=by rw[dZ];exact bH h
def lL(m:au (Nat×BC U.D))(k j:Nat)(y:BC U.D):eB (sP m k y) j=if j=k then(eB m k).map λ_=>y else eB m j:=by
 induction m with
 |nil=>simp[eB,sP]
 |cons x m ih=>
  obtain⟨a,b⟩:=x;unfold sP;by_cases h:a=k
  .subst h;simp only[Nat.beq_refl,aI];by_cases hj:j=a
   .subst hj;simp[eB]
   .have hja:ao a j=aj:=aDE λe=>hj e.symm
    simp only[eB,hja,aJ,bI hj]
  .simp only[aDE h,aJ];by_cases hj:j=k
   .subst hj;have:=ih;rw[bJ rfl]at this;simp only[eB,aDE h,aJ,bQ];exact this
   .rw[bI hj]at ih⊢;simp only[eB];cases ao a j with
    |true=>rfl
    |false=>exact ih
def iJ(m:au (Nat×BC U.D))(k j:Nat)(y:BC U.D):eB ((k,y)::m) j=if j=k then aa y else eB m j:=by
 by_cases h:j=k
 .subst h;simp[eB]
 .have:ao k j=aj:=aDE λe=>h e.symm
  simp only[eB,this,aJ,bI h]
def Ag{p p':PSt}{e:Ce}{b:BC U.D}(h:D4 U c p e b)(hg: ∀id,e.id=aa id->p'.get id=p.get id):D4 U c p' e b:=by
 cases b with
 |bx s r=>obtain⟨id,cs,h1,h2,h3⟩:=h;exact⟨id,cs,h1,by rw[hg id h1];exact h2,h3⟩
 |row t l=>
  obtain⟨h1,h2,h3⟩:=h;refine⟨h1,h2,?_⟩;rcases h3 with h3|⟨id,h3,h4⟩
  .exact .inl h3
  .exact .inr ⟨id,h3,by rw[hg id h3];exact h4⟩
 |gone=>trivial
def aDw{c c':Cx}(h:leC c c'){s:SV U.D}{cs:au (PV×Bool)}(r:Bc U c s cs):Bc U c' s cs:=by
 cases s with
 |cl f caps=>obtain⟨p,b,h1,h2⟩:=r;exact⟨p,b,h1,aEL h h2⟩
 |_=>exact r
def aIR{c c':Cx}(h:leC c c'){p:PSt}{e:Ce}{b:BC U.D}(r:D4 U c p e b):D4 U c' p e b:=by
 cases b with
 |bx s rs=>obtain⟨id,cs,h1,h2,h3,h4⟩:=r;exact⟨id,cs,h1,h2,aDw h h3,h4⟩
 |row t l=>exact r
 |gone=>trivial
def MR.write(Mm:MR U q c0 c M p){k:Nat}{b b':BC U.D}{e:Ce}{id:Nat}{p':PSt}{w:au Nat}(hb:eB M.bx k=aa b)(he:c k=aa e)(hid:e.id=aa id)
    (hn:p'.next=p.next) (hg: ∀j,j≠id->p'.get j=p.get j) (hd: ∀j,j∈p'.dirty↔j=id∨j∈p.dirty) (hw: ∀j,j∈p'.wr->j=id∨j∈p.wr) (hr:D4 U c p' e b'):
    MR U q c0 c ⟨sP M.bx k b',w⟩ p' where
 dom j h:=by
  simp only[lL]at h;by_cases hj:j=k
  .rw[bJ hj,hb]at h;cases h
  .rw[bI hj]at h;exact Mm.dom j h
 bx j y h:=by
  simp only[lL]at h;by_cases hj:j=k
  .subst hj;rw[bJ rfl,hb]at h;simp only[aK,aA]at h;subst h;exact⟨e,he,hr⟩
  .rw[bI hj]at h;obtain⟨e',h1,h2⟩:=Mm.bx j y h;exact⟨e',h1,Ag h2 λi hi=>hg i λei=>hj (Mm.inj j k e' e id h1 he (by rw[<-ei];exact hi) hid)⟩
 lt j e' i h1 h2:=by rw[hn];exact Mm.lt j e' i h1 h2
 inj:=Mm.inj
 next:=by rw[hn];exact Mm.next
 bor:=Mm.bor
 loc:=Mm.loc
 old i hi ho:=by
  rw[hg i λe1=>ho ((hd i).2 (.inl e1))]
  exact Mm.old i hi λh=>ho ((hd i).2 (.inr h))
 dirty i hi hlt:=by
  rcases(hd i).1 hi with rfl|h
  .have hk:k<100:=by
    rcases b8 k 100 with h|h
    .exact h
    .have:=Mm.loc k e i he h hid;omega
   exact⟨k,e,Mm.bor k e he hk,hid⟩
  .exact Mm.dirty i h hlt
 wr i hi:=by
  rcases hw i hi with rfl|h
  .refine⟨by rw[hn];exact Mm.lt k e i he hid,λhlt=>?_⟩
   have hk:k<100:=by
    rcases b8 k 100 with h|h
    .exact h
    .have:=Mm.loc k e i he h hid;omega
   exact⟨k,e,Mm.bor k e he hk,hid⟩
  .rw[hn];exact Mm.wr i h
def MR.upd(Mm:MR U q c0 c M p){k:Nat}{b b':BC U.D}{e:Ce}{id:Nat}{o:lT}(hb:eB M.bx k=aa b)(he:c k=aa e)(hid:e.id=aa id)(hr:D4 U c (p.upd id o) e b'):
    MR U q c0 c ⟨sP M.bx k b',k::M.wr⟩ (p.upd id o)/\(WR U c M p->WR U c ⟨sP M.bx k b',k::M.wr⟩ (p.upd id o)):=by
 have hlt:=Mm.lt k e id he hid;refine⟨Mm.write hb he hid rfl (λj hj=>by rw[mM hlt,bI hj]) (λj=>oM) (λj hj=>oM.1 hj) hr,λhw i hi k' e' h1 h2=>?_⟩
 show(ao k k'||eM k' M.wr)=ah;rcases oM.1 hi with rfl|h
 .rw[Mm.inj k k' e e' i he h1 hid h2,Nat.beq_refl,Bool.true_or]
 .rw[hw i h k' e' h1 h2,Bool.or_true]
def JD: ∀{m:au (Nat×BC U.D)} {k:Nat} {b:BC U.D},eB m k=aa b->sP m k b=m
 |[],k,b,h=>rfl
 |(a,x)::m,k,b,h=>by
  simp only[eB]at h;unfold sP;cases hb:ao a k with
  |true=>
   rw[hb]at h;simp only[aI,aA]at h;subst h;rw[<-aE hb];rfl
  |false=>rw[hb]at h;simp only[aJ]at h⊢;rw[JD h]
def RT{p:PSt}{id:Nat}{o:lT}(h:id<p.next)(k:Nat):(p.mark id o).get k=if k=id then aa o else p.get k:=by
 have:=mM (o:=o) h k;simp only[PSt.get,PSt.upd,PSt.mark]at this⊢;exact this
def MR.mark(Mm:MR U q c0 c M p){k:Nat}{b b':BC U.D}{e:Ce}{id:Nat}{o:lT}(hb:eB M.bx k=aa b)(he:c k=aa e)(hid:e.id=aa id)(hr:D4 U c (p.mark id o) e b'):
    MR U q c0 c ⟨sP M.bx k b',M.wr⟩ (p.mark id o)/\(WR U c M p->WR U c ⟨sP M.bx k b',M.wr⟩ (p.mark id o)):=by
 have hlt:=Mm.lt k e id he hid;exact⟨Mm.write hb he hid rfl (λj hj=>by rw[RT hlt,bI hj]) (λj=>oM) (λj hj=> .inr hj) hr,λhw=>hw⟩
def xJ{o:Nat}: ∀{rs:kA},FG o rs=ah↔∃s,(o,s)∈rs
 |[]=>by simp[FG]
 |x::rs=>by
  obtain⟨a,b⟩:=x;simp only[FG,d7,dZ,aD,xJ (rs:=rs),ik,aB];constructor
  .rintro(rfl|⟨s,h⟩)
   .exact⟨b,.inl ⟨rfl,rfl⟩⟩
   .exact⟨s,.inr h⟩
  .rintro⟨s,⟨rfl,_⟩|h⟩
   .exact .inl rfl
   .exact .inr ⟨s,h⟩
def aAV{o n:Nat}: ∀{rs:kA} {x:Nat×Bool},x∈a34 o n rs->x∈rs/\¬(o<=x.1/\x.1<o+n)
 |[],x,h=>by cases h
 |y::rs,x,h=>by
  unfold a34 at h;cases hb:aq o y.1&&d9 y.1 (o+n)with
  |true=>
   rw[hb]at h;obtain⟨h1,h2⟩:=aAV h;exact⟨aG _ h1,h2⟩
  |false=>
   rw[hb]at h;rcases ik.1 h with rfl|h
   .refine⟨aH ..,λ⟨h1,h2⟩=>?_⟩
    have:(aq o x.1&&d9 x.1 (o+n))=ah:=by
     simp only[aC,d8,iW,aD];exact⟨h1,h2⟩
    rw[this]at hb;cases hb
   .obtain⟨h1,h2⟩:=aAV h;exact⟨aG _ h1,h2⟩
def wT(P:az)(take:Bool)(p:PSt)(t:aw)(a:PV):f9 (PV×Bool×PSt):=
 match kW P p t a with
 |some v=>bif take&&DU v then aa (v,(gP p a).2,(gP p a).1)else aa (v,aj,p)
 |none=>ae
variable(hU:jA U)(hT:tR P U T)
include hU
def SR.self(t:Ty)(x:Den U.D t):SR t x (eA U t x).cells:=⟨Mb (vW hU t x),Et (vW hU t x)⟩
def QT{t:Ty}{l:au (Den U.D t)}{i:Nat}{y:Den U.D t}(h:l[i]?=aa y):(((l.map (eA U t)).flatMap PV.cells).drop (i*dW U t)).take (dW U t)=(eA U t y).cells:=by
 induction l generalizing i with
 |nil=>simp at h
 |cons x l ih=>
  cases i with
  |zero=>
   simp only[aU,aA]at h;subst h;rw[Nat.zero_mul,List.drop_zero,aO,aN];exact List.take_left' (jT hU _ _)
  |succ i=>
   rw[aT]at h;rw[aO,aN,<-ih h,Nat.succ_mul,Nat.add_comm];congr 1;rw[<-List.drop_drop];congr 1;exact List.drop_left' (jT hU _ _)
include hT
def a2d{take:Bool}{t:aw}{a:SV U.D}{p0:PV}{K:X U->TM U.D->f9 W}(h:a6D U T.T take M t a K=aa r)(ra:wH U c a p0)(Mm:MR U q c0 c M p):
    ∃x M' v own p',K x M'=aa r/\wT P take p t p0=aa (v,own,p')/\rR U c x (v,own)/\MR U q c0 c M' p'/\(WR U c M p->WR U c M' p'):=by
 unfold a6D at h;split at h
 ·
  rename_i v;obtain⟨es,i,off,e,rfl,he,hcs⟩:=ra;split at h
  .rename_i ty fx;cases hb:v.t.beq ty with
   |false=>rw[hb]at h;cases h
   |true=>
    rw[hb]at h;obtain⟨vt,vx⟩:=v;have:=Ty.beq_eq hb;subst this;obtain⟨w,h1,h2,_⟩:=BF hU hT fx (cs:=e.cells) (off:=off) (x:=vx) (by rw[hcs];exact SR.self hU _ _)
    have hl:kW P p t (.pin es i off)=aa w:=by simp only[kW,he];exact h1
    refine⟨_,_,w,aj,p,h,?_,⟨h2,cJ _ _⟩,Mm,λhw=>hw⟩
    simp only[wT,hl,gP];cases take&&DU w<;>rfl
  .cases h
 ·
  rename_i k off path;obtain⟨e,id,he,hid,rfl⟩:=ra;split at h
  .rename_i cont rs hf;obtain⟨e',gf,bn,cs,ff,bc,hcs,lj⟩:=Mm.bx k _ hf;rw[he]at gf;cases gf;rw[hid]at ff;cases ff;split at h
   ·
    rename_i cv;split at h
    .rename_i ty w o fx hp;cases hb:w.t.beq ty&&ao o off with
     |false=>rw[hb]at h;cases h
     |true=>
      rw[hb]at h;simp only[aI]at h;simp only[aC,dZ,aD]at hb;obtain⟨md,rfl⟩:=hb;obtain⟨wt,wx⟩:=w;have:=Ty.beq_eq md;subst this;obtain⟨h1,h2,h3⟩:=hcs;have hsr:SR cv.t cv.x (cs.map (·.1)):=⟨h1,h2⟩;obtain⟨g1,g2⟩:=zL hU hp hsr;obtain⟨v,k1,k2,k3,k4⟩:=BF hU hT fx g1;have hl:kW P p t (.ptr id o)=aa v:=by simp only[kW,bc];exact k1
      have hlt:=Mm.lt k e id he hid;have se: ∀gm,(∀i s,(i,s)∈gm->(i,s)∈rs/\i≠o)->∀x b,cs[o]?=aa (x,b)->D4 U c (p.mark id (.box (cs.set o (x,aj)))) e (.bx (.val cv) gm):=by
       intro gm dc x b hx;have gx:o<cs.length:=by
        rcases b8 o cs.length with h|h
        .exact h
        .rw[ed h]at hx;cases hx
       have mn:(cs.set o (x,aj)).map (·.1)=cs.map (·.1):=by
        rw[List.map_set];apply List.ext_getElem?;intro j;rw[List.getElem?_set];by_cases hj:o=j
        .subst hj;rw[iw,bJ rfl,bJ gx,m8,hx];rfl
        .rw[bI hj]
       refine⟨id,_,hid,by rw[RT hlt,bJ rfl],⟨by rw[mn];exact h1,by rw[mn];exact h2,λy hy=>?_⟩,λi s hi=>?_⟩
       .rcases List.mem_or_eq_of_mem_set hy with hy|rfl
        .exact h3 y hy
        .exact h3 (x,b) (ef hx)
       .obtain⟨m1,m2⟩:=dc i s hi;obtain⟨x',lg,jd⟩:=lj i s m1;exact⟨x',by rw[List.getElem?_set,bI (λe=>m2 e.symm)];exact lg,jd⟩
      have hisSl:Do wt=ah->DU v=ah:=by
       intro hs;cases wt with
       |sl et=>
        have hv:v≠ .nil:=by
         intro hv;have hc:v.cells=[v]:=by rw[hv];rfl
         rw[k3]at hc;have hm:v∈cs.map (·.1):=List.mem_of_mem_drop (List.mem_of_mem_take (by rw[hc];exact ig.2 rfl))
         obtain⟨y,hy,e1⟩:=ix.1 hm;exact h3 y hy (by rw[e1];exact hv)
        obtain⟨_,co⟩:=vN k2;rcases co with⟨_,h4|h4|h4⟩|⟨_,h4⟩
        .rw[h4];rfl
        .exact(hv h4).elim
        .rw[h4];rfl
        .rw[h4];rfl
       |_=>cases hs
      have hslNo:Do wt=aj->DU v=aj:=by
       intro hs;cases wt with
       |sl et=>cases hs
       |int k=>rw[jP k2];rfl
       |bool=>rw[of_bool k2];rfl
       |str=>rw[A6 k2];rfl
       |rc n=>obtain⟨cq,hc,_⟩:=Rs k2;rw[hc];rfl
      cases hc:take&&Do wt&&FG o rs with
      |true=>
       rw[hc]at h;simp only[aC]at hc;obtain⟨⟨rfl,co⟩,hmr⟩:=hc;obtain⟨s,hs⟩:=xJ.1 hmr;obtain⟨x,hx,_⟩:=lj o s hs;have hvx:v=x:=by
        have hwt1:mW wt=aj:=by cases wt<;>first|rfl|cases co
        have hc1:v.cells=[v]:=mO λds e=>by rw[e,hwt1]at k4;cases k4
        have hc2:(cs.map (·.1))[o]?=aa x:=by rw[m8,hx];rfl
        have hc3:((cs.map (·.1)).drop o).take 1=[v]:=by
         have:dW U wt=1:=by cases wt<;>first|rfl|cases hwt1
         rw[this]at k3;rw[<-k3,hc1]
        have hc4:=congrArg (·[0]?) hc3;simp only[m6,m7,aU]at hc4;rw[bJ (by omega),Nat.add_zero,hc2]at hc4
        exact(Option.some.inj hc4).symm
       have hpt:gP p (.ptr id o)=(p.mark id (.box (cs.set o (x,aj))),ah):=by simp only[gP,bc,hx]
       obtain⟨m1,m2⟩:=Mm.mark hf he hid (se (a34 o 1 rs) (λi s hi=>by
        obtain⟨y1,y2⟩:=aAV hi;exact⟨y1,λe=>y2 ⟨by simp only;omega,by simp only;omega⟩⟩) x ah hx)
       refine⟨_,_,v,ah,_,h,?_,⟨k2,?_⟩,m1,m2⟩
       .simp only[wT,hl,hisSl co,n8,aI,hpt]
       .intro i s' hi;obtain⟨y1,y2⟩:=LR hi;obtain⟨x',lg,jd⟩:=lj _ _ y1;have hi0:i=0:=by simp only at y2;omega
        subst hi0;simp only[ir]at lg;rw[hx]at lg;cases lg;refine .inr ⟨rfl,?_,rfl,λe1=>by rw[hvx];exact jd e1⟩
        rw[k4];cases wt<;>first|rfl|cases co
      |false=>
       rw[hc]at h;simp only[aJ]at h;cases fy:take&&DU v with
       |false=>
        exact⟨_,_,v,aj,p,h,by simp only[wT,hl,fy,aJ],⟨k2,cJ _ _⟩,Mm,λhw=>hw⟩
       |true=>
        have hred:wT P take p t (.ptr id o)=aa (v,(gP p (.ptr id o)).2,(gP p (.ptr id o)).1):=by simp only[wT,hl,fy,aI]
        simp only[aC]at fy;have co:Do wt=ah:=by
         cases hh:Do wt with
         |true=>rfl
         |false=>rw[hslNo hh]at fy;cases fy.2
        have kw:FG o rs=aj:=by rw[fy.1,co]at hc;simpa using hc
        refine⟨_,M,v,(gP p (.ptr id o)).2,(gP p (.ptr id o)).1,h,hred,⟨k2,cJ _ _⟩,?_⟩;cases hx:cs[o]? with
        |none=>rw[show gP p (.ptr id o)=(p,aj) by simp only[gP,bc,hx]];exact⟨Mm,λhw=>hw⟩
        |some y=>
         obtain⟨x,b⟩:=y;cases b with
         |false=>rw[show gP p (.ptr id o)=(p,aj) by simp only[gP,bc,hx]];exact⟨Mm,λhw=>hw⟩
         |true=>
          rw[show gP p (.ptr id o)=(p.mark id (.box (cs.set o (x,aj))),ah) by simp only[gP,bc,hx]]
          have:=Mm.mark hf he hid (se rs (λi s hi=>⟨hi,λe=>by
           rw[e]at hi;rw[xJ.2 ⟨s,hi⟩]at kw;cases kw⟩) x ah hx)
          rwa [JD hf]at this
    .cases h
   ·
    rename_i f caps;obtain⟨pv,b,rfl,hpv⟩:=hcs;split at h
    .cases hb:T.T.fn t&&ao off 0 with
     |false=>rw[hb]at h;cases h
     |true=>
      rw[hb]at h;simp only[aC,dZ,aD]at hb;obtain⟨gt,rfl⟩:=hb;obtain⟨ha,_,_⟩:=hT.fn t gt;have hl:kW P p t (.ptr id 0)=aa pv:=by simp only[kW,bc,sX,ha];rfl
      have hpv2:=hpv;obtain⟨ps,e1,_⟩:=hpv2;refine⟨_,_,pv,aj,p,h,?_,⟨hpv,cJ _ _⟩,Mm,λhw=>hw⟩
      have:DU pv=aj:=by rw[e1];rfl
      simp only[wT,hl,this,Bool.and_false,aJ]
    .cases h
   .cases h
  .cases h
 ·
  rename_i k i off path;obtain⟨e,id,he,hid,hi0,hi1,rfl⟩:=ra;split at h
  .rename_i et l hf;obtain⟨e',gf,hn,hz,bh⟩:=Mm.bx k _ hf;rw[he]at gf;cases gf;rcases bh with⟨du,_⟩|⟨bn,ff,bc⟩
   .rw[hid]at du;cases du
   .rw[hid]at ff;cases ff;obtain⟨y,hy,h⟩:=pU h;obtain⟨_,hy1,_⟩:=BV hy;split at h
    .rename_i ty w o fx hp;cases hb:w.t.beq ty&&ao o off with
     |false=>rw[hb]at h;cases h
     |true=>
      rw[hb]at h;simp only[aI]at h;simp only[aC,dZ,aD]at hb;obtain⟨md,rfl⟩:=hb;obtain⟨wt,wx⟩:=w;have:=Ty.beq_eq md;subst this;obtain⟨g1,g2⟩:=zL hU hp (SR.self hU et y);have vc:=QT hU hy1;rw[<-vc,List.drop_take,List.drop_drop,List.take_take,Nat.min_eq_left (by simp only at g2⊢;omega)]at g1
      obtain⟨v,k1,k2,k3,k4⟩:=BF hU hT fx g1;have hl:kW P p t (.ptr id (i.toNat*e.z+o))=aa v:=by simp only[kW,bc,hz];exact k1
      refine⟨_,_,v,aj,p,h,?_,⟨k2,cJ _ _⟩,Mm,λhw=>hw⟩
      have hpt:gP p (.ptr id (i.toNat*e.z+o))=(p,aj):=by simp only[gP,bc]
      simp only[wT,hl,hpt];cases take&&DU v<;>rfl
    .cases h
  .cases h
 .cases h
end
section
variable{P:az}{U:iY}{T:TP U.D}{c c0:Cx}{W:Type}{r:W}{q p:PSt}{M:TM U.D}
def aEQ{N:Type}(l s:au N)(o o' n m:Nat)(h1:o'+m<=n)(h2:o+n<=l.length):
    l.take (o+o')++s++l.drop (o+o'+m)=l.take o++(((l.drop o).take n).take o'++s++((l.drop o).take n).drop (o'+m))++l.drop (o+n):=by
 have e1:l.take (o+o')=l.take o++((l.drop o).take n).take o':=by
  rw[List.take_add,List.take_take,Nat.min_eq_left (by omega)]
 have e2:l.drop (o+o'+m)=((l.drop o).take n).drop (o'+m)++l.drop (o+n):=by
  rw[List.drop_take,List.drop_drop];have:l.drop (o+n)=(l.drop (o+(o'+m))).drop (n-(o'+m)):=by rw[List.drop_drop];congr 1;omega
  rw[this,List.take_append_drop,Nat.add_assoc]
 rw[e1,e2];simp only[aQ]
def Tj{ts:au Ty}{cs s:au PV}{o n:Nat}(h:QB U ts cs)(hs:QB U ((ts.drop o).take n) s)(hl:s.length=n)(hle:o+n<=cs.length):QB U ts (cs.take o++s++cs.drop (o+n)):=λj z hj=>by
 have hlt:(cs.take o).length=o:=by rw[og];omega
 rw[aQ]at hj;by_cases h1:j<o
 .rw[i7 (by omega),m6,bJ h1]at hj
  exact h j z hj
 .rw[eo (by omega),hlt]at hj
  by_cases h2:j-o<n
  .rw[i7 (by omega)]at hj
   obtain⟨e,g1,g2⟩:=hs _ z hj;rw[m6,bJ h2,m7]at g1;exact⟨e,by rw[<-g1];congr 1;omega,g2⟩
  .rw[eo (by omega),m7]at hj
   have:o+n+(j-o-s.length)=j:=by omega
   rw[this]at hj;exact h j z hj
variable(hU:jA U)(hT:tR P U T)
include hU
def Vv{l:au (V U)}{i:Nat}{v w:V U}(h:l[i]?=aa v)(ht:w.t=v.t):
    xZ (l.set i w)=(xZ l).take (fD U ((l.map λv=>v.t).take i))++(eA U w.t w.x).cells++(xZ l).drop (fD U ((l.map λv=>v.t).take i)+dW U v.t):=by
 induction l generalizing i with
 |nil=>simp at h
 |cons x l ih=>
  cases i with
  |zero=>
   simp only[aU,aA]at h;subst h;rw[List.set_cons_zero,kF,kF,List.take_zero,fD,List.take_zero,aW,ir,List.drop_left' (jT hU _ _)]
  |succ i=>
   rw[aT]at h;rw[List.set_cons_succ,kF,kF,ih h,aO,List.take_succ_cons,fD,Nat.add_assoc];have hl:=jT hU x.t x.x;rw[<-hl,List.take_length_add_append,List.drop_length_add_append];simp only[aQ]
def ZV{path:au Nat}: ∀{v w c' old:V U} {o:Nat} {cs s:au PV},aCP U path v w=aa c'->BW U path v=aa (old,o)->SR v.t v.x cs->SR w.t w.x s->
    c'.t=v.t/\w.t=old.t/\SR c'.t c'.x (cs.take o++s++cs.drop (o+dW U w.t)):=by
 induction path with
 |nil=>
  intro v w c' old o cs s h hp r rs;simp only[BW,aA,aB]at hp;obtain⟨rfl,rfl⟩:=hp;unfold aCP at h;cases hb:v.t.beq w.t with
  |false=>rw[hb]at h;cases h
  |true=>
   rw[hb]at h;simp only[aI,aA]at h;subst h;have:=Ty.beq_eq hb;refine⟨this.symm,this.symm,?_⟩;rw[List.take_zero,aW,ir,List.drop_eq_nil_of_le (by rw[r.len hU,this];exact aS _),bB]
   exact rs
 |cons i path ih=>
  intro v w c' old o cs s h hp r rs;obtain⟨vt,vx⟩:=v;unfold aCP at h;split at h
  .rename_i n x heq;cases heq;split at h
   .rename_i y hy;split at h
    .rename_i y' nv;split at h
     .rename_i z hz;cases h;unfold BW at hp;rw[show Me U ⟨.rc n,x⟩ i=aa y from hy]at hp
      simp only at hp;split at hp
      .rename_i r' bz;simp only[aA,aB]at hp;obtain⟨rfl,rfl⟩:=hp;have dh:BW U path y=aa (r'.1,r'.2):=by rw[bz]
       have hpart:=r.fld hU hy;obtain⟨g1,g2,g3⟩:=ih nv dh hpart rs;obtain⟨g4,g5⟩:=zL hU dh hpart;have hun:=hU.un_of n _ z hz;have cy:cs.length=U.sz n:=r.len hU;have dm:=hpart.len hU;rw[og,oh,cy]at dm;have hsp:=rP hU y.t;have hle:lG U n i+dW U y.t<=cs.length:=by omega
       refine⟨rfl,g2,?_⟩;show SR (.rc n) z (cs.take (lG U n i+r'.2)++s++cs.drop (lG U n i+r'.2+dW U w.t));rw[aEQ cs s (lG U n i) r'.2 (dW U y.t) (dW U w.t) (by rw[g2];exact g5) hle]
       refine⟨?_,?_⟩
       .rw[tW,tW,Eu,Ev,r.wk,g3.wk];show _=U.en n z;rw[hU.en n z,hun];have:=Vv hU hy g1;rw[hU.ty n x]at this;show _=xZ _;rw[this];show(U.en n x).take _++_++(U.en n x).drop _=_;rw[hU.en n x];rfl
       .refine Tj r.z ?_ (by rw[g3.len hU,g1]) hle
        have h5:(((kC U (.rc n)).drop (lG U n i)).take (dW U y.t))=kC U y.t:=Gd hU (Gc hU hy);have h6:kC U y'.t=kC U y.t:=by rw[g1]
        rw[h5,<-h6];exact g3.z
      .cases hp
     .cases h
    .cases h
   .cases h
  .cases h
omit hU in
def a32(x:PV)(b:Bool):(fl x b).1=match x with| .nil=> .emp|x=>x:=by cases x<;>rfl
omit hU in
def bEL(x:PV)(b:Bool):wk (fl x b).1=wk x:=by cases x<;>rfl
omit hU in
def Ba(x:PV)(b:Bool):(fl x b).1≠ .nil:=by cases x<;>simp[fl]
omit hU in
def SR.fl{t:Ty}{x:Den U.D t}{cs:au PV}(h:SR t x cs)(b:Bool):SR t x ((cs.map λc=>fl c b).map (·.1)):=by
 refine⟨?_,λj z hj=>?_⟩
 .rw[<-h.wk,oG,oG,List.map_map,List.map_map];exact List.map_congr_left λc _=>bEL c b
 .rw[List.map_map,m8,aF]at hj;obtain⟨y,hy,e⟩:=hj;have nv:y= .sl z []:=by
   have e:(PI.fl y b).1= .sl z []:=e;rw[a32]at e;split at e
   .cases e
   .exact e
  exact h.z j z (by rw[hy,nv])
omit hU in
def aFd{rs:kA}{t:Ty}{x:Den U.D t}{pv:PV}{ow:Bool}(h:aD4 rs pv ow)(hv:VR U t x pv):bGQ rs (pv.cells.map λc=>fl c ow):=λo s hi=>by
 rcases h o s hi with⟨h1,h2⟩|⟨rfl,h1,h2,h3⟩
 .exact⟨.emp,by rw[m8,h2];rfl,λ_=>rfl⟩
 .have hc:pv.cells=[pv]:=mO λds e=>by rw[e]at h1;cases h1
  rw[hc];cases hn:lV pv with
  |true=>
   have:pv= .nil:=by cases pv<;>first|rfl|cases hn
   subst this;exact⟨.emp,rfl,λ_=>rfl⟩
  |false=>
   rw[hn,Bool.or_false]at h2;subst h2;refine⟨pv,?_,h3⟩;have:fl pv ah=(pv,ah):=by cases pv<;>first|rfl|cases hn
   simp[this]
def aXf(hT:tR P U T){t:aw}{a:SV U.D}{x:X U}{p0 p1:PV}{ow:Bool}{K:TM U.D->f9 W}(h:stT U T.T M t a x K=aa r)(ra:wH U c a p0)(rx:rR U c x (p1,ow))(Mm:MR U q c0 c M p):
    ∃M' p',K M'=aa r/\qE P p t p0 p1 ow=aa p'/\MR U q c0 c M' p'/\(WR U c M p->WR U c M' p'):=by
 unfold stT at h;split at h
 ·
  rename_i k off path;obtain⟨e,id,he,hid,rfl⟩:=ra;have hlt:=Mm.lt k e id he hid;split at h
  .rename_i cont rs hf;obtain⟨e',gf,bn,cs,ff,bc,hcs,lj⟩:=Mm.bx k _ hf;rw[he]at gf;cases gf;rw[hid]at ff;cases ff;split at h
   .rename_i cv;split at h
    .rename_i ty w o fx hp;cases hb:w.t.beq ty&&ao o off with
     |false=>rw[hb]at h;cases h
     |true=>
      rw[hb]at h;simp only[aI]at h;simp only[aC,dZ,aD]at hb;obtain⟨md,rfl⟩:=hb;have:=Ty.beq_eq md;split at h
      .rename_i v hv;split at h
       .rename_i c' nj;obtain⟨jb,li⟩:=mQ hU hv rx.1;obtain⟨h1,h2,h3⟩:=hcs;have hsr:SR cv.t cv.x (cs.map (·.1)):=⟨h1,h2⟩;have hs:=VR.sr li;obtain⟨g1,g2,g3⟩:=ZV hU nj hp hsr (hs.fl ow);obtain⟨g4,g5⟩:=zL hU hp hsr;have cy:cs.length=dW U cv.t:=by have:=hsr.len hU;rwa [iw]at this
        have bu:iN P t=aa (dW U ty):=hT.sz t ty fx;have hn:p1.cells.length=dW U ty:=by rw[hs.len hU,jb]
        have hle:o+dW U ty<=cs.length:=by rw[cy,<-this];exact g5
        have c1:(ao p1.cells.length (dW U ty)&&aq (o+dW U ty) cs.length&&p1.cells.all PV.one)=ah:=by
         rw[hs.one hU,hn,Nat.beq_refl,iu,bF,d8];exact hle
        refine⟨_,p.upd id (.box (cs.take o++p1.cells.map (λc=>fl c ow)++cs.drop (o+dW U ty))),h,by simp only[qE,bc,bu,c1,aI],Mm.upd hf he hid ?_⟩
        refine⟨id,_,hid,by rw[mM hlt,bJ rfl],⟨?_,?_,?_⟩,?_⟩
        .rw[<-g3.wk,jb];simp only[List.map_append,List.map_take,List.map_drop]
        .rw[jb]at g3;have:=g3.z;simp only[List.map_append,List.map_take,List.map_drop];exact this
        .intro y hy;rcases oa.1 hy with hy|hy
         .rcases oa.1 hy with hy|hy
          .exact h3 y (List.mem_of_mem_take hy)
          .obtain⟨z,_,rfl⟩:=ix.1 hy;exact Ba z ow
         .exact h3 y (List.mem_of_mem_drop hy)
        .intro i s hi;have htl:(cs.take o).length=o:=by rw[og];omega
         rcases oa.1 hi with hi|hi
         .obtain⟨j,e1,e2⟩:=aG6 hi;simp only at e1;subst e1;obtain⟨y,hy,hys⟩:=aFd rx.2 li j s e2;refine⟨y,?_,hys⟩;have hj:j<p1.cells.length:=by
           rcases b8 j p1.cells.length with h|h
           .exact h
           .rw[ed (by rw[iw];exact h)]at hy;cases hy
          rw[aQ,eo (by omega),htl,Nat.add_sub_cancel,i7 (by rw[iw];exact hj)]
          exact hy
         .obtain⟨e1,e2⟩:=aAV hi;obtain⟨y,hy,hys⟩:=lj i s e1;refine⟨y,?_,hys⟩;simp only at e2;rw[aQ];by_cases h4:i<o
          .rw[i7 (by omega),m6,bJ h4];exact hy
          .have h5:o+dW U ty<=i:=by omega
           rw[eo (by omega),htl,eo (by rw[iw];omega),iw,hn,m7]
           have:o+dW U ty+(i-o-dW U ty)=i:=by omega
           rw[this];exact hy
       .cases h
      .cases h
    .cases h
   ·
    split at h
    .rename_i f caps hx;cases hb:T.T.fn t&&ao off 0&&stT.isF U cont with
     |false=>rw[hb]at h;cases h
     |true=>
      rw[hb]at h;simp only[aI]at h;simp only[aC,dZ,aD]at hb;obtain⟨⟨gt,rfl⟩,hF⟩:=hb;obtain⟨_,bu,_⟩:=hT.fn t gt;have hx1:wH U c (.cl f caps) p1:=by have:=rx.1;rw[hx]at this;exact this
      obtain⟨ps,kj,gi⟩:=hx1;have hcs1: ∃y,cs=[y]:=by
       cases cont with
       |cl f' cj=>obtain⟨pv,b,e1,_⟩:=hcs;exact⟨_,e1⟩
       |nf=>obtain⟨b,e1⟩:=hcs;exact⟨_,e1⟩
       |_=>cases hF
      obtain⟨y,rfl⟩:=hcs1;subst kj;refine⟨_,p.upd id (.box [(.fn f [] ps,ow)]),h,?_,Mm.upd hf he hid ?_⟩
      .simp only[qE,bc,bu];rfl
      .exact⟨id,_,hid,by rw[mM hlt,bJ rfl],⟨_,_,rfl,ps,rfl,gi⟩,λo s hi=>by cases hi⟩
    .cases h
  .cases h
 ·
  rename_i k i off path;obtain⟨e,id,he,hid,hi0,hi1,rfl⟩:=ra;have hlt:=Mm.lt k e id he hid;split at h
  .rename_i et l hf;obtain⟨e',gf,hn,hz,bh⟩:=Mm.bx k _ hf;rw[he]at gf;cases gf;rcases bh with⟨du,_⟩|⟨bn,ff,bc⟩
   .rw[hid]at du;cases du
   .rw[hid]at ff;cases ff;obtain⟨y,hy,h8⟩:=pU h;clear h;have h:=h8;clear h8;obtain⟨_,hy1,hylt⟩:=BV hy;split at h
    .rename_i ty w o fx hp;cases hb:w.t.beq ty&&ao o off with
     |false=>rw[hb]at h;cases h
     |true=>
      rw[hb]at h;simp only[aI]at h;simp only[aC,dZ,aD]at hb;obtain⟨md,rfl⟩:=hb;have:=Ty.beq_eq md;split at h
      .rename_i v hv;split at h
       .rename_i c' nj;split at h
        .rename_i z kf;obtain⟨jb,li⟩:=mQ hU hv rx.1;have hs:=VR.sr li;have hsr:=SR.self hU et y;have hs2:SR v.t v.x (eA U v.t v.x).cells:=SR.self hU v.t v.x;obtain⟨g1,g2,g3⟩:=ZV hU nj hp hsr hs2;obtain⟨g4,g5⟩:=zL hU hp hsr;have ec:=qM kf;have bu:iN P t=aa (dW U ty):=hT.sz t ty fx;have hpn:p1.cells.length=dW U ty:=by rw[hs.len hU,jb]
         have gl:((l.map (eA U et)).flatMap PV.cells).length=l.length*dW U et:=by
          have:=iZ (z:=dW U et) (es:=l.map (eA U et)) (λe' gf=>by obtain⟨a,_,rfl⟩:=ix.1 gf;exact jT hU _ _)
          rw[iw]at this;exact this
         have hmul:i.toNat*dW U et+dW U et<=l.length*dW U et:=by rw[<-Nat.succ_mul];exact Nat.mul_le_mul_right _ hylt
         have hoz:o+dW U ty<=dW U et:=by rw[<-this];exact g5
         have c1:(ao p1.cells.length (dW U ty)&&aq (i.toNat*e.z+o+dW U ty) ((l.map (eA U et)).flatMap PV.cells).length&&p1.cells.all PV.one)=ah:=by
          rw[hs.one hU,hpn,Nat.beq_refl,iu,bF,d8,gl,hz];omega
         refine⟨_,p.upd id (.row e.z (mW et) (((l.map (eA U et)).flatMap PV.cells).take (i.toNat*e.z+o)++PI.wks p1.cells++((l.map (eA U et)).flatMap PV.cells).drop (i.toNat*e.z+o+dW U ty))),h,by simp only[qE,bc,bu,c1,aI],Mm.upd hf he hid ?_⟩
         refine⟨by rw[List.length_set];exact hn,hz,.inr ⟨id,hid,?_⟩⟩
         rw[mM hlt,bJ rfl];congr 2;have hz2:(eA U et z).cells=(eA U et y).cells.take o++PI.wks p1.cells++(eA U et y).cells.drop (o+dW U ty):=by
          have h6:=g3.wk;have e6:(⟨c'.t,c'.x⟩:TV U.D)=⟨et,z⟩:=ec;have h7:(eA U (⟨c'.t,c'.x⟩:TV U.D).t (⟨c'.t,c'.x⟩:TV U.D).x).cells=(eA U et z).cells:=by rw[e6]
          rw[<-h7,<-h6];simp only[tW,Eu,Ev,jb];rw[Mb (vW hU et y),hs.wk];congr 2;exact Mb (vW hU v.t v.x)
         have hfs:((l.set i.toNat z).map (eA U et)).flatMap PV.cells=Cz (fM (l.map (eA U et))) (i.toNat*dW U et) (eA U et z).cells:=by
          rw[List.map_set];exact RY (λe' gf=>by obtain⟨a,_,rfl⟩:=ix.1 gf;exact jT hU _ _) (by rw[iw];exact hylt) (jT hU _ _)
         rw[hfs,aAA _ _ _ (by rw[jT hU];show _<=((l.map (eA U et)).flatMap PV.cells).length;rw[gl];exact hmul),jT hU,hz2,hz]
         show((l.map (eA U et)).flatMap PV.cells).take (i.toNat*dW U et+o)++_++((l.map (eA U et)).flatMap PV.cells).drop (i.toNat*dW U et+o+dW U ty)=_;rw[aEQ _ _ (i.toNat*dW U et) o (dW U et) (dW U ty) hoz (by rw[gl];exact hmul),QT hU hy1]
         rfl
        .cases h
       .cases h
      .cases h
    .cases h
  .cases h
 .cases h
end
section
variable{P:az}{U:iY}{T:TP U.D}{c c0:Cx}{W:Type}{r:W}{q p:PSt}{M:TM U.D}
def oR(c:Cx)(k:Nat)(e:Ce):Cx:=λj=>if j=k then aa e else c j
def mD{k:Nat}{e:Ce}(h:c k=ae):leC c (oR c k e):=λj e' hj=>by
 unfold oR;by_cases e1:j=k
 .subst e1;rw[h]at hj;cases hj
 .rw[bI e1];exact hj
def aA8{p:PSt}{o:lT}{id:Nat}(h:id<p.next):(p.new o).get id=p.get id:=by
 rw[mN,bI (by omega)]
def MR.new(Mm:MR U q c0 c M p){k:Nat}(hk:100<=k)(hf:eB M.bx k=ae){o:lT}{b:BC U.D}{n z:Nat}(hr:D4 U (oR c k ⟨aa p.next,n,z⟩) (p.new o) ⟨aa p.next,n,z⟩ b):
    MR U q c0 (oR c k ⟨aa p.next,n,z⟩) ⟨(k,b)::M.bx,M.wr⟩ (p.new o)/\(WR U c M p->WR U (oR c k ⟨aa p.next,n,z⟩) ⟨(k,b)::M.bx,M.wr⟩ (p.new o)):=by
 have hc:=Mm.dom k hf;refine⟨⟨λj h=>?_,λj y h=>?_,λj e id h1 h2=>?_,λj j' e e' id h1 h2 h3 h4=>?_,Nat.le_succ_of_le Mm.next,λj e h1 h2=>?_,λj e id h1 h2 h3=>?_,λid hi ho=>?_,Mm.dirty,λid hi=>?_⟩,λhw id hi j e h1 h2=>?_⟩
 .rw[iJ]at h;by_cases e1:j=k
  .rw[bJ e1]at h;cases h
  .rw[bI e1]at h;unfold oR;rw[bI e1];exact Mm.dom j h
 .rw[iJ]at h;by_cases e1:j=k
  .rw[bJ e1]at h;simp only[aA]at h;subst h;exact⟨_,by unfold oR;rw[bJ e1],hr⟩
  .rw[bI e1]at h;obtain⟨e,g1,g2⟩:=Mm.bx j y h;exact⟨e,mD hc j e g1,Ag (aIR (mD hc) g2) λid hid=>aA8 (Mm.lt j e id g1 hid)⟩
 .unfold oR at h1;by_cases e1:j=k
  .rw[bJ e1]at h1;cases h1;cases h2;exact Nat.lt_succ_self _
  .rw[bI e1]at h1;exact Nat.lt_succ_of_lt (Mm.lt j e id h1 h2)
 .unfold oR at h1 h2;by_cases e1:j=k<;>by_cases e2:j'=k
  .rw[e1,e2]
  .rw[bJ e1]at h1;rw[bI e2]at h2;cases h1;cases h3;have:=Mm.lt j' e' _ h2 h4;omega
  .rw[bI e1]at h1;rw[bJ e2]at h2;cases h2;cases h4;have:=Mm.lt j e _ h1 h3;omega
  .rw[bI e1]at h1;rw[bI e2]at h2;exact Mm.inj j j' e e' id h1 h2 h3 h4
 .unfold oR at h1;by_cases e1:j=k
  .omega
  .rw[bI e1]at h1;exact Mm.bor j e h1 h2
 .unfold oR at h1;by_cases e1:j=k
  .rw[bJ e1]at h1;cases h1;cases h3;exact Mm.next
  .rw[bI e1]at h1;exact Mm.loc j e id h1 h2 h3
 .rw[aA8 (Nat.lt_of_lt_of_le hi Mm.next)];exact Mm.old id hi ho
 .obtain⟨g1,g2⟩:=Mm.wr id hi;exact⟨Nat.lt_succ_of_lt g1,g2⟩
 .unfold oR at h1;by_cases e1:j=k
  .rw[bJ e1]at h1;cases h1;cases h2;have:=(Mm.wr _ hi).1;omega
  .rw[bI e1]at h1;exact hw id hi j e h1 h2
def MR.new0(Mm:MR U q c0 c M p){k:Nat}(hk:100<=k)(hf:eB M.bx k=ae){b:BC U.D}{n z:Nat}(hr:D4 U (oR c k ⟨ae,n,z⟩) p ⟨ae,n,z⟩ b):
    MR U q c0 (oR c k ⟨ae,n,z⟩) ⟨(k,b)::M.bx,M.wr⟩ p/\(WR U c M p->WR U (oR c k ⟨ae,n,z⟩) ⟨(k,b)::M.bx,M.wr⟩ p):=by
 have hc:=Mm.dom k hf;have un: ∀{j:Nat} {e:Ce} {id:Nat},oR c k ⟨ae,n,z⟩ j=aa e->e.id=aa id->c j=aa e:=by
  intro j e id h1 h2;unfold oR at h1;by_cases e1:j=k
  .rw[bJ e1]at h1;cases h1;cases h2
  .rw[bI e1]at h1;exact h1
 refine⟨⟨λj h=>?_,λj y h=>?_,λj e id h1 h2=>Mm.lt j e id (un h1 h2) h2,λj j' e e' id h1 h2 h3 h4=>Mm.inj j j' e e' id (un h1 h3) (un h2 h4) h3 h4,Mm.next,λj e h1 h2=>?_,λj e id h1 h2 h3=>Mm.loc j e id (un h1 h3) h2 h3,Mm.old,Mm.dirty,Mm.wr⟩,λhw id hi j e h1 h2=>hw id hi j e (un h1 h2) h2⟩
 .rw[iJ]at h;by_cases e1:j=k
  .rw[bJ e1]at h;cases h
  .rw[bI e1]at h;unfold oR;rw[bI e1];exact Mm.dom j h
 .rw[iJ]at h;by_cases e1:j=k
  .rw[bJ e1]at h;simp only[aA]at h;subst h;exact⟨_,by unfold oR;rw[bJ e1],hr⟩
  .rw[bI e1]at h;obtain⟨e,g1,g2⟩:=Mm.bx j y h;exact⟨e,mD hc j e g1,aIR (mD hc) g2⟩
 .unfold oR at h1;by_cases e1:j=k
  .omega
  .rw[bI e1]at h1;exact Mm.bor j e h1 h2
def MR.gone(Mm:MR U q c0 c M p){k:Nat}{b:BC U.D}(hb:eB M.bx k=aa b)(w:au Nat):MR U q c0 c ⟨sP M.bx k .gone,w⟩ p:=by
 refine⟨λj h=>?_,λj y h=>?_,Mm.lt,Mm.inj,Mm.next,Mm.bor,Mm.loc,Mm.old,Mm.dirty,Mm.wr⟩
 .simp only[lL]at h;by_cases hj:j=k
  .rw[bJ hj,hb]at h;cases h
  .rw[bI hj]at h;exact Mm.dom j h
 .simp only[lL]at h;by_cases hj:j=k
  .subst hj;rw[bJ rfl,hb]at h;simp only[aK,aA]at h;subst h;obtain⟨e,h1,_⟩:=Mm.bx j b hb;exact⟨e,h1,trivial⟩
  .rw[bI hj]at h;exact Mm.bx j y h
variable(hU:jA U)(hT:tR P U T)
def tG{k:Nat}{b:BC U.D}{K:TM U.D->f9 W}(h:IJ U M k b K=aa r):eB M.bx k=ae/\K ⟨(k,b)::M.bx,M.wr⟩=aa r:=by
 unfold IJ at h;split at h
 .rename_i e;exact⟨e,h⟩
 .cases h
include hU hT
def a5s{S':PS}{o:ic}{d:f9 Tmp}{t:aw}{K:X U->TM U.D->f9 W}(ho:o.op= .alloc t)(h:a6L U T.T M d t K=aa r)(Mm:MR U q c0 c M p):
    ∃c' x M' v p',K x M'=aa r/\fR P p S' o=aa (v,aj,p')/\leC c c'/\rR U c' x (v,aj)/\MR U q c0 c' M' p'/\(WR U c M p->WR U c' M' p'):=by
 unfold a6L at h;split at h
 .rename_i d;split at h
  .rename_i ty fx;obtain⟨hf,hk⟩:=tG h;have hz:=hT.zc t ty fx;have hc:=Mm.dom _ hf;have hsr:=Ti hU ty;obtain⟨g1,g2⟩:=Mm.new (o:= .box ((QA U ty).map λc=>fl c aj)) (n:=0) (z:=0) (b:= .bx (.val ⟨ty,qZ U ty⟩) (BJ U ty)) (iq 100 d) hf ⟨p.next,_,rfl,by rw[mN,bJ rfl],⟨(hsr.fl aj).wk,(hsr.fl aj).z,λy hy=>by
          obtain⟨z,_,rfl⟩:=ix.1 hy;exact Ba z aj⟩,λi s hi=>⟨.emp,by rw[m8,Qz hU ty i s hi];rfl,λ_=>rfl⟩⟩
   exact⟨_,_,_,.ptr p.next 0,_,hk,by simp only[fR,ho,hz],mD hc,⟨⟨_,_,by unfold oR;rw[bJ rfl],rfl,rfl⟩,cJ _ _⟩,g1,g2⟩
  .cases gt:T.T.fn t with
   |false=>rw[gt]at h;cases h
   |true=>
    rw[gt]at h;obtain⟨hf,hk⟩:=tG h;obtain⟨_,_,hz⟩:=hT.fn t gt;have hc:=Mm.dom _ hf;obtain⟨g1,g2⟩:=Mm.new (o:= .box [(.v .nilFunc,aj)]) (n:=0) (z:=0) (b:= .bx .nf []) (iq 100 d) hf ⟨p.next,_,rfl,by rw[mN,bJ rfl],⟨_,rfl⟩,λi s hi=>by cases hi⟩
    exact⟨_,_,_,.ptr p.next 0,_,hk,by simp only[fR,ho,hz];rfl,mD hc,⟨⟨_,_,by unfold oR;rw[bJ rfl],rfl,rfl⟩,cJ _ _⟩,g1,g2⟩
 .cases h
omit hT in
def a41{S:TS U.D}{S':PS}(F:mZ U c S S'){o:ic}{d:f9 Tmp}{t:aw}{x:a8}{K:X U->TM U.D->f9 W}(ho:o.op= .box t x)(h:a6J U T.T M d t (kE U S x) K=aa r)(Mm:MR U q c0 c M p):
    ∃c' x M' v p',K x M'=aa r/\fR P p S' o=aa (v,aj,p')/\leC c c'/\rR U c' x (v,aj)/\MR U q c0 c' M' p'/\(WR U c M p->WR U c' M' p'):=by
 have rx:=dO F x;unfold a6J at h;split at h
 .rename_i d;split at h
  .rename_i ty fx;split at h
   .rename_i v hv;obtain⟨hf,hk⟩:=tG h;obtain⟨jb,li⟩:=mQ hU hv rx.1;have hsr:=VR.sr li;have hc:=Mm.dom _ hf;have lj:=(xN rx).2;obtain⟨g1,g2⟩:=Mm.new (o:= .box ((dG S' x).cells.map λc=>fl c aj)) (n:=0) (z:=0) (b:= .bx (.val v) (vR U (kE U S x)).2) (iq 100 d) hf ⟨p.next,_,rfl,by rw[mN,bJ rfl],⟨(hsr.fl aj).wk,(hsr.fl aj).z,λy hy=>by
            obtain⟨z,_,rfl⟩:=ix.1 hy;exact Ba z aj⟩,aFd lj li⟩
    exact⟨_,_,_,.ptr p.next 0,_,hk,by simp only[fR,ho,hsr.one hU,aI],mD hc,⟨⟨_,_,by unfold oR;rw[bJ rfl],rfl,rfl⟩,cJ _ _⟩,g1,g2⟩
   .cases h
  .split at h
   .rename_i f caps hx;obtain⟨hf,hk⟩:=tG h;have h1:=rx.1;rw[hx]at h1;obtain⟨ps,kj,gi⟩:=h1;have hc:=Mm.dom _ hf;obtain⟨g1,g2⟩:=Mm.new (o:= .box [(.fn f [] ps,aj)]) (n:=0) (z:=0) (b:= .bx (.cl f caps) []) (iq 100 d) hf ⟨p.next,_,rfl,by rw[mN,bJ rfl],⟨_,_,rfl,ps,rfl,NX (mD hc) gi⟩,λi s hi=>by cases hi⟩
    have kj:dG S' x= .fn f [] ps:=kj;exact⟨_,_,_,.ptr p.next 0,_,hk,by simp only[fR,ho,kj];rfl,mD hc,⟨⟨_,_,by unfold oR;rw[bJ rfl],rfl,rfl⟩,cJ _ _⟩,g1,g2⟩
   .cases h
 .cases h
omit hT in
def QS(e:Ty): ∀n,jY (wks (QA U e)) n=((rV (qZ U e) n).map (eA U e)).flatMap PV.cells
 |0=>rfl
 |n+1=>by rw[jY,rV,aO,aN,QS e n,Th hU]
omit hU hT in
def E8{N:Type}(x:N): ∀n,(rV x n).length=n
 |0=>rfl
 |n+1=>by rw[rV,aM,E8 x n]
def a1L{S:TS U.D}{S':PS}(F:mZ U c S S'){o:ic}{d:f9 Tmp}{t:aw}{l k:a8}{K:X U->TM U.D->f9 W}(ho:o.op= .makeSlice t l k)(h:a6C U T.T M d t (bKk l) T.el (kE U S l).1 (kE U S k).1 K=aa r)(Mm:MR U q c0 c M p):
    ∃c' x M' v own p',K x M'=aa r/\fR P p S' o=aa (v,own,p')/\leC c c'/\rR U c' x (v,own)/\MR U q c0 c' M' p'/\(WR U c M p->WR U c' M' p'):=by
 have rl:=(dO F l).1;have rk:=(dO F k).1;unfold a6C at h;split at h
 .rename_i et fp n m fx wf hl hk;rw[hl]at rl;rw[hk]at rk;have el:dG S' l= .v (.int .i64 n):=jP rl;have ek:dG S' k= .v (.int .i64 m):=jP rk;clear rl rk hl hk;obtain⟨n',mi⟩: ∃n':Int,n'=n:=⟨n,rfl⟩;subst mi;obtain⟨m',si⟩: ∃m':Int,m'=m:=⟨m,rfl⟩;subst si;obtain⟨hc,h⟩:=fX h;simp only[aC,aD]at hc;obtain⟨⟨⟨hc1,hc2⟩,hc3⟩,hc4⟩:=hc;obtain⟨eid',hu,jc,gu⟩:=hT.un t _ fx;rw[wf]at gu;cases gu;obtain⟨info,z,hi,bu,hby,hb1,hz,jk,hzc,hzp⟩:=hT.inf fp et jc;have kt:=hT.ag fp et jc;have kj:=rP hU et;have c0: ∀(n' m':Int),0<=n'->n'<=m'->m'*(T.T.by' fp:Int)<=1073741824->m'<=1073741824->(ak (0<=n')&&ak (n'<=m')&&ak (m'*(info.bytes:Int)<=1073741824)&&ak (m'<=1073741824)&&z.cells.toList.all bZ&&ao z.cells.size info.size&&aq 1 info.size&&(mW et||ao info.size 1))=ah:=by
   intro n' m' hc1 hc2 hc3 hc4;rw[jk,bu,hby,hzp,Nat.beq_refl,(by rw[d8];exact kj:aq 1 (dW U et)=ah),bG hc1,bG hc2,bG hc3,bG hc4]
   cases et<;>rfl
  have c1:=c0 n' m' hc1 hc2 hc3 hc4;have vh:fR P p S' o=bif ak (n'=0)then aa (.sl info.size [],ah,p)else bif ak (n'=m')then aa (.rs p.next 0 n'.toNat,aj,p.new (.row info.size (mW et) (jY (wks (ofVs z.cells.toList)) n'.toNat)))else ae:=by
   simp only[fR,ho,hu,el,ek,hi,kt,hz,c1,aI]
  have qm:VR U (.sl et) [] (.sl (dW U et) []):=⟨rfl,λj z' hj=>by
   cases j with
   |zero=>simp only[PV.cells,aU,aA,PV.sl.injEq]at hj;exact⟨et,rfl,hj.1.symm⟩
   |succ j=>simp[PV.cells]at hj⟩
  cases pz:bKk l with
  |true=>
   rw[pz]at h;obtain⟨hn,h⟩:=fX h;have hn:=bL hn;refine⟨c,_,_,.sl (dW U et) [],ah,p,h,?_,leC.refl c,⟨qm,?_⟩,Mm,λhw=>hw⟩
   .rw[vh,bG hn,aI,bu]
   .intro i s hi;simp only[ig,aB]at hi;exact .inr ⟨hi.1,rfl,rfl,λe=>by rw[hi.2]at e;cases e⟩
  |false=>
   rw[pz]at h;obtain⟨hn,h⟩:=fX h;have hn:=bL hn;cases d with
   |none=>cases h
   |some d=>
    obtain⟨hf,hk⟩:=tG h;have hcn:=Mm.dom _ hf;by_cases h0:n'=0
    .have h00:n'.toNat=0:=by omega
     obtain⟨g1,g2⟩:=Mm.new0 (b:= .row et (rV (qZ U et) n'.toNat)) (n:=0) (z:=dW U et) (iq 100 d) hf ⟨by rw[E8,h00],rfl,.inl ⟨rfl,by rw[h00];rfl⟩⟩
     refine⟨_,_,_,.sl (dW U et) [],ah,p,hk,by rw[vh,bG h0,aI,bu],mD hcn,⟨⟨_,by unfold oR;rw[bJ rfl],.inl ⟨rfl,rfl,.inl rfl⟩⟩,cJ _ _⟩,g1,g2⟩
    .obtain⟨g1,g2⟩:=Mm.new (o:= .row (dW U et) (mW et) (jY (wks (ofVs z.cells.toList)) n'.toNat)) (b:= .row et (rV (qZ U et) n'.toNat)) (n:=n'.toNat) (z:=dW U et) (iq 100 d) hf ⟨by rw[E8],rfl,.inr ⟨p.next,rfl,by rw[mN,bJ rfl,hzc,QS hU]⟩⟩
     refine⟨_,_,_,.rs p.next 0 n'.toNat,aj,_,hk,by rw[vh,bH h0,aJ,bG hn,aI,bu],mD hcn,⟨⟨_,by unfold oR;rw[bJ rfl],.inr ⟨_,rfl,by
      have k1:(0:Int)<=n':=hc1;have k2: ¬(n':Int)=0:=h0;simp only;omega,rfl⟩⟩,cJ _ _⟩,g1,g2⟩
 .cases h
omit hT in
def vC{n:Nat}: ∀(l:au (U.D n)),qN (U.sz n) l.length ((l.map (eA U (.rc n))).flatMap PV.cells)=l.map (eA U (.rc n))
 |[]=>rfl
 |x::l=>by
  rw[aM,qN,aO,aN];have hl:(eA U (.rc n) x).cells.length=U.sz n:=jT hU (.rc n) x;rw[List.take_left' hl,List.drop_left' hl,vC l];rfl
omit hU hT in
def R1{t:Ty}(h:mW t=aj): ∀(l:au (Den U.D t)),(l.map (eA U t)).flatMap PV.cells=l.map (eA U t)
 |[]=>rfl
 |x::l=>by
  rw[aO,aN,R1 h l];have:(eA U t x).cells=[eA U t x]:=by
   cases t with
   |rc n=>cases h
   |sl t=>exact qI (fK _ _)
   |_=>rfl
  rw[this];rfl
omit hU hT in
def RU{p:PSt}{x:PV×Bool}(h: ∀id off len,x.1≠ .rs id off len):aNj p x=aa (x,p):=by
 obtain⟨pv,b⟩:=x;cases pv with
 |rs id off len=>exact(h id off len rfl).elim
 |_=>rfl
omit hU hT in
def QH{S0:TS U.D}{S':PS}{t:Nat}(F:mZ U c S0 S'):mZ U c S0 (S'.set t (S'.at t)):=λk=>by
 rw[sE];by_cases e:k=t
 .rw[bJ e,<-e];exact F k
 .rw[bI e];exact F k
omit hT in
def UA{S:TS U.D}{S':PS}(F:mZ U c S S'){t:Nat}{R:TS U.D×TM U.D}(h:a6E U S M t=aa R)(Mm:MR U q c0 c M p):
    ∃S'' p',lA p S' t=aa (S'',p')/\mZ U c R.1 S''/\MR U q c0 c R.2 p'/\(WR U c M p->WR U c R.2 p'):=by
 have hs:=F t;have same: ∀{x:SV U.D} {r:kA},mY S t=(x,r)->(∀id off len,(S'.at t).1≠ .rs id off len)->R=((t,(x,r))::S,M)->
      ∃S'' p',lA p S' t=aa (S'',p')/\mZ U c R.1 S''/\MR U q c0 c R.2 p'/\(WR U c M p->WR U c R.2 p'):=by
  intro x r hx bi hR;subst hR;refine⟨S'.set t (S'.at t),p,by simp only[lA,RU bi],?_,Mm,λhw=>hw⟩
  exact QH (RV F (show rR U c (x,r) (S'.at t) by rw[<-hx];exact hs))
 unfold a6E at h;split at h
 .rename_i k rr hx;split at h
  .rename_i e l hf;simp only[aA]at h;subst h;have h1:=hs.1;rw[hx]at h1;obtain⟨ce,qu,h1⟩:=h1;obtain⟨ce',hce',hn,hz,bh⟩:=Mm.bx k _ hf;rw[qu]at hce';cases hce';rcases h1 with⟨hid,hn0,hp⟩|⟨id,hid,hn1,hp⟩
   .have hl:l=[]:=List.length_eq_zero_iff.1 (by omega)
    subst hl;refine⟨S'.set t (S'.at t),p,by rw[lA,RU (by rcases hp with hp|hp<;>(rw[hp];intro _ _ _ e;cases e))],?_,Mm.gone hf _,λhw i hi j e' g1 g2=>by
     show(ao k j||eM j M.wr)=ah;rw[hw i hi j e' g1 g2,Bool.or_true]⟩
    refine uY F ⟨?_,cJ _ _⟩;show VR U (.sl e) [] (S'.at t).1;rcases hp with hp|hp
    .rw[hp,hz];exact⟨rfl,λj z' hj=>by
      cases j with
      |zero=>simp only[PV.cells,aU,aA,PV.sl.injEq]at hj;exact⟨e,rfl,hj.1.symm⟩
      |succ j=>simp[PV.cells]at hj⟩
    .rw[hp];exact AK e [] (z:=dW U e) (es:=[]) rfl rfl
   .rcases bh with⟨du,_⟩|⟨bn,ff,bc⟩
    .rw[hid]at du;cases du
    .rw[hid]at ff;cases ff;have gl:((l.map (eA U e)).flatMap PV.cells).length=l.length*dW U e:=by
      have:=iZ (z:=dW U e) (es:=l.map (eA U e)) (λe' gf=>by obtain⟨a,_,rfl⟩:=ix.1 gf;exact jT hU _ _)
      rw[iw]at this;exact this
     have hpur:((l.map (eA U e)).flatMap PV.cells).all PV.pur=ah:=by
      rw[bK];intro x hx;obtain⟨y,hy,hx⟩:=List.mem_flatMap.1 hx;obtain⟨a,_,rfl⟩:=ix.1 hy;exact a3W (bK.1 (vW hU e a) x hx)
     have kj:=rP hU e;have c1:(aq (0+ce.n*ce.z) ((l.map (eA U e)).flatMap PV.cells).length&&aq 1 ce.z&&(mW e||ao ce.z 1)&&((l.map (eA U e)).flatMap PV.cells).all PV.pur)=ah:=by
      rw[gl,hpur,hz,hn,ir,(by rw[d8];exact aS _:aq (l.length*dW U e) (l.length*dW U e)=ah),(by rw[d8];exact kj:aq 1 (dW U e)=ah)]
      cases e<;>rfl
     have ny:(bif mW e then qN ce.z ce.n ((((l.map (eA U e)).flatMap PV.cells).drop 0).take (ce.n*ce.z))else((((l.map (eA U e)).flatMap PV.cells).drop 0).take (ce.n*ce.z)))=l.map (eA U e):=by
      rw[List.drop_zero,List.take_of_length_le (by rw[gl,hn,hz];exact aS _)]
      cases hr:mW e with
      |true=>
       cases e with
       |rc n=>rw[aI,hz,hn];exact vC hU l
       |_=>cases hr
      |false=>rw[aJ];exact R1 hr l
     have hat:S'.at t=(.rs id 0 ce.n,(S'.at t).2):=by rw[<-hp]
     obtain⟨m1,m2⟩:=Mm.upd (o:= .gone) (b':= .gone) hf qu hid trivial;refine⟨S'.set t (eO ce.z (l.map (eA U e)),aj),p.upd id .gone,?_,?_,m1,m2⟩
     .rw[lA,hat];simp only[aNj,bc,c1,aI,ny]
     .exact uY F ⟨AK _ _ hz rfl,cJ _ _⟩
  .cases h
 .rename_i v rr hx;simp only[aA]at h;refine same hx ?_ h.symm;intro id off len e;have h1:=hs.1;rw[hx]at h1;have h2:VR U v.t v.x (S'.at t).1:=h1;have h3:=h2.wk;rw[e]at h3;obtain⟨vt,vx⟩:=v;cases vt with
  |sl t=>have:=fK (dW U t) (List.map (eA U t) vx);simp only[eA]at h3;rw[<-h3]at this;cases this
  |_=>cases h3
 .rename_i rr hx;simp only[aA]at h;refine same hx ?_ h.symm;intro id off len e;have h1:=hs.1;rw[hx]at h1;have h2:(S'.at t).1= .nil:=h1;rw[h2]at e;cases e
 .rename_i f caps rr hx;simp only[aA]at h;refine same hx ?_ h.symm;intro id off len e;have h1:=hs.1;rw[hx]at h1;obtain⟨ps,h2,_⟩:=h1;rw[h2]at e;cases e
 .cases h
end
section
variable{P:az}{U:iY}{T:TP U.D}{c c0:Cx}{W:Type}{r:W}{q p:PSt}{M:TM U.D}
def Fo{S':PS}{x:a8}(h:(jC S' x||lV (dG S' x))=ah):jC S' x=ah:=by
 cases x with
 |tmp t=>simpa [jC,dG,Bool.or_assoc]using h
 |const v=>
  cases v with
  |slice b l k=>
   cases b with
   |none=>rfl
   |some b=>simp[jC,dG,CF,lV]at h
  |_=>simp[jC,dG,CF,lV]at h
 |global g=>simp[jC,dG,lV]at h
 |func f=>simp[jC,dG,lV]at h
variable(hU:jA U)(hT:tR P U T)
include hU hT
def a5m{S:TS U.D}{S':PS}(F:mZ U c S S'){cl:Call}{s x:a8}{K:X U->f9 W}(h:a6K U T.T T.el cl.argTypes.toList (kE U S s) (kE U S x).1 K=aa r):
    ∃y v own,K y=aa r/\zC P S' cl s x=aa (v,own,oX S' s)/\rR U c y (v,own):=by
 have rs:=dO F s;have rx:=(dO F x).1;unfold a6K at h;split at h
 .rename_i t t1 fy;split at h
  .rename_i et fp e1 fx wf hty1;split at h
   .rename_i a l b w hs hx;split at h
    .rename_i l' w' hl hw;obtain⟨cb,pf⟩:=mQ hU hs rs.1;obtain⟨hxt,hxv⟩:=mQ hU hx rx;have e2:=qM hl;have e3:=qM hw;have pf:VR U (.sl et) l' (dG S' s):=by
      have:VR U (⟨a,l⟩:TV U.D).t (⟨a,l⟩:TV U.D).x (dG S' s):=pf;rw[e2]at this;exact this
     have hxv:VR U (.sl et) w' (dG S' x):=by
      have:VR U (⟨b,w⟩:TV U.D).t (⟨b,w⟩:TV U.D).x (dG S' x):=hxv;rw[e3]at this;exact this
     obtain⟨eid',hu,jc,gu⟩:=hT.un t _ fx;rw[wf]at gu;cases gu;obtain⟨eid1,hu1,_⟩:=hT.un t1 _ hty1;obtain⟨info,z,hi,bu,hby,hb1,hz,jk,hzc,hzp⟩:=hT.inf fp et jc;obtain⟨g1,g2⟩:=vN pf;obtain⟨k1,k2⟩:=vN hxv;have c1:(aq 1 info.size&&aq 1 info.bytes&&ao z.cells.size info.size)=ah:=by
      rw[jk,Nat.beq_refl,bu,(by rw[d8];exact rP hU et:aq 1 (dW U et)=ah),(by rw[d8];exact hb1:aq 1 info.bytes=ah)];rfl
     have mz:isAgg (dG S' s)=aj:=qB (v:=⟨.sl et,l'⟩) pf rfl;have vi:zC P S' cl s x=(match w'.map (eA U et)with
              |[]=>aa (dG S' s,jC S' s,oX S' s)
              |xs=>bif jC S' s&&aq (((l'.map (eA U et)).length+(w'.map (eA U et)).length)*info.bytes) 1073741824 then aa (eO info.size (l'.map (eA U et)++w'.map (eA U et)),ah,oX S' s)else ae):=by
      have e4:qL info.size (dG S' s)=aa (l'.map (eA U et)):=by rw[bu];exact g1
      have e5:zA info.size (.slice eid1) (dG S' x)=aa (w'.map (eA U et)):=by rw[bu];exact k1
      simp only[zC,fy,hu,hu1,hi,e4,e5,hz,c1,aI];rfl
     cases hm:FG 0 (kE U S s).2 with
     |true=>
      rw[hm]at h;obtain⟨hc,h⟩:=fX h;obtain⟨st,hst2⟩:=xJ.1 hm;have how:jC S' s=ah:=by
       rcases rs.2 0 st hst2 with⟨h1,_⟩|⟨_,_,h1,_⟩
       .rw[mz]at h1;cases h1
       .exact Fo h1
      cases w' with
      |nil=>
       refine⟨_,dG S' s,jC S' s,h,by rw[vi];rfl,?_,rs.2⟩
       show VR U (.sl et) (l'++ []) (dG S' s);rw[bB];exact pf
      |cons w0 w'=>
       refine⟨_,eO info.size (l'.map (eA U et)++(w0::w').map (eA U et)),ah,h,?_,AK _ _ bu (by rw[<-List.map_append]),?_⟩
       .rw[vi,how];simp only[aO,iw,aM,hby];have nj:aq ((l'.length+(w'.length+1))*T.T.by' fp) 1073741824=ah:=hc
        rw[nj];rfl
       .intro o s' kn;have hg:=fK info.size (l'.map (eA U et)++(w0::w').map (eA U et));rcases rs.2 o s' kn with⟨h1,_⟩|⟨h1,_⟩
        .rw[mz]at h1;cases h1
        .refine .inr ⟨h1,?_,rfl,λ_=>CM hg⟩
         cases hc:eO info.size (l'.map (eA U et)++(w0::w').map (eA U et))<;>first|rfl|(rw[hc]at hg;cases hg)
     |false=>
      rw[hm]at h;obtain⟨hc,h⟩:=fX h;cases w' with
      |nil=>exact⟨_,dG S' s,jC S' s,h,by rw[vi];rfl,pf,cJ _ _⟩
      |cons w0 w'=>cases hc
    .cases h
   .cases h
  .cases h
 .cases h
def aQ5{S:TS U.D}{S':PS}(F:mZ U c S S'){ts:au aw}{t1 t2:aw}{s zz n x:a8}{K:V U->V U->f9 W}(h:aDH U T.T T.el ts t1 t2 (kE U S s) (kE U S zz).1 (kE U S n).1 (kE U S x).1 K=aa r):
    ∃y w v,K y w=aa r/\aAE P ts t1 t2 (dG S' s) (jC S' s) (dG S' zz) (dG S' n) (dG S' x)=aa v/\rR U c (.val y,[(0,ah)]) (v,ah)/\wH U c (.ep w) (aC8 v):=by
 have rs:=dO F s;have rz:=(dO F zz).1;have rn:=(dO F n).1;have rx:=(dO F x).1;unfold aDH at h;split at h
 .rename_i t tz;split at h
  .rename_i et fp e1 fx wf hty1;split at h
   .rename_i a l b y kk k v hs hz hn hx;split at h
    .rename_i l' y0 w' hl hy hw;rw[hn]at rn;cases hb:FG 0 (kE U S s).2&&ao t1 t&&ao t2 fp with
     |false=>rw[hb]at h;cases h
     |true=>
      rw[hb]at h;simp only[aC,dZ,aD]at hb;obtain⟨⟨hm,rfl⟩,rfl⟩:=hb;obtain⟨hc,h⟩:=fX h;simp only[aC,aD]at hc;obtain⟨cb,pf⟩:=mQ hU hs rs.1;obtain⟨hzt,hzv⟩:=mQ hU hz rz;obtain⟨hxt,hxv⟩:=mQ hU hx rx;have e2:=qM hl;have e3:=qM hy;have e4:=qM hw;have pf:VR U (.sl et) l' (dG S' s):=by
       have:VR U (⟨a,l⟩:TV U.D).t (⟨a,l⟩:TV U.D).x (dG S' s):=pf;rw[e2]at this;exact this
      have hzv:VR U (.sl et) [y0] (dG S' zz):=by
       have:VR U (⟨b,y⟩:TV U.D).t (⟨b,y⟩:TV U.D).x (dG S' zz):=hzv;rw[e3]at this;exact this
      have hxv:VR U et w' (dG S' x):=by
       have:VR U (⟨v.t,v.x⟩:TV U.D).t (⟨v.t,v.x⟩:TV U.D).x (dG S' x):=hxv;rw[e4]at this;exact this
      obtain⟨eid',hu,jc,gu⟩:=hT.un t1 _ fx;rw[wf]at gu;cases gu;obtain⟨eid1,hu1,_⟩:=hT.un tz _ hty1;obtain⟨info,z,hi,bu,hby,hb1,kf,jk,hzc,hzp⟩:=hT.inf t2 et jc;obtain⟨g1,g2⟩:=vN pf;obtain⟨k1,_⟩:=vN hzv;have mz:isAgg (dG S' s)=aj:=qB (v:=⟨.sl et,l'⟩) pf rfl;obtain⟨st,hst2⟩:=xJ.1 hm;have how:jC S' s=ah:=by
       rcases rs.2 0 st hst2 with⟨h1,_⟩|⟨_,_,h1,_⟩
       .rw[mz]at h1;cases h1
       .exact Fo h1
      have e5:qL info.size (dG S' s)=aa (l'.map (eA U et)):=by rw[bu];exact g1
      have e6:zA info.size (.slice eid1) (dG S' zz)=aa [eA U et y0]:=by rw[bu];exact k1
      have e7:dG S' n= .v (.int kk k):=jP rn;have hlen:((l'.map (eA U et)).length+1)*info.bytes=(l'.length+1)*T.T.by' t2:=by rw[iw,hby]
      have hlen2:(k:Int)=((l'.map (eA U et)).length:Int):=by rw[iw];exact hc.2
      have c1:(aq 1 info.size&&aq 1 info.bytes&&ao z.cells.size info.size&&jC S' s&&aq (((l'.map (eA U et)).length+1)*info.bytes) 1073741824&&ao t1 t1&&ao t2 t2&&ak ((k:Int)=((l'.map (eA U et)).length:Int))&&PI.shape (mW et) info.size (dG S' x))=ah:=by
       rw[hlen,hc.1,bG hlen2,jk,bu,wK hU hxv,how,(by rw[d8];exact rP hU et:aq 1 (dW U et)=ah),(by rw[d8];exact hb1:aq 1 info.bytes=ah)]
       simp only[Nat.beq_refl,n8]
      have bi:l'.map (eA U et)++ [wk (dG S' x)]≠ []:=by simp
      have mj:PV.sl info.size (l'.map (eA U et)++ [wk (dG S' x)])=eO info.size (l'.map (eA U et)++ [wk (dG S' x)]):=by
       cases hh:l'.map (eA U et)++ [wk (dG S' x)]with
       |nil=>exact(bi hh).elim
       |cons a b=>rfl
      refine⟨_,_,eO info.size (l'.map (eA U et)++ [wk (dG S' x)]),h,?_,⟨AK _ _ bu (by rw[List.map_append,hxv.wk];rfl),?_⟩,?_⟩
      .simp only[aAE,hu,hu1,hi,hT.ag _ _ jc,e5,e6,kf,e7];rw[c1,<-mj];rfl
      .intro o s' kn;simp only[ig,aB]at kn;have hg:=fK info.size (l'.map (eA U et)++ [wk (dG S' x)]);refine .inr ⟨kn.1,?_,rfl,λ_=>CM hg⟩
       cases hc:eO info.size (l'.map (eA U et)++ [wk (dG S' x)])<;>first|rfl|(rw[hc]at hg;cases hg)
      .rw[<-mj];refine⟨_,_,0,wk (dG S' x),rfl,by simp,?_⟩
       rw[hxv.wk,List.drop_zero];exact List.take_of_length_le (Nat.le_of_eq (jT hU et w'))
    .cases h
   .cases h
  .cases h
 .cases h
end
section
variable{P:az}{U:iY}{T:TP U.D}{c c0:Cx}{W:Type}{r:W}{q p:PSt}{M:TM U.D}
structure HH(U:iY)(s:Tf)(d:List (V U))(p:PSt)(cc:Cx)(args:List (PV×Bool))(S0:TS U.D)(M0:TM U.D):Prop where
 start:KT U (cutOf s) d=aa (S0,M0)
 len:args.length=s.ps.length
 args: ∀i y,args[i]?=aa y->rR U cc (mY S0 i) y
 bx: ∀j b,eB M0.bx j=aa b->∃e,cc j=aa e/\D4 U cc p e b
 dom: ∀j,s.bx.length<=j->cc j=ae
 lt: ∀j e id,cc j=aa e->e.id=aa id->id<p.next
 inj: ∀k k' e e' id,cc k=aa e->cc k'=aa e'->e.id=aa id->e'.id=aa id->k=k'
 wr: ∀id,id∈p.wr->id<p.next
structure aB5(U:iY)(s:Tf)(out:List (V U))(p:PSt)(cc:Cx)(pv:PV)(own:Bool)(p':PSt):Prop where
 res:rR U cc (DN U s.own (out.take s.rs.length)) (pv,own)
 out: ∃m,fZ U s.bx s.bo (out.drop s.rs.length)=aa m/\∀j x,m[j]?=aa x->∃e,cc j=aa e/\D4 U cc p' e x
 next:p'.next=p.next
 get: ∀id,id<p.next->(∀j e,cc j=aa e->e.id≠aa id)->p'.get id=p.get id
 get2: ∀id,id<p.next->id∉p'.dirty->p'.get id=p.get id
 dirty: ∀id,id∈p'.dirty->id∈p.dirty∨∃j e,cc j=aa e/\e.id=aa id
 dirty2: ∀id,id∈p.dirty->id∈p'.dirty
 wr: ∀id,id∈p'.wr->id∈p.wr∨∃j e,cc j=aa e/\e.id=aa id
def iV(U:iY)(T:TP U.D)(tc:rM U.D)(pc:jZ):Prop:=
 ∀inst s d out,T.sig inst=aa s->tc inst d=aa out->∀p cc args S0 M0,HH U s d p cc args S0 M0->∃pv own p',pc s.f args p=aa (pv,own,p')/\aB5 U s out p cc pv own p'
def lN(c:Cx)(bk:au Nat):Cx:=λj=>if j<bk.length then c (kO bk j)else ae
def BI: ∀(l:au Nat) (i:Nat),i<l.length->l[i]?=aa (kO l i)
 |x::l,0,_=>rfl
 |x::l,i+1,h=>by rw[aT];exact BI l i (by simpa using h)
 |[],i,h=>by simp at h
def zO: ∀{a b:au Nat},As a b=ah->a=b
 |[],[],_=>rfl
 |x::a,y::b,h=>by
  simp only[As,aC,dZ,aD]at h;rw[h.1,zO h.2]
 |[],_::_,h=>by cases h
 |_::_,[],h=>by cases h
def kZ{i:Nat}: ∀{l:au Nat},eM i l=ah↔i∈l
 |[]=>by simp[eM]
 |x::l=>by
  simp only[eM,d7,dZ,aD,kZ (l:=l),ik];exact or_congr eq_comm Iff.rfl
def Dm: ∀{l:au Nat},RA l=ah->l.Nodup
 |[],_=>List.nodup_nil
 |x::l,h=>by
  simp only[RA,aC,io]at h;refine List.nodup_cons.2 ⟨λhm=>?_,Dm h.2⟩
  rw[kZ.2 hm]at h;cases h.1
def aOY{bk:au Nat}(h:bk.Nodup){i j:Nat}(hi:i<bk.length)(hj:j<bk.length)(e:kO bk i=kO bk j):i=j:=by
 have h1:=BI bk i hi;have h2:=BI bk j hj;rw[<-e,<-h1]at h2;exact((List.getElem?_inj hj h).1 h2).symm
def NY{bk:au Nat}: ∀{caps:au Nat} {ps:au PV},yK caps bk.length=ah->(At c (LS (kO bk) caps) ps↔At (lN c bk) caps ps)
 |[],[],_=>Iff.rfl
 |k::ks,x::ps,h=>by
  simp only[yK,aC,iW,aD]at h;simp only[LS,At,lN,bJ h.1];exact and_congr Iff.rfl (NY h.2)
 |[],_::_,_=>Iff.rfl
 |_::_,[],_=>Iff.rfl
def Sr{bk:au Nat}: ∀{caps:au Nat} {ps:au PV},At (lN c bk) caps ps->At c (LS (kO bk) caps) ps
 |[],[],_=>trivial
 |k::ks,x::ps,⟨⟨e,id,h1,h2,h3⟩,h4⟩=>by
  unfold lN at h1;split at h1
  .exact⟨⟨e,id,h1,h2,h3⟩,Sr h4⟩
  .cases h1
 |[],_::_,h=>h.elim
 |_::_,[],h=>h.elim
def aDx{bk:au Nat}{s:SV U.D}{cs:au (PV×Bool)}(h:Bc U (lN c bk) s cs):Bc U c (a9W U bk s) cs:=by
 cases s with
 |cl f caps=>obtain⟨p,b,e,ps,h1,h2⟩:=h;exact⟨p,b,e,ps,h1,Sr h2⟩
 |_=>exact h
def aT3{t:Ty}{x:Den U.D t}{p:PV}(hU:jA U)(h:VR U t x p):VR U t x (wk p):=by
 refine⟨by rw[h.wk,aBl hU],?_⟩
 rw[h.wk];exact Et (vW hU t x)
def Vz(U:iY)(c:Cx)(take:Bool):au (X U)->au (PV×Bool)->Prop
 |[],[]=>True
 |x::xs,y::ys=>(∃pv ow,wH U c x.1 pv/\aD4 x.2 pv ow/\y=(wk pv,take&&ow&& !LX pv)/\(take=aj->x.2=[])/\(lV pv=ah->ow=ah))/\Vz U c take xs ys
 |_,_=>False
def Dz{take:Bool}: ∀{xs xs':au (X U)} {ys ys':au (PV×Bool)},Vz U c take xs ys->Vz U c take xs' ys'->Vz U c take (xs++xs') (ys++ys')
 |[],_,[],_,_,h=>h
 |x::xs,_,y::ys,_,h,h'=>⟨h.1,Dz h.2 h'⟩
 |[],_,_::_,_,h,_=>h.elim
 |_::_,_,[],_,h,_=>h.elim
def Rc{take:Bool}: ∀{args:au a8} {S:TS U.D} {S':PS},mZ U c S S'->mZ U c (JN U take S args).2 (nE take S' args).2/\Vz U c take (JN U take S args).1 (nE take S' args).1
 |[],S,S',F=>⟨F,trivial⟩
 |x::xs,S,S',F=>by
  have F1:mZ U c (bif take then xM U S x else S) (bif take then oX S' x else S'):=by
   cases take with
   |true=>exact tN F x
   |false=>exact F
  obtain⟨h1,h2⟩:=Rc (args:=xs) F1;have:=dO F x;refine⟨h1,⟨dG S' x,jC S' x,this.1,?_,rfl,λe=>by rw[e];rfl,λh=>Fo (by rw[h,Bool.or_true])⟩,h2⟩
  cases take with
  |true=>exact this.2
  |false=>exact cJ _ _
def aBp{take:Bool}: ∀{caps:au Nat} {ps:au PV},At c caps ps->Vz U c take (caps.map λk=>(SV.lc k 0 [],[])) (tF ps)
 |[],[],_=>trivial
 |k::ks,x::ps,⟨⟨e,id,h1,h2,h3⟩,h4⟩=>by
  refine⟨⟨x,aj,⟨e,id,h1,h2,h3⟩,cJ _ _,by rw[Bool.and_false,Bool.false_and],λ_=>rfl,λh=>by rw[h3]at h;cases h⟩,aBp h4⟩
 |[],_::_,h=>h.elim
 |_::_,[],h=>h.elim
def FW{S:TS U.D}{i k:Nat}{x:X U}(h:k≠i):mY ((i,x)::S) k=mY S k:=by rw[zK,bI h]
def uE: ∀{rs:kA},rQ rs=ah->(0,ah)∈rs
 |x::rs,h=>by
  obtain⟨a,b⟩:=x;simp only[rQ,d7,aC,dZ,aD]at h;rcases h with⟨rfl,rfl⟩|h
  .exact aH ..
  .exact aG _ (uE h)
def JT(hU:jA U){bk:au Nat}{take:Bool}: ∀{ps:au (Sh×Bool)} {xs:au (X U)} {ys:au (PV×Bool)} {d:au (V U)} (i0:Nat) (rest:au (V U)),pM U bk ps xs=aa d->Vz U c take xs ys->
    ys.length=ps.length/\∃S0,aD0 U (cutOf.psL ps i0) (d++rest)=aa (S0,rest)/\∀i y,ys[i]?=aa y->rR U (lN c bk) (mY S0 (i0+i)) y
 |[],[],[],d,i0,rest,h,_=>by
  simp only[pM,aA]at h;subst h;exact⟨rfl,[],rfl,λi y hy=>by simp at hy⟩
 |(s,own)::ps,x::xs,y::ys,d,i0,rest,h,⟨⟨pv,ow,r1,r2,hy0,r3,r4⟩,hr⟩=>by
  subst hy0;have fin: ∀(sv:SV U.D) (dv dl:au (V U)),pM U bk ps xs=aa dl->d=dv++dl->Tq U s (dv++(dl++rest))=aa (sv,dl++rest)->wH U (lN c bk) sv (wk pv)->(own=ah->rQ x.2=ah/\isAgg pv=aj)->
        ((wk pv,take&&ow&& !LX pv)::ys).length=((s,own)::ps).length/\∃S0,aD0 U (cutOf.psL ((s,own)::ps) i0) (d++rest)=aa (S0,rest)/\∀i y,((wk pv,take&&ow&& !LX pv)::ys)[i]?=aa y->rR U (lN c bk) (mY S0 (i0+i)) y:=by
   intro sv dv dl hm hd hu hs ho;obtain⟨g1,S0,g2,g3⟩:=JT hU (i0+1) rest hm hr;refine⟨by rw[aM,aM,g1],(i0,(sv,T9 own))::S0,?_,?_⟩
   .rw[hd,aQ];simp only[cutOf.psL,aD0,hu,g2]
   .intro i y hy;cases i with
    |zero=>
     simp only[aU,aA]at hy;subst hy;rw[zK,bJ (Nat.add_zero _)];refine⟨hs,?_⟩;cases own with
     |false=>exact cJ _ _
     |true=>
      obtain⟨h1,h2⟩:=ho rfl;have hm:=uE h1;intro o st hi;simp only[T9,ig,aB]at hi;have mu:take=ah:=by
       cases take with
       |true=>rfl
       |false=>rw[r3 rfl]at hm;cases hm
      rcases r2 _ _ hm with⟨h3,_⟩|⟨_,_,h3,h4⟩
      .rw[h2]at h3;cases h3
      .have how:ow=ah:=by
        cases hh:lV pv with
        |true=>exact r4 hh
        |false=>rw[hh,Bool.or_false]at h3;exact h3
       refine .inr ⟨hi.1,?_,?_,λ_=>?_⟩
       .cases pv with
        |agg cs=>cases h2
        |sl z es=>cases es<;>rfl
        |_=>rfl
       .rw[mu,how,h4 rfl];rfl
       .exact aHi pv
    |succ i=>
     rw[aT]at hy;have:=g3 i y hy;rw[FW (by omega),show i0+(i+1)=i0+1+i by omega]
     exact this
  obtain⟨sx,rx⟩:=x;cases s with
  |val t=>
   simp only[pM]at h;split at h
   .rename_i v l hv hl;cases hb: !own||(rQ rx&& !mW t)with
    |false=>rw[hb]at h;cases h
    |true=>
     rw[hb]at h;simp only[aI,aA]at h;obtain⟨h1,h2⟩:=mQ hU hv r1;refine fin (.val v) [v] l hl h.symm ?_ (aT3 hU h2) ?_
     .simp only[aR,Tq,h1,Ty.beq_rfl,aI]
     .intro ho;rw[ho]at hb;simp only[bE,Bool.false_or,aC,io]at hb;exact⟨hb.1,qB h2 (by rw[h1];exact hb.2)⟩
   .cases h
  |lc j off path=>
   cases sx with
   |lc k fu np=>
    simp only[pM]at h;cases hb: !own&&d9 j bk.length&&ao k (kO bk j)&&ao off fu&&As path np with
    |false=>rw[hb]at h;cases h
    |true=>
     rw[hb]at h;simp only[aI]at h;simp only[aC,iW,dZ,aD,io]at hb;obtain⟨⟨⟨⟨h0,h1⟩,h2⟩,h3⟩,h4⟩:=hb;obtain⟨e,id,g1,g2,g3⟩:=r1;refine fin (.lc j off path) [] d h rfl rfl ⟨e,id,?_,g2,by rw[g3,h3];rfl⟩ (λho=>by rw[h0]at ho;cases ho)
     unfold lN;rw[bJ h1,<-h2];exact g1
   |_=>cases h
  |cl f caps=>
   cases sx with
   |cl f' cj=>
    simp only[pM]at h;cases hb: !own&&ao f f'&&yK caps bk.length&&As (LS (kO bk) caps) cj with
    |false=>rw[hb]at h;cases h
    |true=>
     rw[hb]at h;simp only[aI]at h;simp only[aC,dZ,aD,io]at hb;obtain⟨⟨⟨h0,h1⟩,h2⟩,h3⟩:=hb;obtain⟨qs,g1,g2⟩:=r1;refine fin (.cl f caps) [] d h rfl rfl ⟨qs,by rw[g1,h1];rfl,(NY h2).1 (by rw[zO h3];exact g2)⟩ (λho=>by rw[h0]at ho;cases ho)
   |_=>cases h
  |rw j=>
   cases sx with
   |rw k=>
    simp only[pM]at h;cases hb: !own&&d9 j bk.length&&ao k (kO bk j)with
    |false=>rw[hb]at h;cases h
    |true=>
     rw[hb]at h;simp only[aI]at h;simp only[aC,iW,dZ,aD,io]at hb;obtain⟨⟨h0,h1⟩,h2⟩:=hb;obtain⟨e,g1,g2⟩:=r1;refine fin (.rw j) [] d h rfl rfl ⟨e,?_,?_⟩ (λho=>by rw[h0]at ho;cases ho)
     .unfold lN;rw[bJ h1,<-h2];exact g1
     .rcases g2 with⟨k1,k2,rfl|rfl⟩|⟨id,k1,k2,rfl⟩
      .exact .inl ⟨k1,k2,.inr rfl⟩
      .exact .inl ⟨k1,k2,.inr rfl⟩
      .exact .inr ⟨id,k1,k2,rfl⟩
   |_=>cases h
  |_=>cases h
 |[],_::_,_,d,i0,rest,h,_=>by cases h
 |(s,o)::_,[],_,d,i0,rest,h,_=>by cases s<;>cases h
 |_,[],_::_,d,i0,rest,h,hr=>hr.elim
 |_,_::_,[],d,i0,rest,h,hr=>hr.elim
end
section
variable{P:az}{U:iY}{T:TP U.D}{c c0:Cx}{W:Type}{r:W}{q p:PSt}{M:TM U.D}
def aAX{x:Nat×Bool}: ∀{rs:kA},leR.memW x rs=ah->∃s,(x.1,s)∈rs/\(x.2=ah->s=ah)
 |y::ys,h=>by
  simp only[leR.memW,d7,aC,dZ,aD,io]at h;rcases h with⟨h1,h2⟩|h
  .refine⟨y.2,by rw[h1];exact aH ..,λe=>?_⟩
   rcases h2 with h2|h2
   .rw[e]at h2;cases h2
   .exact h2
  .obtain⟨s,h1,h2⟩:=aAX h;exact⟨s,aG _ h1,h2⟩
def Uo: ∀{rs gm:kA},leR rs gm=ah->∀o s,(o,s)∈rs->∃s',(o,s')∈gm/\(s=ah->s'=ah)
 |x::rs,gm,h,o,s,hm=>by
  simp only[leR,aC]at h;rcases ik.1 hm with rfl|hm
  .exact aAX h.1
  .exact Uo h.2 o s hm
def Lb{rs gm:kA}{cs:au (PV×Bool)}(h:leR rs gm=ah)(hb:bGQ gm cs):bGQ rs cs:=λo s hm=>by
 obtain⟨s',h1,h2⟩:=Uo h o s hm;obtain⟨x,h3,h4⟩:=hb o s' h1;exact⟨x,h3,λe=>h4 (h2 e)⟩
def aZH{rs gm:kA}{pv:PV}{ow:Bool}(h:leR rs gm=ah)(hb:aD4 gm pv ow):aD4 rs pv ow:=λo s hm=>by
 obtain⟨s',h1,h2⟩:=Uo h o s hm;rcases hb o s' h1 with h3|⟨h3,h4,h5,h6⟩
 .exact .inl h3
 .exact .inr ⟨h3,h4,h5,λe=>h6 (h2 e)⟩
def CJ{bk:au Nat}(Mm:MR U q c0 c M p): ∀{l:au (Sh×kA)} {j:Nat} {e:au (V U)} (rest:au (V U)),FH U bk M l j=aa e->j+l.length<=bk.length->
    ∃M0,DJ U (cutOf.bxL l j) (e++rest)=aa (M0,rest)/\(∀i b,eB M0 i=aa b->∃ce,lN c bk i=aa ce/\D4 U (lN c bk) p ce b)/\(∀i,i<l.length->eB M.bx (kO bk (j+i))≠ae)
 |[],j,e,rest,h,_=>by
  simp only[FH,aA]at h;subst h;exact⟨[],rfl,λi b h=>(by cases h),λi h=>(by simp at h)⟩
 |(s,rr)::l,j,e,rest,h,hj=>by
  simp only[aM]at hj;unfold FH at h;split at h
  .rename_i cont rs d hf hd;cases hb:leR rr rs with
   |false=>rw[hb]at h;cases h
   |true=>
    rw[hb]at h;simp only[aI]at h;obtain⟨M0,g1,g2,g3⟩:=CJ Mm rest hd (by omega)
    obtain⟨ce,qu,id,cs,hid,bc,hcs,lj⟩:=Mm.bx _ _ hf;have gy:lN c bk j=aa ce:=by unfold lN;rw[bJ (by omega)];exact qu
    have bi: ∀i,i<((s,rr)::l).length->eB M.bx (kO bk (j+i))≠ae:=by
     intro i hi;cases i with
     |zero=>rw[Nat.add_zero,hf];exact λe=>by cases e
     |succ i=>have:=g3 i (by simpa using hi);rwa [show j+(i+1)=j+1+i by omega]
    split at h
    .rename_i t v;cases hv:v.t.beq t with
     |false=>rw[hv]at h;cases h
     |true=>
      rw[hv]at h;simp only[aI,aA]at h;subst h;refine⟨(j,.bx (.val v) rr)::M0,?_,?_,bi⟩
      .simp only[cutOf.bxL,aY,DJ,Tq,hv,aI,g1]
      .intro i b bm;rw[iJ]at bm;by_cases e1:i=j
       .rw[bJ e1]at bm;simp only[aA]at bm;subst bm;subst e1;exact⟨ce,gy,id,cs,hid,bc,hcs,Lb hb lj⟩
       .rw[bI e1]at bm;exact g2 i b bm
    .rename_i f caps f' cj;cases hv:ao f f'&&yK caps bk.length&&As (LS (kO bk) caps) cj with
     |false=>rw[hv]at h;cases h
     |true=>
      rw[hv]at h;simp only[aI,aA]at h;subst h;simp only[aC,dZ,aD]at hv;obtain⟨⟨rfl,h2⟩,h3⟩:=hv;obtain⟨pv,bb,e1,ps,e2,e3⟩:=hcs;refine⟨(j,.bx (.cl f caps) rr)::M0,?_,?_,bi⟩
      .simp only[cutOf.bxL,DJ,Tq,g1]
      .intro i b bm;rw[iJ]at bm;by_cases e4:i=j
       .rw[bJ e4]at bm;simp only[aA]at bm;subst bm;subst e4;exact⟨ce,gy,id,cs,hid,bc,⟨pv,bb,e1,ps,e2,(NY h2).1 (by rw[zO h3];exact e3)⟩,Lb hb lj⟩
       .rw[bI e4]at bm;exact g2 i b bm
    .cases h
  .rename_i et x d hf hd;obtain⟨M0,g1,g2,g3⟩:=CJ Mm rest hd (by omega)
   obtain⟨ce,qu,bh⟩:=Mm.bx _ _ hf;have gy:lN c bk j=aa ce:=by unfold lN;rw[bJ (by omega)];exact qu
   split at h
   .rename_i t;cases hv:et.beq t with
    |false=>rw[hv]at h;cases h
    |true=>
     rw[hv]at h;simp only[aI,aA]at h;subst h;have:=Ty.beq_eq hv;subst this;refine⟨(j,.row et x)::M0,?_,?_,?_⟩
     .simp only[cutOf.bxL,aY,DJ,hv,aI,g1]
     .intro i b bm;rw[iJ]at bm;by_cases e1:i=j
      .rw[bJ e1]at bm;simp only[aA]at bm;subst bm;subst e1;exact⟨ce,gy,bh⟩
      .rw[bI e1]at bm;exact g2 i b bm
     .intro i hi;cases i with
      |zero=>rw[Nat.add_zero,hf];exact λe=>by cases e
      |succ i=>have:=g3 i (by simpa using hi);rwa [show j+(i+1)=j+1+i by omega]
   .cases h
  .cases h
def GA: ∀{ts:au Ty} {l:au (V U)} {r:DenL U.D ts},fY ts l=aa r->aNi ts r=l
 |[],[],r,h=>rfl
 |t::ts,v::vs,r,h=>by
  unfold fY at h;split at h
  .rename_i x r' h1 h2;simp only[aA]at h;subst h;rw[aNi,GA h2];have:=qM h1;simp only;rw[<-this]
  .cases h
 |[],_::_,r,h=>by cases h
 |_::_,[],r,h=>by cases h
def aGL{ts:au Ty}{a:f9 (au (V U))}{K:DenL U.D ts->f9 W}(h:gO ts a K=aa r): ∃l x,a=aa l/\aNi ts x=l/\K x=aa r:=by
 unfold gO at h;split at h
 .rename_i l;split at h
  .rename_i x hx;exact⟨l,x,rfl,GA hx,h⟩
  .cases h
 .cases h
def wZ: ∀{l:au (Sh×kA)} {rs:au kA} {d:au (V U)} {m:au (BC U.D)},fZ U l rs d=aa m->m.length=l.length
 |[],[],[],m,h=>by simp only[fZ,aA]at h;subst h;rfl
 |(.val t,rr)::l,r::rs,v::d,m,h=>by
  simp only[fZ]at h;split at h
  .rename_i m' hm;cases h;simp only[aM,wZ hm]
  .cases h
 |(.cl f caps,rr)::l,r::rs,d,m,h=>by
  simp only[fZ]at h;split at h
  .rename_i m' hm;cases h;simp only[aM,wZ hm]
  .cases h
 |[],_::_,_,_,h=>by simp[fZ]at h
 |[],[],_::_,_,h=>by simp[fZ]at h
 |(s,rr)::l,[],d,m,h=>by cases s<;>simp[fZ]at h
 |(.val t,rr)::l,r::rs,[],m,h=>by simp[fZ]at h
 |(.tup _,_)::_,_::_,_,_,h=>by simp[fZ]at h
 |(.nl,_)::_,_::_,_,_,h=>by simp[fZ]at h
 |(.lc _ _ _,_)::_,_::_,_,_,h=>by simp[fZ]at h
 |(.ep _,_)::_,_::_,_,_,h=>by simp[fZ]at h
 |(.rw _,_)::_,_::_,_,_,h=>by simp[fZ]at h
 |(.nf,_)::_,_::_,_,_,h=>by simp[fZ]at h
 |(.row t,rr)::l,r::rs,⟨.sl e,x⟩::d,m,h=>by
  simp only[fZ]at h;split at h
  .rename_i m' hm;cases h;simp only[aM,wZ hm]
  .cases h
 |(.row t,rr)::l,r::rs,[],m,h=>by simp[fZ]at h
 |(.row t,rr)::l,r::rs,⟨.int _,x⟩::d,m,h=>by simp[fZ]at h
 |(.row t,rr)::l,r::rs,⟨.bool,x⟩::d,m,h=>by simp[fZ]at h
 |(.row t,rr)::l,r::rs,⟨.str,x⟩::d,m,h=>by simp[fZ]at h
 |(.row t,rr)::l,r::rs,⟨.rc _,x⟩::d,m,h=>by simp[fZ]at h
def Ge{bk:au Nat}(hn:bk.Nodup): ∀(m:au (BC U.D)) (j0:Nat) (B:au (Nat×BC U.D)),(∀j,j<m.length->eB B (kO bk (j0+j))≠ae)->j0+m.length<=bk.length->∀k,
    (∃j x,m[j]?=aa x/\kO bk (j0+j)=k/\eB (Q1 U bk m j0 B) k=aa (aFl U bk x))∨((∀j,j<m.length->kO bk (j0+j)≠k)/\eB (Q1 U bk m j0 B) k=eB B k)
 |[],j0,B,_,_,k=> .inr ⟨λj h=>by simp at h,rfl⟩
 |x::m,j0,B,hB,hl,k=>by
  simp only[aM]at hl;have h0:eB B (kO bk j0)≠ae:=by have:=hB 0 (by simp);rwa [Nat.add_zero]at this
  have hB': ∀j,j<m.length->eB (sP B (kO bk j0) (aFl U bk x)) (kO bk (j0+1+j))≠ae:=by
   intro j hj;have:=hB (j+1) (by simpa using hj)
   rw[show j0+(j+1)=j0+1+j by omega]at this
   rw[lL];split
   .cases hh:eB B (kO bk j0)with
    |none=>exact(h0 hh).elim
    |some b=>exact λe=>by cases e
   .exact this
  rcases Ge hn m (j0+1) (sP B (kO bk j0) (aFl U bk x)) hB' (by omega) k with⟨j,y,h1,h2,h3⟩|⟨h1,h2⟩
  .exact .inl ⟨j+1,y,by rw[aT];exact h1,by rw[<-h2];congr 1;omega,h3⟩
  .by_cases hk:kO bk j0=k
   .refine .inl ⟨0,x,rfl,by rw[Nat.add_zero];exact hk,?_⟩
    rw[Q1,h2,lL,bJ hk.symm];cases hh:eB B (kO bk j0)with
    |none=>exact(h0 hh).elim
    |some b=>rfl
   .refine .inr ⟨λj hj=>?_,?_⟩
    .cases j with
     |zero=>rw[Nat.add_zero];exact hk
     |succ j=>have:=h1 j (by simpa using hj);rwa [show j0+(j+1)=j0+1+j by omega]
    .rw[Q1,h2,lL,bI (λe=>hk e.symm)]
def a48{bk:au Nat}{e:Ce}{x:BC U.D}(h:D4 U (lN c bk) p e x):D4 U c p e (aFl U bk x):=by
 cases x with
 |bx s r=>
  obtain⟨id,cs,h1,h2,h3,h4⟩:=h;exact⟨id,cs,h1,h2,aDx h3,h4⟩
 |row t l=>exact h
 |gone=>trivial
def MR.call(Mm:MR U q c0 c M p){bk:au Nat}(hn:bk.Nodup){m:au (BC U.D)}(hm:m.length=bk.length)(bi: ∀i,i<bk.length->eB M.bx (kO bk i)≠ae){p':PSt}
    (hb: ∀j x,m[j]?=aa x->∃e,lN c bk j=aa e/\D4 U (lN c bk) p' e x) (mh:p'.next=p.next)
    (hg: ∀id,id<p.next->(∀j e,lN c bk j=aa e->e.id≠aa id)->p'.get id=p.get id)
    (hg2: ∀id,id<p.next->id∉p'.dirty->p'.get id=p.get id)
    (hd: ∀id,id∈p'.dirty->id∈p.dirty∨∃j e,lN c bk j=aa e/\e.id=aa id) (hd2: ∀id,id∈p.dirty->id∈p'.dirty)
    (hw: ∀id,id∈p'.wr->id∈p.wr∨∃j e,lN c bk j=aa e/\e.id=aa id):
    MR U q c0 c ⟨Q1 U bk m 0 M.bx,bk++M.wr⟩ p'/\(WR U c M p->WR U c ⟨Q1 U bk m 0 M.bx,bk++M.wr⟩ p'):=by
 have di:=Ge hn m 0 M.bx (λj hj=>by rw[ir];exact bi j (by omega)) (by omega)
 simp only[ir]at di;have cck: ∀{j e},lN c bk j=aa e->j<bk.length/\c (kO bk j)=aa e:=by
  intro j e h;unfold lN at h;split at h
  .rename_i hj;exact⟨hj,h⟩
  .cases h
 have bor: ∀{j e id},lN c bk j=aa e->e.id=aa id->id<q.next->∃k e,c0 k=aa e/\e.id=aa id:=by
  intro j e id h1 h2 h3;obtain⟨_,h4⟩:=cck h1;have hk:kO bk j<100:=by
   rcases b8 (kO bk j) 100 with h|h
   .exact h
   .have:=Mm.loc _ e id h4 h h2;omega
  exact⟨_,e,Mm.bor _ e h4 hk,h2⟩
 refine⟨⟨λk h=>?_,λk b h=>?_,λk e id h1 h2=>by rw[mh];exact Mm.lt k e id h1 h2,Mm.inj,by rw[mh];exact Mm.next,Mm.bor,Mm.loc,λid hi ho=>?_,λid hi hlt=>?_,λid hi=>?_⟩,λhW id hi k e h1 h2=>?_⟩
 .simp only at h;rcases di k with⟨j,x,h1,h2,h3⟩|⟨h1,h2⟩
  .rw[h3]at h;cases h
  .rw[h2]at h;exact Mm.dom k h
 .simp only at h;rcases di k with⟨j,x,h1,h2,h3⟩|⟨h1,h2⟩
  .rw[h3]at h;cases h;obtain⟨e,g1,g2⟩:=hb j x h1;obtain⟨_,g3⟩:=cck g1;exact⟨e,by rw[<-h2];exact g3,a48 g2⟩
  .rw[h2]at h;obtain⟨e,g1,g2⟩:=Mm.bx k b h;refine⟨e,g1,Ag g2 λid hid=>hg id (Mm.lt k e id g1 hid) λj e' h3 h4=>?_⟩
   obtain⟨g3,g4⟩:=cck h3;exact h1 j (by omega) (Mm.inj _ _ e' e id g4 g1 h4 hid)
 .rw[hg2 id (Nat.lt_of_lt_of_le hi Mm.next) ho]
  exact Mm.old id hi λh=>ho (hd2 id h)
 .rcases hd id hi with h|⟨j,e,h1,h2⟩
  .exact Mm.dirty id h hlt
  .exact bor h1 h2 hlt
 .rcases hw id hi with h|⟨j,e,h1,h2⟩
  .rw[mh];exact Mm.wr id h
  .rw[mh];exact⟨Mm.lt _ e id (cck h1).2 h2,λhlt=>bor h1 h2 hlt⟩
 .have happ: ∀{l l':au Nat},eM k (l++l')=(eM k l||eM k l'):=by
   intro l l';rw[Bool.eq_iff_iff,d7,kZ,kZ,kZ,oa]
  show eM k (bk++M.wr)=ah;rw[happ,d7];rcases hw id hi with h|⟨j,e',h3,h4⟩
  .exact .inr (hW id h k e h1 h2)
  .obtain⟨h5,h6⟩:=cck h3;have:=Mm.inj _ _ e e' id h1 h6 h2 h4;left;rw[kZ,this];exact ef (BI bk j h5)
def aXl{bk:au Nat}{own:Bool}{l:au (V U)}{y:PV×Bool}(h:rR U (lN c bk) (DN U own l) y):rR U c (DN U own l) y:=by
 unfold DN at h⊢;split at h<;>exact h
def aCM{own:Bool}{l:au (V U)}{K:X U->f9 W}(h:aCN U own l K=aa r):K (DN U own l)=aa r:=by
 unfold aCN at h;split at h
 .rename_i v b;cases b<;>exact h
 .exact h
def aII(hU:jA U){tc:rM U.D}{pc:jZ}(hc:iV U T tc pc){take:Bool}{inst:Nat}{bk:au Nat}{S:TS U.D}{S':PS}(F:mZ U c S S'){cl:Call}{f:a8}{K:X U->TS U.D->TM U.D->f9 W}
    (cy:cl.callee= .value f) (h:Km U T tc take inst bk S M (kE U S f).1 cl.args.toList K=aa r) (Mm:MR U q c0 c M p):
    ∃x S2 M' v own p' g args,K x S2 M'=aa r/\uJ take S' cl=aa (g,args)/\pc g args p=aa (v,own,p')/\rR U c x (v,own)/\mZ U c S2 (nE take S' cl.args.toList).2/\MR U q c0 c M' p'/\(WR U c M p->WR U c M' p')/\p'.next=p.next:=by
 have rf:=(dO F f).1;unfold Km at h;split at h
 .rename_i g caps s hf hs;rw[hf]at rf;obtain⟨ps,e1,e2⟩:=rf;have e1:dG S' f= .fn g [] ps:=e1;split at h
  .rename_i d e hd he;cases hb:ao g s.f&&RA bk&&ao bk.length s.bx.length with
   |false=>rw[hb]at h;cases h
   |true=>
    rw[hb]at h;simp only[aI]at h;simp only[aC,dZ,aD]at hb;obtain⟨⟨hg,gp⟩,hlen⟩:=hb;have gp:=Dm gp;obtain⟨out,x,h1,h2,h⟩:=aGL h;split at h
    .rename_i m hm;obtain⟨g1,g2⟩:=Rc (take:=take) (args:=cl.args.toList) F;have g3:=Dz g2 (aBp (take:=take) e2);obtain⟨k1,S0,k2,k3⟩:=JT hU 0 e hd g3;obtain⟨M0,k4,k5,k6⟩:=CJ Mm [] he (by omega)
     rw[bB]at k4;have hin:HH U s (d++e) p (lN c bk) ((nE take S' cl.args.toList).1++tF ps) S0 ⟨M0,[]⟩:=by
      refine⟨?_,k1,λi y hy=>?_,k5,λj hj=>?_,λj e id h1 h2=>?_,λk k' e e' id h1 h2 h3 h4=>?_,λid hi=>(Mm.wr id hi).1⟩
      .simp only[KT,cutOf,k2,k4]
      .have:=k3 i y hy;rwa [ir]at this
      .unfold lN;rw[bI (by omega)]
      .unfold lN at h1;split at h1
       .exact Mm.lt _ e id h1 h2
       .cases h1
      .unfold lN at h1 h2;split at h1
       .rename_i hk;split at h2
        .rename_i jg;exact aOY gp hk jg (Mm.inj _ _ e e' id h1 h2 h3 h4)
        .cases h2
       .cases h1
     obtain⟨pv,own,p',j1,j2⟩:=hc inst s _ out hs h1 p (lN c bk) _ S0 _ hin;have h:=aCM h;rw[h2]at hm h;obtain⟨m',j3,j4⟩:=j2.out;rw[hm]at j3;cases j3;obtain⟨j5,j6⟩:=Mm.call gp (m:=m) (by rw[wZ hm,hlen]) (λi hi=>by have:=k6 i (by omega);rwa [ir]at this) j4 j2.next j2.get j2.get2 j2.dirty j2.dirty2 j2.wr
     refine⟨_,_,_,pv,own,p',s.f,_,h,?_,j1,aXl j2.res,g1,j5,j6,j2.next⟩
     simp only[uJ,cy,e1,hg,tF,aW]
    .cases h
  .cases h
 .cases h
end
section
variable{P:az}{U:iY}{T:TP U.D}{c c0:Cx}{W:Type}{r:W}{q p:PSt}{M:TM U.D}
def Post(P:az)(U:iY)(pc:jZ)(sq take:Bool)(o:ic)(S':PS)(p q:PSt)(c0 c:Cx)(M:TM U.D)(K:X U->TS U.D->TM U.D->f9 W)(r:W):Prop:=
 ∃c' x S2 M2 v own S2' p',K x S2 M2=aa r/\JL P pc sq o take S' p=aa (v,own,S2',p')/\leC c c'/\rR U c' x (v,own)/\mZ U c' S2 S2'/\MR U q c0 c' M2 p'/\(WR U c M p->WR U c' M2 p')/\p.next<=p'.next
def TH{take:Bool}{p p':PSt}{t:aw}{a v:PV}{own:Bool}(h:wT P take p t a=aa (v,own,p')):p.next<=p'.next:=by
 have hm:(gP p a).1.next=p.next:=by
  unfold gP;split
  .split
   .split<;>rfl
   .rfl
  .rfl
 unfold wT at h;split at h
 .rename_i w _;cases hb:take&&DU w with
  |true=>rw[hb]at h;simp only[aI,aA,aB]at h;rw[<-h.2.2,hm];exact aS _
  |false=>rw[hb]at h;simp only[aJ,aA,aB]at h;rw[<-h.2.2];exact aS _
 .cases h
def Q2{p p':PSt}{t:aw}{a x:PV}{own:Bool}(h:qE P p t a x own=aa p'):p.next<=p'.next:=by
 unfold qE at h;simp only[Bool.cond_eq_ite]at h
 repeat' split at h
 all_goals first|(cases h;done)|(simp only[aA]at h;rw[<-h];exact aS _)
def wX{p p':PSt}{S':PS}{o:ic}{v:PV}{own:Bool}(h:fR P p S' o=aa (v,own,p')):p.next<=p'.next:=by
 unfold fR at h;simp only[Bool.cond_eq_ite]at h
 repeat' split at h
 all_goals first|(cases h;done)|(simp only[aA,aB]at h;rw[<-h.2.2];first|exact aS _|exact Nat.le_succ _)
def GG{K:Nat->f9 W}{m:Int}: ∀{f j0:Nat},a5l K m j0 f=aa r->∃j,j0<=j/\j<j0+f/\m=(j:Int)/\K j=aa r
 |0,_,h=>by cases h
 |f+1,j0,h=>by
  unfold a5l at h;by_cases e:m=(j0:Int)
  .rw[bG e]at h;exact⟨j0,aS _,by omega,e,h⟩
  .rw[bH e]at h;obtain⟨j,h1,h2,h3,h4⟩:=GG h;exact⟨j,by omega,by omega,h3,h4⟩
def IZ(te:Ty): ∀j:Nat,fD U (List.replicate j te)=j*dW U te
 |0=>by simp[fD]
 |j+1=>by
  rw[List.replicate_succ,Nat.succ_mul];simp only[fD];rw[IZ te j];omega
def aPf(hT:tR P U T)(Mm:MR U q c0 c M p){t:aw}{x:SV U.D}{v:PV}{K:X U->f9 W}(h:aDg U M (T.T.ty t) x K=aa r)(ra:wH U c x v):
    ∃y w,K y=aa r/\DQ P t v=aa w/\rR U c y (w,aj):=by
 unfold aDg at h;split at h
 .rename_i k;split at h
  .rename_i e e' l ht hf;cases he:e.beq e' with
   |false=>rw[he]at h;cases h
   |true=>
    rw[he]at h;have:=Ty.beq_eq he;subst this;obtain⟨ce,g1,g2⟩:=ra;obtain⟨ce',g1',hn,hz,_⟩:=Mm.bx _ _ hf;rw[g1]at g1';cases g1';obtain⟨fp,hu,_⟩:=hT.un t _ ht;refine⟨_,i64 (l.length:Int),h,?_,jI _ _,cJ _ _⟩;rcases g2 with⟨_,hn0,rfl|rfl⟩|⟨id,_,_,rfl⟩
    .simp only[DQ,hu,aX];rw[<-hn,hn0]
    .simp only[DQ,hu];rw[<-hn,hn0];rfl
    .simp only[DQ,hu];rw[hn]
  .cases h
 .exact aPd hT h ra
variable{pc:jZ}{sq take:Bool}{o:ic}{S:TS U.D}{S':PS}{K:X U->TS U.D->TM U.D->f9 W}
def CA(Mm:MR U q c0 c M p)(hk:cY o= .pure){x:X U}{S2:TS U.D}{v:PV}{own:Bool}{S2':PS}(h:K x S2 M=aa r)(hp:eK P take S' o=aa (v,own,S2'))(hx:rR U c x (v,own))(hF:mZ U c S2 S2'):Post P U pc sq take o S' p q c0 c M K r:=
 ⟨c,x,S2,M,v,own,S2',p,h,by simp only[JL,hk,Fg,hp,aK],leC.refl c,hx,hF,Mm,λhw=>hw,aS _⟩
def gW(Mm:MR U q c0 c M p)(F:mZ U c S S')(hk:cY o= .pure){x:X U}{v:PV}(h:K x S M=aa r)(hp:eK P take S' o=aa (v,aj,S'))(hx:rR U c x (v,aj)):Post P U pc sq take o S' p q c0 c M K r:=
 CA Mm hk h hp hx F
def So(F:mZ U c S S'): ∀{l:au a8} {ks:au Nat},Sp U S l=aa ks->At c ks (wks (l.map (dG S')))
 |[],ks,h=>by simp only[Sp,aA]at h;subst h;trivial
 |x::l,ks,h=>by
  unfold Sp at h;split at h
  .rename_i k ks' hx hl;simp only[aA]at h;subst h;have h1:=(dO F x).1;rw[hx]at h1;obtain⟨e,id,g1,g2,g3⟩:=h1;have g3:dG S' x= .ptr id 0:=g3;refine⟨⟨e,id,g1,g2,by rw[g3];rfl⟩,So F hl⟩
  .cases h
variable(hU:jA U)(hT:tR P U T)
include hU hT
def aGC{tc:rM U.D}(hc:iV U T tc pc)(F:mZ U c S S')(Mm:MR U q c0 c M p){inst:Nat}{bk:au Nat}(h:Dj U T tc sq take inst bk o S M K=aa r):Post P U pc sq take o S' p q c0 c M K r:=by
 obtain⟨dst,op,ty,pos,jo,jm⟩:=o;have mv: ∀(x:a8),(bif take then K (kE U S x) (xM U S x) M else K (vR U (kE U S x)) S M)=aa r->(op= .move x∨op= .assign x)->Post P U pc sq take ⟨dst,op,ty,pos,jo,jm⟩ S' p q c0 c M K r:=by
  intro x h ho;cases take with
  |true=>
   refine CA Mm ?_ h (v:=dG S' x) (own:=jC S' x) (S2':=oX S' x) ?_ (dO F x) (tN F x)
   .rcases ho with rfl|rfl<;>rfl
   .rcases ho with rfl|rfl<;>rfl
  |false=>
   refine gW Mm F ?_ h (v:=dG S' x) ?_ (xN (dO F x))
   .rcases ho with rfl|rfl<;>rfl
   .rcases ho with rfl|rfl<;>rfl
 cases op with
 |move x=>exact mv x h (.inl rfl)
 |assign x=>exact mv x h (.inr rfl)
 |pick w a b=>
  simp only[Dj]at h;split at h
  .rename_i wb hw;have h1:=(dO F w).1;rw[hw]at h1;have h1:=of_bool h1;have h1:dG S' w= .v (.bool wb):=h1;obtain⟨x,h2,h3⟩:=aGn h (dO F a) (dO F b);refine gW Mm F rfl h2 ?_ h3;simp only[eK,h1];cases wb<;>rfl
  .cases h
 |build t parts=>
  simp only[Dj]at h;split at h
  .rename_i n ht;split at h
   .rename_i l hl;obtain⟨x,hx,h⟩:=pU h;obtain⟨w,h1,h2⟩:=aIL hU hT F ht hl hx;exact gW Mm F rfl h (by simp only[eK,h1,aK]) h2
   .cases h
  .cases h
 |nilCheck x=>
  simp only[Dj]at h;have h1:=(dO F x).1;split at h
  .rename_i k off path hx;rw[hx]at h1;have h2:=h1;obtain⟨e,id,g1,g2,g3⟩:=h1;have g3:dG S' x= .ptr id off:=g3;exact gW Mm F rfl h (v:= .ptr id off) (by simp only[eK,g3]) ⟨⟨e,id,g1,g2,rfl⟩,cJ _ _⟩
  .rename_i v hx;rw[hx]at h1;obtain⟨es,i,off,e,g1,g2,g3⟩:=h1;have g1:dG S' x= .pin es i off:=g1;exact gW Mm F rfl h (v:= .pin es i off) (by simp only[eK,g1]) ⟨⟨es,i,off,e,rfl,g2,g3⟩,cJ _ _⟩
  .rename_i k i off path hx;rw[hx]at h1;obtain⟨e,id,g1,g2,g3,g4,g5⟩:=h1;have g5:dG S' x= .ptr id (i.toNat*e.z+off):=g5;exact gW Mm F rfl h (v:= .ptr id (i.toNat*e.z+off)) (by simp only[eK,g5]) ⟨⟨e,id,g1,g2,g3,g4,rfl⟩,cJ _ _⟩
  .cases h
 |binOp op t x y t'=>
  simp only[Dj]at h;obtain⟨v,w,h1,h2,h3⟩:=aQT hU hT (x:=x) (y:=y) h (aEa hU (dO F x).1) (aEa hU (dO F y).1);have h2:pJ P op t x y (dG S' x) (dG S' y)=aa w:=h2;exact gW Mm F rfl h1 (by simp only[eK,h2,aK]) ⟨h3,cJ _ _⟩
 |unOp op t x=>
  simp only[Dj]at h;obtain⟨v,w,h1,h2,h3⟩:=aWx (P:=P) h (dO F x).1;have h2:bBf P op (dG S' x)=aa w:=h2;exact gW Mm F rfl h1 (by simp only[eK,h2,aK]) ⟨h3,cJ _ _⟩
 |convert s d x=>
  simp only[Dj]at h;obtain⟨v,w,h1,h2,h3⟩:=aIw hT h (dO F x).1;rcases h3 with h3|⟨hs,h3,h4⟩
  .have h3:Az P s d (dG S' x)=aa w:=h3;exact gW Mm F rfl h1 (by simp only[eK,h3,aK]) ⟨h2,cJ _ _⟩
  .have h3:Az P s d (dG S' x)=ae:=h3;have h4:CC P s d (dG S' x)=aa w:=h4;refine⟨c,_,S,M,w,aj,S',p,h1,?_,leC.refl c,⟨h2,cJ _ _⟩,F,Mm,λhw=>hw,aS _⟩
   rw[hs];simp only[JL,cY,Fg,eK,h3,Option.map_none,aI,h4,aK]
 |makeFunc fn first captured=>
  simp only[Dj]at h;split at h
  .rename_i f ks h1 h2;refine gW Mm F rfl h (v:= .fn f (wks (first.toList.map (dG S'))) (wks (captured.toList.map (dG S')))) rfl ⟨⟨_,?_,So F h2⟩,cJ _ _⟩
   rw[h1];rfl
  .cases h
 |fieldAddr s x f=>
  simp only[Dj]at h;have h1:=(dO F x).1;split at h
  .rename_i n k off path ht hx;rw[hx]at h1;obtain⟨e,id,g1,g2,g3⟩:=h1;have g3:dG S' x= .ptr id off:=g3;cases hf:d9 f (U.fs n).length with
   |false=>rw[hf]at h;cases h
   |true=>
    rw[hf]at h;rw[iW,aD]at hf;have:=(sB hU hT ht hf).1 id off;exact gW Mm F rfl h (by simp only[eK,g3,this,aK]) ⟨⟨e,id,g1,g2,rfl⟩,cJ _ _⟩
  .rename_i n v ht hx;rw[hx]at h1;cases hb:v.t.beq (.rc n)with
   |false=>rw[hb]at h;cases h
   |true=>
    rw[hb]at h;simp only[aI]at h;split at h
    .rename_i w hw;obtain⟨q1,h2,h3⟩:=Mj hU hT ht hb hw h1;have h2:jB P s (dG S' x) f=aa q1:=h2;exact gW Mm F rfl h (by simp only[eK,h2,aK]) ⟨h3,cJ _ _⟩
    .cases h
  .rename_i n k i off path ht hx;rw[hx]at h1;obtain⟨e,id,g1,g2,g3,g4,g5⟩:=h1;have g5:dG S' x= .ptr id (i.toNat*e.z+off):=g5;cases hf:d9 f (U.fs n).length with
   |false=>rw[hf]at h;cases h
   |true=>
    rw[hf]at h;rw[iW,aD]at hf;have:=(sB hU hT ht hf).1 id (i.toNat*e.z+off);exact gW Mm F rfl h (v:= .ptr id (i.toNat*e.z+off+lG U n f)) (by simp only[eK,g5,this,aK]) ⟨⟨e,id,g1,g2,g3,g4,by simp only[Nat.add_assoc]⟩,cJ _ _⟩
  .cases h
 |field t x f=>
  simp only[Dj]at h;have h1:=dO F x;split at h
  .rename_i n v rs ht hx;rw[hx]at h1;cases hb:v.t.beq (.rc n)with
   |false=>rw[hb]at h;cases h
   |true=>
    rw[hb]at h;simp only[aI]at h;split at h
    .rename_i w hw;obtain⟨q1,h2,h3⟩:=aH2 hU hT ht hb hw h1;exact gW Mm F rfl h (by simp only[eK,h2,aK]) h3
    .cases h
  .cases h
 |indexAddr t x i=>
  simp only[Dj]at h;have h1:=(dO F x).1;have h2:=(dO F i).1;split at h
  .rename_i e e' l k n ht hx hi;rw[hx]at h1;rw[hi]at h2;have h2:dG S' i= .v (.int k n):=jP h2;cases he:e.beq e' with
   |false=>rw[he]at h;cases h
   |true=>
    rw[he]at h;obtain⟨y,hy,h⟩:=pU h;obtain⟨q1,g1,g2⟩:=LZ hU hT (k:=k) ht he hy h1;have g1:gX P t (dG S' x) (.v (.int k n))=aa q1:=g1;exact gW Mm F rfl h (by simp only[eK,h2,g1,aK]) ⟨g2,cJ _ _⟩
  .rename_i e kk k n ht hx hi;rw[hx]at h1;rw[hi]at h2;have h2:dG S' i= .v (.int k n):=jP h2;split at h
   .rename_i e' l hf;cases he:e.beq e' with
    |false=>rw[he]at h;cases h
    |true=>
     rw[he]at h;have:=Ty.beq_eq he;subst this;obtain⟨hin,h⟩:=fX h;obtain⟨ce,g1,g2⟩:=h1;obtain⟨ce',g1',hn,hz,_⟩:=Mm.bx _ _ hf;rw[g1]at g1';cases g1';obtain⟨fp,hu,jc,_⟩:=hT.un t _ ht;simp only[dJ,aC,aD]at hin;rcases g2 with⟨_,hn0,_⟩|⟨id,g3,g4,g5⟩
     .have b1:(0:Int)<=n:=hin.1;have b2:(n:Int)<(l.length:Int):=hin.2;omega
     .have g5:dG S' x= .rs id 0 ce.n:=g5;have hin':dJ n ce.n=ah:=by rw[hn];simp only[dJ,aC,aD];exact hin
      refine gW Mm F rfl h (v:= .ptr id (0+Int.toNat n*dW U e)) ?_ ⟨⟨ce,id,g1,g3,hin.1,by rw[hn];exact hin.2,by rw[hz,ir,Nat.add_zero]⟩,cJ _ _⟩
      simp only[eK,h2,g5,gX,hu,hT.sz _ _ jc,hin',aI,aK]
   .cases h
  .rename_i n kk off pp k m ht hx hi;rw[hx]at h1;rw[hi]at h2;have h2:dG S' i= .v (.int k m):=jP h2;cases ha:T.T.arr t with
   |false=>rw[ha]at h;cases h
   |true=>
    rw[ha]at h;obtain⟨j,_,hj,hm,h⟩:=GG h;obtain⟨len,e,te,hu,hz,hf⟩:=hT.arr t n ht ha;obtain⟨ce,id,g1,g2,g3⟩:=h1;have g3:dG S' x= .ptr id off:=g3;rw[hf,List.length_replicate,ir]at hj;have hin:dJ m len=ah:=by rw[hm];simp only[dJ,aC,aD];omega
    have ho:lG U n j=j*dW U te:=by rw[lG,hf,List.take_replicate,Nat.min_eq_left (by omega)];exact IZ _ _
    refine gW Mm F rfl h (v:= .ptr id (off+Int.toNat m*dW U te)) ?_ ⟨⟨ce,id,g1,g2,by rw[ho,hm];rfl⟩,cJ _ _⟩
    simp only[eK,h2,g3,gX,hu,hz,hin,aI,aK]
  .rename_i n v k m ht hx hi;rw[hx]at h1;rw[hi]at h2;have h2:dG S' i= .v (.int k m):=jP h2;cases hb:(T.T.arr t&&v.t.beq (.rc n))with
   |false=>rw[hb]at h;cases h
   |true=>
    rw[hb]at h;rw[aC]at hb;rw[aI]at h;obtain⟨j,_,hj,hm,h5⟩:=GG h;clear h;subst hm;split at h5
    .rename_i w hw;obtain⟨q1,g2,g3⟩:=L1 (k:=k) hU hT ht hb.1 hb.2 hw h1;have g2:gX P t (dG S' x) (.v (.int k (j:Int)))=aa q1:=g2;exact gW Mm F rfl h5 (by simp only[eK,h2,g2,aK]) ⟨g3,cJ _ _⟩
    .cases h5
  .cases h
 |index t x i=>
  simp only[Dj]at h;have h1:=(dO F x).1;have h2:=(dO F i).1;split at h
  .rename_i s k n ht hx hi;rw[hx]at h1;rw[hi]at h2;have h2:dG S' i= .v (.int k n):=jP h2;obtain⟨b,hb,h⟩:=pU h;have g1:=aHl hT (k:=k) ht hb h1;have g1:CB P t (dG S' x) (.v (.int k n))=aa (.v (.int .u8 (b.toNat:Int))):=g1;exact gW Mm F rfl h (by simp only[eK,h2,g1,aK]) ⟨jI _ _,cJ _ _⟩
  .cases h
 |extract x i=>
  simp only[Dj]at h;have h1:=(dO F x).1;split at h
  .rename_i l hx;rw[hx]at h1;obtain⟨ps,g1,g2⟩:=h1;have g1:dG S' x= .tup ps:=g1;split at h
   .rename_i v hv;have g3:ps[i]?=aa (eA U v.t v.x):=by rw[g2,m8,hv];rfl
    cases mu:(take&&ao i 0)with
    |false=>
     rw[mu,aJ]at h;refine gW Mm F rfl h (by simp only[eK,g1,mu,aJ,g3,aK]) ⟨⟨aBl hU _ _,Et (vW hU _ _)⟩,cJ _ _⟩
    |true=>
     rw[mu,aI]at h;have hi:=mu;simp only[aC,dZ,aD]at hi;obtain⟨_,rfl⟩:=hi;refine CA Mm rfl h (v:=eA U v.t v.x) (own:=jC S' x) (S2':=oX S' x) (by simp only[eK,g1,mu,aI,g3,aK]) ⟨⟨aBl hU _ _,Et (vW hU _ _)⟩,?_⟩ (tN F x)
     cases co:Do v.t with
     |false=>exact cJ _ _
     |true=>
      intro o s hm;rcases(dO F x).2 o s hm with⟨ha,_⟩|⟨ho,_,hw,hs⟩
      .have ha:isAgg (dG S' x)=ah:=ha;rw[g1]at ha;cases ha
      .have hw:(jC S' x||lV (dG S' x))=ah:=hw;rw[g1,show lV (.tup ps)=aj from rfl,Bool.or_false]at hw
       have hg:gd (eA U v.t v.x)=ah:=by
        obtain⟨vt,vx⟩:=v;cases vt with
        |sl t=>exact fK _ _
        |_=>cases co
       refine .inr ⟨ho,?_,by show(jC S' x||_)=ah;rw[hw];rfl,λ_=>CM hg⟩
       refine qB (U:=U) (v:=v) ⟨aBl hU _ _,Et (vW hU _ _)⟩ ?_;cases jb:v.t with
       |rc n=>rw[jb]at co;cases co
       |_=>rfl
   .cases h
  .cases h
 |load t a=>
  simp only[Dj]at h;obtain⟨x,M',v,own,p',h1,h2,h3,h4,h5⟩:=a2d hU hT h (dO F a).1 Mm;refine⟨c,x,S,M',v,own,S',p',h1,?_,leC.refl c,h3,F,h4,h5,TH h2⟩;have:oW P p S' ⟨dst,.load t a,ty,pos,jo,jm⟩ take=aa (v,own,p'):=by
   simp only[oW];unfold wT at h2;exact h2
  simp only[JL,cY,this,aK]
 |slice t x lo hi mx=>
  simp only[Dj]at h;obtain⟨y,w,own,h1,h2,h3⟩:=aXi hT F (p:=p) h (dO F x).1;have h2:mG P p t (dG S' x) (lo.map (dG S')) (hi.map (dG S')) (mx.map (dG S'))=aa (w,own):=h2;exact⟨c,y,S,M,w,own,S',p,h1,by simp only[JL,cY,oW,h2,aK],leC.refl c,h3,F,Mm,λhw=>hw,aS _⟩
 |alloc t=>
  simp only[Dj]at h;obtain⟨c',x,M',v,p',h1,h2,h3,h4,h5,h6⟩:=a5s hU hT (S':=S') (o:=⟨dst,.alloc t,ty,pos,jo,jm⟩) rfl h Mm;exact⟨c',x,S,M',v,aj,S',p',h1,by simp only[JL,cY,h2,aK],h3,h4,UB h3 F,h5,h6,wX h2⟩
 |box t x=>
  simp only[Dj]at h;obtain⟨c',x,M',v,p',h1,h2,h3,h4,h5,h6⟩:=a41 hU F (P:=P) (o:=⟨dst,.box t x,ty,pos,jo,jm⟩) rfl h Mm;exact⟨c',x,S,M',v,aj,S',p',h1,by simp only[JL,cY,h2,aK],h3,h4,UB h3 F,h5,h6,wX h2⟩
 |buildSlice t len parts=>
  simp only[Dj]at h;split at h
  .rename_i e ht;cases hb:aq (len*dW U e) 1000000 with
   |false=>rw[hb]at h;cases h
   |true=>
    rw[hb]at h;simp only[aI]at h;split at h
    .rename_i l hl;obtain⟨w,h1,h2⟩:=IR hU hT F (p:=p) (o:=⟨dst,.buildSlice t len parts,ty,pos,jo,jm⟩) rfl ht hb hl;exact⟨c,_,S,M,w,ah,S',p,h,by simp only[JL,cY,h1,aK],leC.refl c,h2,F,Mm,λhw=>hw,aS _⟩
    .cases h
  .cases h
 |makeSlice t l k=>
  simp only[Dj]at h;obtain⟨c',x,M',v,own,p',h1,h2,h3,h4,h5,h6⟩:=a1L hU hT F (o:=⟨dst,.makeSlice t l k,ty,pos,jo,jm⟩) rfl h Mm;exact⟨c',x,S,M',v,own,S',p',h1,by simp only[JL,cY,h2,aK],h3,h4,UB h3 F,h5,h6,wX h2⟩
 |store t a x=>
  simp only[Dj]at h;obtain⟨M',p',h1,h2,h3,h4⟩:=aXf hU hT h (dO F a).1 (dO F x) Mm;have h2:qE P p t (dG S' a) (dG S' x) (jC S' x)=aa p':=h2;exact⟨c,_,_,M',.und,aj,oX S' x,p',h1,by simp only[JL,cY,IE,h2,aK],leC.refl c,⟨trivial,cJ _ _⟩,tN F x,h3,h4,Q2 h2⟩
 |call cl=>
  simp only[Dj]at h;split at h
  .rename_i cy;split at h
   .rename_i t x ht hx;obtain⟨y,w,h1,h2,h3⟩:=aPf hT Mm h (dO F x).1;have h2:DQ P t (dG S' x)=aa w:=h2;exact gW Mm F (by simp only[cY,cy]) h1 (by simp only[eK,cy,ht,hx,h2,aK]) h3
   .cases h
  .rename_i cy;split at h
   .rename_i x y hx;obtain⟨z,w,h1,h2,h3⟩:=aG5 (P:=P) (ts:=cl.argTypes) (ty:=ty) h (dO F x).1 (dO F y).1;have h2:pS P aj cl.argTypes ty [dG S' x,dG S' y]=aa w:=h2;exact gW Mm F (by simp only[cY,cy]) h1 (by simp only[eK,cy,hx,aO,List.map_nil,h2,aK]) h3
   .cases h
  .rename_i cy;split at h
   .rename_i x y hx;obtain⟨z,w,h1,h2,h3⟩:=aG5 (P:=P) (ts:=cl.argTypes) (ty:=ty) h (dO F x).1 (dO F y).1;have h2:pS P ah cl.argTypes ty [dG S' x,dG S' y]=aa w:=h2;exact gW Mm F (by simp only[cY,cy]) h1 (by simp only[eK,cy,hx,aO,List.map_nil,h2,aK]) h3
   .cases h
  .rename_i cy;split at h
   .rename_i s x hx;obtain⟨y,v,own,h1,h2,h3⟩:=a5m hU hT F h;exact⟨c,y,_,M,v,own,oX S' s,p,h1,by simp only[JL,cY,cy,IE,hx,h2,aK],leC.refl c,h3,tN F s,Mm,λhw=>hw,aS _⟩
   .cases h
  .rename_i f cy;obtain⟨x,S2,M',v,own,p',g,args,h1,h2,h3,h4,h5,h6,h7,h8⟩:=aII hU hc F cy h Mm;exact⟨c,x,S2,M',v,own,_,p',h1,by simp only[JL,cY,cy,IE,h2,h3,aK],leC.refl c,h4,h5,h6,h7,by rw[h8];exact aS _⟩
  .cases h
 |_=>cases h
end
section
variable{P:az}{U:iY}{T:TP U.D}{c c0:Cx}{W:Type}{r:W}{q p:PSt}{M:TM U.D}{S:TS U.D}{S':PS}{pc:jZ}
def ZH:rR U c (.tup [],[]) (.tup [],aj):=⟨⟨[],rfl,rfl⟩,cJ _ _⟩
def aHN{ops:Array ic}{o:ic}{run skip:TS U.D->f9 W}(h:a3V U ops o S run skip=aa r)(F:mZ U c S S'):
    ∃S1,mZ U c S1 S'/\((oJ ops S' o=aa ah/\run S1=aa r)∨(oJ ops S' o=aa aj/\skip S1=aa r)):=by
 unfold a3V at h;split at h
 .rename_i hg;exact⟨S,F,.inl ⟨by simp only[oJ,hg],h⟩⟩
 .rename_i j want hg;split at h
  .cases h
  .rename_i d hd;have hs:=F d;split at h
   .rename_i b rr hx;rw[hx]at hs;have hb:(S'.at d).1= .v (.bool b):=of_bool hs.1;have hpw:oJ ops S' o=aa (b==want):=by simp only[oJ,hg,hd,aK,hb]
    have hF: ∀b',b=b'->mZ U c ((d,(.val ⟨.bool,b'⟩,rr))::S) S':=λb' e=>RV F (by rw[<-e];exact hs)
    rcases Gy h with⟨rfl,h⟩|⟨rfl,h⟩
    .cases want with
     |true=>exact⟨_,hF ah rfl,.inl ⟨hpw,h⟩⟩
     |false=>exact⟨_,hF ah rfl,.inr ⟨hpw,h⟩⟩
    .cases want with
     |true=>exact⟨_,hF aj rfl,.inr ⟨hpw,h⟩⟩
     |false=>exact⟨_,hF aj rfl,.inl ⟨hpw,h⟩⟩
   .rename_i rr hx;rw[hx]at hs;obtain⟨ps,e1,e2⟩:=hs.1;have hb:(S'.at d).1= .tup []:=by rw[e1,e2];rfl
    exact⟨S,F,.inr ⟨by simp only[oJ,hg,hd,aK,hb],h⟩⟩
   .cases h
variable(hU:jA U)(hT:tR P U T)
include hU hT
def aBq{oA oI oS:ic}{K:TS U.D->f9 W}(h:VA U T oA oI oS S K=aa r)(F:mZ U c S S'):
    ∃S1 S1',K S1=aa r/\JO P S' oA oI oS=aa S1'/\mZ U c S1 S1':=by
 unfold VA at h;split at h
 .rename_i cl a t1 a' n b t2 b' x e1 e2 e3 e4 e5 e6;split at h
  .rename_i s zz e7 e8;cases hb:ao a a'&&ao b b'&& !Nat.beq a b&& !Qq a n&& !Qq a x&& !Qq b x&&oA.guard.isNone&&oI.guard.isNone&&oS.guard.isNone with
   |false=>rw[hb]at h;cases h
   |true=>
    rw[hb]at h;simp only[aI]at h;obtain⟨y,w,v,h1,h2,h3,h4⟩:=aQ5 hU hT F h;refine⟨_,((oX S' s).put (aa a) v ah).put (aa b) (aC8 v) aj,h1,by simp only[JO,e1,e2,e3,e4,e5,e6,e7,e8,hb,aI,h2,aK],?_⟩
    exact uY (uY (tN F s) h3) ⟨h4,cJ _ _⟩
  .cases h
 .cases h
def runT_ok{tc:rM U.D}(hc:iV U T tc pc){ops:Array ic}{K:TS U.D->TM U.D->f9 W}: ∀(sc:au TStep) (S:TS U.D) (M:TM U.D) (S':PS) (p:PSt) (c:Cx),mZ U c S S'->MR U q c0 c M p->AX U T tc ops sc S M K=aa r->
    ∃c' S1 M1 S1' p',K S1 M1=aa r/\Aj P pc ops (sc.map TStep.un) S' p=aa (S1',p')/\leC c c'/\mZ U c' S1 S1'/\MR U q c0 c' M1 p'/\p.next<=p'.next
 |[],S,M,S',p,c,F,Mm,h=>⟨c,S,M,S',p,h,rfl,leC.refl c,F,Mm,aS _⟩
 | .app a i s::rest,S,M,S',p,c,F,Mm,h=>by
  unfold AX at h;split at h
  .rename_i oA oI oS e1 e2 e3;obtain⟨S1,S1',h1,h2,h3⟩:=aBq hU hT h F;obtain⟨c',S2,M2,S2',p',g1,g2,g3⟩:=runT_ok hc rest S1 M S1' p c h3 Mm h1;refine⟨c',S2,M2,S2',p',g1,?_,g3⟩;simp only[aO,TStep.un,Aj,e1,e2,e3,h2,g2]
  .cases h
 | .freeze t::rest,S,M,S',p,c,F,Mm,h=>by
  unfold AX at h;split at h
  .rename_i R hR;obtain⟨S1',p1,h1,h2,h3,h4⟩:=UA hU F hR Mm;obtain⟨c',S2,M2,S2',p',g1,g2,g3,g4,g5,g6⟩:=runT_ok hc rest R.1 R.2 S1' p1 c h2 h3 h;refine⟨c',S2,M2,S2',p',g1,?_,g3,g4,g5,oi (pfreeze_next h1) g6⟩;simp only[aO,TStep.un,Aj,h1,g2]
  .cases h
 | .op i take inst bk::rest,S,M,S',p,c,F,Mm,h=>by
  unfold AX at h;split at h
  .cases h
  .rename_i o ho;obtain⟨S0,F0,h|h⟩:=aHN h F
   .obtain⟨hw,h⟩:=h;obtain⟨c1,x,S1,M1,v,own,S1',p1,h1,h2,h3,h4,h5,h6,_,h7⟩:=aGC hU hT hc F0 Mm h;obtain⟨c',S2,M2,S2',p',g1,g2,g3,g4,g5,g6⟩:=runT_ok hc rest _ M1 _ p1 c1 (BX h5 h4) h6 h1;refine⟨c',S2,M2,S2',p',g1,?_,leC.trans h3 g3,g4,g5,oi h7 g6⟩;simp only[aO,TStep.un,Aj,ho,hw,h2,g2]
   .obtain⟨hw,h⟩:=h;obtain⟨c',S2,M2,S2',p',g1,g2,g3⟩:=runT_ok hc rest _ M _ p c (BX F0 ZH) Mm h;refine⟨c',S2,M2,S2',p',g1,?_,g3⟩;simp only[aO,TStep.un,Aj,ho,hw,g2]
where
 pfreeze_next {p p1:PSt} {S' S1':PS} {t:Nat} (h:lA p S' t=aa (S1',p1)):p.next<=p1.next:=by
  unfold lA at h;split at h
  .rename_i R hR;cases h;unfold aNj at hR;simp only[Bool.cond_eq_ite]at hR
   repeat' split at hR
   all_goals first|(cases hR;done)|(simp only[aA]at hR;rw[<-hR];exact aS _)
  .cases h
def aAD(c:Cx):au Qv->au kR->Prop
 |[],[]=>True
 |x::l,y::l'=>(x.i=y.i/\x.stale=y.stale/\x.mr=mK y.o/\(x.mr=aj->∃e id,c x.k=aa e/\e.id=aa id/\aNk y.o y.a y.v=aa id))/\aAD c l l'
 |_,_=>False
omit hU hT in
def T7{c c':Cx}(h:leC c c'): ∀{l:au Qv} {l':au kR},aAD c l l'->aAD c' l l'
 |[],[],_=>trivial
 |x::l,y::l',⟨⟨h1,h2,h3,h4⟩,h5⟩=>⟨⟨h1,h2,h3,λe=>by obtain⟨a,id,g1,g2⟩:=h4 e;exact⟨a,id,h _ _ g1,g2⟩⟩,T7 h h5⟩
 |[],_::_,hh=>hh.elim
 |_::_,[],hh=>hh.elim
omit hU hT in
def Ec(hw:WR U c M p): ∀{l:au Qv} {l':au kR},aAD c l l'->LJ M.wr l=ah->l'.all (rW P p)=ah
 |[],[],_,_=>rfl
 |x::l,y::l',⟨⟨h1,h2,h3,h4⟩,h5⟩,h=>by
  simp only[LJ,aC,d7,io]at h;rw[aP,Ec hw h5 h.2,bF];unfold rW;rw[<-h2];rcases h.1 with h6|⟨h6,h7⟩
  .rw[h6];rfl
  .obtain⟨e,id,g1,g2,g3⟩:=h4 h6;have:aBo p (aNk y.o y.a y.v)=ah:=by
    rw[g3];simp only[aBo,io,<-Bool.not_eq_true];intro hm;have:=hw id (by simpa using hm) x.k e g1 g2
    rw[h7]at this;cases this
   rw[this,Bool.true_or,Bool.or_true]
 |[],_::_,hh,_=>hh.elim
 |_::_,[],hh,_=>hh.elim
omit hU hT in
def EC{ms:au Nat}{i:Nat}{ap:Bool}: ∀{l:au Qv} {l':au kR},aAD c l l'->aAD c (IV ms i ap l) ((l'.filter λr=> !mP (ms.getD i 0) r.i).map λr=>bif ap&& !mK r.o then r else{r with stale:=ah})
 |[],[],_=>trivial
 |x::l,y::l',⟨⟨h1,h2,h3,h4⟩,h5⟩=>by
  have ih:=EC (ms:=ms) (i:=i) (ap:=ap) h5;simp only[IV,List.filter_cons,h1];cases hb:mP (ms.getD i 0) y.i with
  |true=>simpa using ih
  |false=>
   simp only[Bool.not_false,bQ,aJ,aO];refine⟨?_,ih⟩;rw[<-h3];cases ap&& !x.mr with
   |true=>simp only[aI];exact⟨h1,h2,h3,h4⟩
   |false=>simp only[aJ];exact⟨trivial,trivial,h3,h4⟩
 |[],_::_,hh=>hh.elim
 |_::_,[],hh=>hh.elim
omit hU hT in
def Rp{ms:au Nat}{i:Nat}: ∀{l:au Qv} {l':au kR},aAD c l l'->aAD c (Rq ms i l) (l'.filter λr=> !mP (ms.getD i 0) r.i)
 |[],[],_=>trivial
 |x::l,y::l',⟨⟨h1,h2,h3,h4⟩,h5⟩=>by
  have ih:=Rp (ms:=ms) (i:=i) h5;simp only[Rq,List.filter_cons,h1];cases hb:mP (ms.getD i 0) y.i with
  |true=>simpa using ih
  |false=>exact⟨⟨h1,h2,h3,h4⟩,ih⟩
 |[],_::_,hh=>hh.elim
 |_::_,[],hh=>hh.elim
omit hU hT in
def aAP{ms:au Nat}{i:Nat}: ∀{l:au Qv} {l':au kR},aAD c l l'->aGU ms i l=ah->(l'.filter λr=> !mP (ms.getD i 0) r.i).all (λr=> !mK r.o)=ah
 |[],[],_,_=>rfl
 |x::l,y::l',⟨⟨h1,h2,h3,h4⟩,h5⟩,h=>by
  simp only[aGU,aC,d7,io]at h;have ih:=aAP (ms:=ms) (i:=i) h5 h.2;rw[List.filter_cons];cases hb:mP (ms.getD i 0) y.i with
  |true=>simpa using ih
  |false=>
   rw[h1,hb]at h;rcases h.1 with h6|h6
   .cases h6
   .simp only[Bool.not_false,bQ,aP,ih,bF];rw[<-h3,h6];rfl
 |[],_::_,hh,_=>hh.elim
 |_::_,[],hh,_=>hh.elim
omit hU hT in
def a1f{o:ic}{x:X U}{i:Nat}{pend gw:au Qv}{pl:au kR}{v:PV}{own:Bool}{c':Cx}(h:a1g U o S x i pend=aa gw)(F:mZ U c S S')(hl:leC c c')(hx:rR U c' x (v,own))(hp:aAD c' pend pl):
    aAD c' gw (bif lJ o S' then⟨i,o,qO o S',v,aj⟩::pl else pl):=by
 obtain⟨dst,op,ty,pos,jo,jm⟩:=o;have other:(∀t a,op≠ .load t a)->lJ ⟨dst,op,ty,pos,jo,jm⟩ S'=aj->a1g U ⟨dst,op,ty,pos,jo,jm⟩ S x i pend=aa pend->aAD c' gw (bif lJ ⟨dst,op,ty,pos,jo,jm⟩ S' then⟨i,⟨dst,op,ty,pos,jo,jm⟩,qO ⟨dst,op,ty,pos,jo,jm⟩ S',v,aj⟩::pl else pl):=by
  intro _ h1 h2;rw[h2]at h;cases h;rw[h1];exact hp
 have box: ∀(k:Nat),(∃off qg,x.1= .lc k off qg)->lJ ⟨dst,op,ty,pos,jo,jm⟩ S'=ah->mK ⟨dst,op,ty,pos,jo,jm⟩=aj->(∀a w,aNk ⟨dst,op,ty,pos,jo,jm⟩ a w=vid w)->aAD c' (⟨i,k,aj,aj⟩::pend) (bif lJ ⟨dst,op,ty,pos,jo,jm⟩ S' then⟨i,⟨dst,op,ty,pos,jo,jm⟩,qO ⟨dst,op,ty,pos,jo,jm⟩ S',v,aj⟩::pl else pl):=by
  intro k ⟨off,qg,hk⟩ h1 h2 h3;rw[h1];have h4:=hx.1;rw[hk]at h4;obtain⟨e,id,g1,g2,g3⟩:=h4;have g3:v= .ptr id off:=g3;exact⟨⟨rfl,rfl,h2.symm,λ_=>⟨e,id,g1,g2,by simp only[h3];rw[g3];rfl⟩⟩,hp⟩
 cases op with
 |load t a=>
  have h1:=(dO F a).1;simp only[a1g]at h;split at h
  .rename_i k off qg ha;rw[ha]at h1;obtain⟨e,id,g1,g2,g3⟩:=h1;have g3:dG S' a= .ptr id off:=g3;cases h;simp only[lJ,g3,aI];exact⟨⟨rfl,rfl,rfl,λ_=>⟨e,id,hl _ _ g1,g2,by simp only[aNk,qO,g3,a6M]⟩⟩,hp⟩
  .rename_i k ii off qg ha;rw[ha]at h1;obtain⟨e,id,g1,g2,_,_,g3⟩:=h1;have g3:dG S' a= .ptr id (ii.toNat*e.z+off):=g3;cases h;simp only[lJ,g3,aI];exact⟨⟨rfl,rfl,rfl,λ_=>⟨e,id,hl _ _ g1,g2,by simp only[aNk,qO,g3,a6M]⟩⟩,hp⟩
  .rename_i w ha;rw[ha]at h1;obtain⟨es,ii,off,e,g1,_⟩:=h1;have g1:dG S' a= .pin es ii off:=g1;cases h;simp only[lJ,g1,aJ];exact hp
  .cases h
 |alloc t=>
  simp only[a1g]at h;split at h
  .rename_i k off qg hk;cases h;exact box k ⟨off,qg,hk⟩ rfl rfl λ_ _=>rfl
  .cases h
 |box t y=>
  simp only[a1g]at h;split at h
  .rename_i k off qg hk;cases h;exact box k ⟨off,qg,hk⟩ rfl rfl λ_ _=>rfl
  .cases h
 |makeSlice t l k=>
  simp only[a1g,aA]at h;subst h;exact⟨⟨rfl,rfl,rfl,λe=>by cases e⟩,hp⟩
 |_=>exact other (λ_ _ e=>by cases e) rfl rfl
def sV{tc:rM U.D}(hc:iV U T tc pc){ops:Array ic}{ms:au Nat}{K:TS U.D->TM U.D->f9 W}: ∀(sc:au TStep) (pend:au Qv) (pl:au kR) (S:TS U.D) (M:TM U.D) (S':PS) (p:PSt) (c:Cx),mZ U c S S'->MR U q c0 c M p->WR U c M p->aAD c pend pl->
    oT U T tc ops ms sc pend S M K=aa r->
    ∃c' S1 M1 S1' p',K S1 M1=aa r/\lU P pc ops ms (sc.map TStep.un) pl S' p=aa (S1',p')/\leC c c'/\mZ U c' S1 S1'/\MR U q c0 c' M1 p'/\p.next<=p'.next
 |[],pend,pl,S,M,S',p,c,F,Mm,β,Pd,h=>by
  unfold oT at h;cases hb:LJ M.wr pend with
  |false=>rw[hb]at h;cases h
  |true=>
   rw[hb]at h;exact⟨c,S,M,S',p,h,by simp only[List.map_nil,lU,Ec β Pd hb,aI],leC.refl c,F,Mm,aS _⟩
 | .app a i s::rest,pend,pl,S,M,S',p,c,F,Mm,β,Pd,h=>by
  unfold oT at h;split at h
  .rename_i oA oI oS e1 e2 e3;obtain⟨S1,S1',h1,h2,h3⟩:=aBq hU hT h F;cases hb:LJ M.wr pend&&aGU ms a pend with
   |false=>rw[hb]at h1;cases h1
   |true=>
    rw[hb]at h1;simp only[aC]at hb;have hpd:=Rp (ms:=ms) (i:=s) (EC (ms:=ms) (i:=a) (ap:=ah) Pd);obtain⟨c',S2,M2,S2',p',g1,g2,g3⟩:=sV hc rest _ _ S1 M S1' p c h3 Mm β hpd h1;refine⟨c',S2,M2,S2',p',g1,?_,g3⟩;simp only[aO,TStep.un,lU,e1,e2,e3,h2,Ec β Pd hb.1,aAP Pd hb.2,n8,aI];simpa using g2
  .cases h
 | .freeze t::rest,pend,pl,S,M,S',p,c,F,Mm,β,Pd,h=>by
  unfold oT at h;split at h
  .rename_i R hR;obtain⟨S1',p1,h1,h2,h3,h4⟩:=UA hU F hR Mm;obtain⟨c',S2,M2,S2',p',g1,g2,g3,g4,g5,g6⟩:=sV hc rest pend pl R.1 R.2 S1' p1 c h2 h3 (h4 β) Pd h;refine⟨c',S2,M2,S2',p',g1,?_,g3,g4,g5,oi (runT_ok.pfreeze_next h1) g6⟩;simp only[aO,TStep.un,lU,h1,g2]
  .cases h
 | .op i take inst bk::rest,pend,pl,S,M,S',p,c,F,Mm,β,Pd,h=>by
  unfold oT at h;split at h
  .cases h
  .rename_i o ho;obtain⟨S0,F0,h|h⟩:=aHN h F
   .obtain⟨hw,h⟩:=h;obtain⟨c1,x,S1,M1,v,own,S1',p1,h1,h2,h3,h4,h5,h6,hW,h7⟩:=aGC hU hT hc F0 Mm h;cases he:lW o with
    |true=>
     rw[he]at h1;simp only[aI]at h1;cases hb:LJ M.wr pend with
     |false=>rw[hb]at h1;cases h1
     |true=>
      rw[hb]at h1;have hpd:=EC (ms:=ms) (i:=i) (ap:=qG o) (T7 h3 Pd);obtain⟨c',S2,M2,S2',p',g1,g2,g3,g4,g5,g6⟩:=sV hc rest _ _ _ M1 _ p1 c1 (BX h5 h4) h6 (hW β) hpd h1;refine⟨c',S2,M2,S2',p',g1,?_,leC.trans h3 g3,g4,g5,oi h7 g6⟩;simp only[aO,TStep.un,lU,ho,hw,h2,he,Ec β Pd hb,aI];exact g2
    |false=>
     rw[he]at h1;simp only[aJ]at h1;split at h1
     .rename_i gw hpe;have hpd:=a1f hpe F0 h3 h4 (T7 h3 Pd);obtain⟨c',S2,M2,S2',p',g1,g2,g3,g4,g5,g6⟩:=sV hc rest _ _ _ M1 _ p1 c1 (BX h5 h4) h6 (hW β) hpd h1;refine⟨c',S2,M2,S2',p',g1,?_,leC.trans h3 g3,g4,g5,oi h7 g6⟩;simp only[aO,TStep.un,lU,ho,hw,h2,he,aJ];exact g2
     .cases h1
   .obtain⟨hw,h⟩:=h;obtain⟨c',S2,M2,S2',p',g1,g2,g3⟩:=sV hc rest pend pl _ M _ p c (BX F0 ZH) Mm β Pd h;refine⟨c',S2,M2,S2',p',g1,?_,g3⟩;simp only[aO,TStep.un,lU,ho,hw,g2]
end
section
variable{P:az}{U:iY}{T:TP U.D}{c c0:Cx}{W:Type}{r:W}{q p:PSt}{M:TM U.D}{S:TS U.D}{S':PS}{pc:jZ}
def S9(c:Cx)(l:au Nat):Cx:=λk=>bif eM k l then c k else ae
def Ft{c:Cx}{l:au Nat}{k:Nat}{e:Ce}(h:S9 c l k=aa e):c k=aa e/\eM k l=ah:=by
 unfold S9 at h;cases hb:eM k l with
 |true=>rw[hb]at h;exact⟨h,rfl⟩
 |false=>rw[hb]at h;cases h
def Fs{c:Cx}{l:au Nat}{k:Nat}{e:Ce}(h:c k=aa e)(hm:eM k l=ah):S9 c l k=aa e:=by
 unfold S9;rw[hm];exact h
def NW{l:au Nat}: ∀{caps:au Nat} {ps:au PV},CY caps l=ah->At c caps ps->At (S9 c l) caps ps
 |[],[],_,_=>trivial
 |k::ks,x::ps,h,⟨⟨e,id,h1,h2,h3⟩,h4⟩=>by
  simp only[CY,aC]at h;exact⟨⟨e,id,Fs h1 h.1,h2,h3⟩,NW h.2 h4⟩
 |[],_::_,_,h=>h.elim
 |_::_,[],_,h=>h.elim
def IX: ∀{l:au (V U)} {ts:au Ty},IY U l ts=ah->l.length=ts.length
 |[],[],_=>rfl
 |v::l,t::ts,h=>by
  simp only[IY,aC]at h;simp only[aM,IX h.2]
 |[],_::_,h=>by cases h
 |_::_,[],h=>by cases h
def aPD(hU:jA U){l:au Nat}{sh:Sh}{s:SV U.D}{d:au (V U)}{pv:PV}(h:Ar U l sh s=aa d)(r:wH U c s pv):
    ∃s',(∀rest,Tq U sh (d++rest)=aa (s',rest))/\wH U (S9 c l) s' pv:=by
 cases sh with
 |val t=>
  simp only[Ar]at h;split at h
  .rename_i v hv;cases h;obtain⟨h1,h2⟩:=mQ hU hv r;refine⟨.val v,λrest=>?_,h2⟩
   simp only[aR,Tq,h1,Ty.beq_rfl,aI]
  .cases h
 |tup ts=>
  cases s with
  |tup vs=>
   simp only[Ar]at h;cases hb:IY U vs ts with
   |false=>rw[hb]at h;cases h
   |true=>
    rw[hb]at h;simp only[aI,aA]at h;subst h;refine⟨.tup vs,λrest=>?_,r⟩
    have:=IX hb;simp only[Tq,<-this,List.take_left,List.drop_left,hb,aI]
  |_=>cases h
 |nl=>
  cases s with
  |nl=>simp only[Ar,aA]at h;subst h;exact⟨.nl,λrest=>rfl,r⟩
  |_=>cases h
 |lc k off path=>
  cases s with
  |lc k' fu np=>
   simp only[Ar]at h;cases hb:ao k k'&&ao off fu&&As path np&&eM k l with
   |false=>rw[hb]at h;cases h
   |true=>
    rw[hb]at h;simp only[aI,aA]at h;subst h;simp only[aC,dZ,aD]at hb;obtain⟨⟨⟨rfl,rfl⟩,_⟩,hm⟩:=hb;obtain⟨e,id,g1,g2,g3⟩:=r;exact⟨.lc k off path,λrest=>rfl,e,id,Fs g1 hm,g2,g3⟩
  |_=>cases h
 |ep t=>
  cases s with
  |ep v=>
   simp only[Ar]at h;cases hb:v.t.beq t with
   |false=>rw[hb]at h;cases h
   |true=>
    rw[hb]at h;simp only[aI,aA]at h;subst h;refine⟨.ep v,λrest=>?_,r⟩
    simp only[aR,Tq,hb,aI]
  |_=>cases h
 |rw k=>
  cases s with
  |rw k'=>
   simp only[Ar]at h;cases hb:ao k k'&&eM k l with
   |false=>rw[hb]at h;cases h
   |true=>
    rw[hb]at h;simp only[aI,aA]at h;subst h;simp only[aC,dZ,aD]at hb;obtain⟨rfl,hm⟩:=hb;obtain⟨e,g1,g2⟩:=r;exact⟨.rw k,λrest=>rfl,e,Fs g1 hm,g2⟩
  |_=>cases h
 |cl f caps=>
  cases s with
  |cl f' cj=>
   simp only[Ar]at h;cases hb:ao f f'&&As caps cj&&CY caps l with
   |false=>rw[hb]at h;cases h
   |true=>
    rw[hb]at h;simp only[aI,aA]at h;subst h;simp only[aC,dZ,aD]at hb;obtain⟨⟨rfl,h2⟩,hm⟩:=hb;have:=zO h2;subst this;obtain⟨ps,g1,g2⟩:=r;exact⟨.cl f caps,λrest=>rfl,ps,g1,NW hm g2⟩
  |_=>cases h
 |nf=>
  cases s with
  |nf=>simp only[Ar,aA]at h;subst h;exact⟨.nf,λrest=>rfl,r⟩
  |_=>cases h
 |row t=>cases h
 |no=>simp only[Ar,aA]at h;subst h;exact⟨.no,λrest=>rfl,trivial⟩
def aBc(hU:jA U){bl:au Nat}(F:mZ U c S S'): ∀{l:au (Nat×Sh×kA)} {d:au (V U)} (rest:au (V U)),aHX U bl S l=aa d->
    ∃S0,aD0 U l (d++rest)=aa (S0,rest)/\mZ U (S9 c bl) S0 (keeps S' (l.map (·.1)))
 |[],d,rest,h=>by
  simp only[aHX,aA]at h;subst h;exact⟨[],rfl,λt=>⟨trivial,cJ _ _⟩⟩
 |(t,s,rr)::l,d,rest,h=>by
  unfold aHX at h;split at h
  .rename_i a d' ha hd;cases hb:leR rr (mY S t).2 with
   |false=>rw[hb]at h;cases h
   |true=>
    rw[hb]at h;simp only[aI,aA]at h;subst h;obtain⟨s',h1,h2⟩:=aPD hU ha (F t).1;obtain⟨S0,h3,h4⟩:=aBc hU F rest hd;refine⟨(t,(s',rr))::S0,?_,?_⟩
    .rw[aQ];simp only[aD0,h1,h3]
    .exact uY h4 ⟨h2,aZH hb (F t).2⟩
  .cases h
def Vu{bl:au Nat}{sh:Sh}{s:SV U.D}{d:au (V U)}{cs:au (PV×Bool)}(h:Ar U bl sh s=aa d)(hn:sh≠ .no)(r:Bc U c s cs):
    ∃s',(∀rest,Tq U sh (d++rest)=aa (s',rest))/\Bc U (S9 c bl) s' cs:=by
 cases sh with
 |val t=>
  simp only[Ar]at h;split at h
  .rename_i v hv;cases h;cases s with
   |val w=>
    simp only[Ku]at hv;cases hb:w.t.beq t with
    |false=>rw[hb]at hv;cases hv
    |true=>
     rw[hb]at hv;cases hv;refine⟨.val v,λrest=>?_,r⟩
     simp only[aR,Tq,hb,aI]
   |nl=>exact r.elim
   |zr _=>exact r.elim
   |_=>cases hv
  .cases h
 |cl f caps=>
  cases s with
  |cl f' cj=>
   simp only[Ar]at h;cases hb:ao f f'&&As caps cj&&CY caps bl with
   |false=>rw[hb]at h;cases h
   |true=>
    rw[hb]at h;simp only[aI,aA]at h;subst h;simp only[aC,dZ,aD]at hb;obtain⟨⟨rfl,h2⟩,hm⟩:=hb;have:=zO h2;subst this;obtain⟨pv,b,g0,ps,g1,g2⟩:=r;exact⟨.cl f caps,λrest=>rfl,pv,b,g0,ps,g1,NW hm g2⟩
  |_=>cases h
 |nf=>
  cases s with
  |nf=>simp only[Ar,aA]at h;subst h;exact⟨.nf,λrest=>rfl,r⟩
  |_=>cases h
 |no=>exact(hn rfl).elim
 |row t=>cases h
 |tup ts=>cases s<;>first|exact r.elim|cases h
 |nl=>cases s<;>first|exact r.elim|cases h
 |lc k off path=>cases s<;>first|exact r.elim|cases h
 |ep t=>cases s<;>first|exact r.elim|cases h
 |rw k=>cases s<;>first|exact r.elim|cases h
def aBd(Mm:MR U q c0 c M p){bl:au Nat}: ∀{l:au (Nat×Sh×kA)} {d:au (V U)} (rest:au (V U)),aDp U bl M.bx l=aa d->(∀k,eM k (l.map (·.1))=ah->eM k bl=ah)->
    ∃M0,DJ U l (d++rest)=aa (M0,rest)/\(∀k,eB M0 k=ae->eM k (l.map (·.1))=aj)/\(∀k b,eB M0 k=aa b->∃e,S9 c bl k=aa e/\D4 U (S9 c bl) p e b)
 |[],d,rest,h,_=>by
  simp only[aDp,aA]at h;subst h;exact⟨[],rfl,λ_ _=>rfl,λk b h=>by cases h⟩
 |(k,s,rr)::l,d,rest,h,hl=>by
  have fe: ∀k,eM k (l.map (·.1))=ah->eM k bl=ah:=λj hj=>hl j (by simp only[aO,eM,hj,Bool.or_true])
  have hk:eM k bl=ah:=hl k (by simp only[aO,eM,Nat.beq_refl,Bool.true_or])
  have fin: ∀(dv dl:au (V U)) (b:BC U.D),aDp U bl M.bx l=aa dl->d=dv++dl->(∀M1,DJ U l (dl++rest)=aa (M1,rest)->DJ U ((k,s,rr)::l) (dv++(dl++rest))=aa ((k,b)::M1,rest))->(∃e,S9 c bl k=aa e/\D4 U (S9 c bl) p e b)->
        ∃M0,DJ U ((k,s,rr)::l) (d++rest)=aa (M0,rest)/\(∀j,eB M0 j=ae->eM j (((k,s,rr)::l).map (·.1))=aj)/\(∀j b,eB M0 j=aa b->∃e,S9 c bl j=aa e/\D4 U (S9 c bl) p e b):=by
   intro dv dl b hd he hu hb;obtain⟨M1,h1,h2,h3⟩:=aBd Mm rest hd fe;refine⟨(k,b)::M1,by rw[he,aQ];exact hu M1 h1,λj hj=>?_,λj b' hj=>?_⟩
   .rw[iJ]at hj;by_cases e1:j=k
    .rw[bJ e1]at hj;cases hj
    .rw[bI e1]at hj;simp only[aO,eM,h2 j hj,Bool.or_false];exact aDE λe=>e1 e.symm
   .rw[iJ]at hj;by_cases e1:j=k
    .rw[bJ e1]at hj;simp only[aA]at hj;subst hj;rw[e1];exact hb
    .rw[bI e1]at hj;exact h3 j b' hj
  unfold aDp at h;split at h
  .rename_i cont rs d' hf hd;obtain⟨e,he,id,cs,hid,bc,hcs,lj⟩:=Mm.bx k _ hf;split at h
   .cases h
   .cases h
   .rename_i s0 qc hnn;split at h
    .rename_i a ha;cases hb:leR rr rs with
     |false=>rw[hb]at h;cases h
     |true=>
      rw[hb]at h;simp only[aI,aA]at h;obtain⟨s',g1,g2⟩:=Vu ha (λe=>hnn e) hcs
      have hun: ∀M1,DJ U l (d'++rest)=aa (M1,rest)->DJ U ((k,s,rr)::l) (a++(d'++rest))=aa ((k,.bx s' rr)::M1,rest):=by
       intro M1 hM1;have: ∀d2,DJ U ((k,s,rr)::l) d2=(match Tq U s d2 with|some (x,d')=>(match DJ U l d' with|some (M,qw)=>aa ((k,.bx x rr)::M,qw)|none=>ae)|none=>ae):=by
        intro d2;cases s with
        |row t=>exact(qc t rfl).elim
        |_=>cases d2<;>first|rfl|(simp only[DJ])
       rw[this,g1];simp only[hM1]
      exact fin a d' (.bx s' rr) hd h.symm hun ⟨e,Fs he hk,id,cs,hid,bc,g2,Lb hb lj⟩
    .cases h
  .rename_i et v d' hf hd;split at h
   .rename_i t;cases hb:et.beq t with
    |false=>rw[hb]at h;cases h
    |true=>
     rw[hb]at h;simp only[aI,aA]at h;obtain⟨e,he,hr⟩:=Mm.bx k _ hf;refine fin [⟨.sl et,v⟩] d' (.row et v) hd h.symm (λM1 hM1=>?_) ⟨e,Fs he hk,hr⟩
     simp only[aR,DJ,hb,aI,hM1]
   .cases h
  .cases h
end
section
variable{P:az}{U:iY}{T:TP U.D}{c c0:Cx}{W:Type}{r:W}{q p:PSt}{M:TM U.D}{S:TS U.D}{S':PS}{pc:jZ}
def Mg(hU:jA U){ct:Cut}{d:au (V U)}(h:IN U ct S M=aa d)(F:mZ U c S S')(Mm:MR U q c0 c M p):
    ∃S0 M0 c',KT U ct d=aa (S0,M0)/\mZ U c' S0 (keeps S' ct.ts)/\MR U q c0 c' M0 p:=by
 unfold IN at h;split at h
 .rename_i a b ha hb;cases h;obtain⟨S0,h1,h2⟩:=aBc hU F b ha;obtain⟨M0,h3,h4,h5⟩:=aBd Mm [] hb (λ_ h=>h)
  rw[bB]at h3;refine⟨S0,⟨M0,[]⟩,S9 c (ct.bx.map (·.1)),by simp only[KT,h1,h3],h2,?_⟩
  refine⟨λk hk=>?_,h5,λk e id g1 g2=>Mm.lt k e id (Ft g1).1 g2,λk k' e e' id g1 g2 g3 g4=>Mm.inj k k' e e' id (Ft g1).1 (Ft g2).1 g3 g4,Mm.next,λk e g1 g2=>Mm.bor k e (Ft g1).1 g2,λk e id g1 g2 g3=>Mm.loc k e id (Ft g1).1 g2 g3,Mm.old,Mm.dirty,Mm.wr⟩
  unfold S9;rw[h4 k hk];rfl
 .cases h
def MR.cln(Mm:MR U q c0 c M p):MR U q c0 c ⟨M.bx,[]⟩ (PI.cln p):=
 ⟨Mm.dom,λk b h=>by obtain⟨e,h1,h2⟩:=Mm.bx k b h;exact⟨e,h1,Ag h2 λ_ _=>rfl⟩,Mm.lt,Mm.inj,Mm.next,Mm.bor,Mm.loc,Mm.old,Mm.dirty,λid hi=>by cases hi⟩
def MR.dty{p':PSt}(Mm:MR U q c0 c M p'){c1:Cx}{M1:TM U.D}(Mp:MR U q c0 c1 M1 p)(hn:p.next<=p'.next):MR U q c0 c M (PI.dty p p'):=
 ⟨Mm.dom,λk b h=>by obtain⟨e,h1,h2⟩:=Mm.bx k b h;exact⟨e,h1,Ag h2 λ_ _=>rfl⟩,Mm.lt,Mm.inj,Mm.next,Mm.bor,Mm.loc,Mm.old,Mm.dirty,λid hi=>by
  have hi:id∈p'.wr.foldr HS p.wr:=hi;rw[fT]at hi;rcases hi with h|h
  .exact Mm.wr id h
  .obtain⟨h1,h2⟩:=Mp.wr id h;exact⟨Nat.lt_of_lt_of_le h1 hn,h2⟩⟩
variable(hU:jA U)(hT:tR P U T)
include hU hT
def aUI(P:az)(U:iY)(T:TP U.D)(q:PSt)(c0:Cx)(run:{W:Type}->TS U.D->TM U.D->TK U.D W->f9 W)(prun:PS->PSt->f9 (Fl×PS×PSt)):Prop:=
 ∀(W:Type) (K:TK U.D W) (r:W) (S:TS U.D) (M:TM U.D) (S':PS) (p:PSt) (c:Cx),mZ U c S S'->MR U q c0 c M p->run S M K=aa r->
  ∃fl c' S1 M1 S1' p',K fl S1 M1=aa r/\prun S' p=aa (fl,S1',p')/\mZ U c' S1 S1'/\MR U q c0 c' M1 p'/\p.next<=p'.next
omit hU hT in
def RG(hU:jA U){ct:Cut}{run:{W:Type}->TS U.D->TM U.D->TK U.D W->f9 W}{prun:PS->PSt->f9 (Fl×PS×PSt)}(hr:aUI P U T q c0 run prun){K:TK U.D W}:
    ∀(n:Nat) (d:au (V U)) (S0:TS U.D) (M0:TM U.D) (S':PS) (p:PSt) (c:Cx),KT U ct d=aa (S0,M0)->mZ U c S0 (keeps S' ct.ts)->MR U q c0 c M0 p->Dn U ct (λS M K=>run S M K) K n d=aa r->
    ∃fl c' S1 M1 S1' p',K fl S1 M1=aa r/\BN (λS p=>prun (keeps S ct.ts) p) n S' p=aa (fl,S1',p')/\mZ U c' S1 S1'/\MR U q c0 c' M1 p'/\p.next<=p'.next
 |0,d,S0,M0,S',p,c,hu,F,Mm,h=>by cases h
 |n+1,d,S0,M0,S',p,c,hu,F,Mm,h=>by
  simp only[Dn,qJ,hu]at h;obtain⟨fl,c1,S1,M1,S1',p1,h1,h2,h3,h4,h5⟩:=hr W _ r S0 M0 _ p c F Mm h;cases fl with
  |normal=>
   simp only[iL]at h1;split at h1
   .rename_i d' hd;obtain⟨S2,M2,c2,g1,g2,g3⟩:=Mg hU hd h3 h4;obtain⟨fl,c',S3,M3,S3',p3,k1,k2,k3,k4,k5⟩:=RG hU hr n d' S2 M2 S1' p1 c2 g1 g2 g3 h1;exact⟨fl,c',S3,M3,S3',p3,k1,by simp only[BN,h2,k2],k3,k4,oi h5 k5⟩
   .cases h1
  |exit id=>exact⟨_,c1,S1,M1,S1',p1,h1,by simp only[BN,h2],h3,h4,h5⟩
  |ret=>exact⟨_,c1,S1,M1,S1',p1,h1,by simp only[BN,h2],h3,h4,h5⟩
omit hU hT in
def aGF{q:PSt}{c0 c:Cx}{ops:Array ic}{S:TS U.D}{M:TM U.D}{S':PS}{p:PSt}(F:mZ U c S S')(Mm:MR U q c0 c M p)(h:JR U ops S M=ah):Fu ops S' p=ah:=by
 unfold JR at h;unfold Fu;split at h
 .rename_i e;rw[e]
 .rename_i s t e;rw[e];simp only;have r1:=(F s).1;have r2:=(F t).1;split at h
  .rename_i v k o2 p2 e1 e2;rw[e1]at r1;rw[e2]at r2;obtain⟨es,i,off,_,q1,_⟩:=r1;obtain⟨e',id,q2,q3,q4⟩:=r2;rw[q1,q4];simp only;split at h
   .rename_i bs br hf;obtain⟨e2',q5,bn,cs,q6,q7,_⟩:=Mm.bx k _ hf;rw[q2]at q5;cases q5;rw[q3]at q6;cases q6;rw[q7]
   .cases h
  .cases h
 .cases h
def aH5{tc:rM U.D}(hc:iV U T tc pc)(L:Nat): ∀(code:TC),aUI P U T q c0 (λ{W} S M K=>gD U T (W:=W) tc L code S M K) (fL P pc L code.pc):=by
 intro code;induction code with
 |skip=>intro W K r S M S' p c F Mm h;exact⟨.normal,c,S,M,S',p,h,rfl,F,Mm,aS _⟩
 |label l=>intro W K r S M S' p c F Mm h;exact⟨.normal,c,S,M,S',p,h,rfl,F,Mm,aS _⟩
 |region id ops draw ms sc=>
  intro W K r S M S' p c F Mm h;simp only[gD]at h;cases draw with
  |true=>
   obtain⟨c',S1,M1,S1',p',h1,h2,h3,h4,h5,h6⟩:=sV hU hT hc sc [] [] S ⟨M.bx,[]⟩ S' (PI.cln p) c F Mm.cln (λid hi=>by cases hi) trivial h
   obtain⟨h1,htw⟩:K .normal S1 M1=aa r/\JR U ops S1 M1=ah:=by
    cases hb:JR U ops S1 M1 with
    |true=>rw[hb,aI]at h1;exact⟨h1,rfl⟩
    |false=>rw[hb]at h1;cases h1
   refine⟨.normal,c',S1,M1,S1',PI.dty p p',h1,?_,h4,h5.dty Mm h6,h6⟩;simp only[TC.pc,fL,aI,h2,aHY,aGF h4 h5 htw,aK]
  |false=>
   obtain⟨c',S1,M1,S1',p',h1,h2,h3,h4,h5,h6⟩:=runT_ok hU hT hc sc S M S' p c F Mm h;refine⟨.normal,c',S1,M1,S1',p',h1,?_,h4,h5,h6⟩;simp only[TC.pc,fL,aJ,h2,aK]
 |seq a b fi jq=>
  intro W K r S M S' p c F Mm h;simp only[gD]at h;obtain⟨fl,c1,S1,M1,S1',p1,h1,h2,h3,h4,h5⟩:=fi W _ r S M S' p c F Mm h;cases fl with
  |normal=>
   obtain⟨fl,c2,S2,M2,S2',p2,g1,g2,g3,g4,g5⟩:=jq W _ r S1 M1 S1' p1 c1 h3 h4 h1;exact⟨fl,c2,S2,M2,S2',p2,g1,by simp only[TC.pc,fL,h2,g2],g3,g4,oi h5 g5⟩
  |exit id=>exact⟨_,c1,S1,M1,S1',p1,h1,by simp only[TC.pc,fL,h2],h3,h4,h5⟩
  |ret=>exact⟨_,c1,S1,M1,S1',p1,h1,by simp only[TC.pc,fL,h2],h3,h4,h5⟩
 |cond x a b fi jq=>
  intro W K r S M S' p c F Mm h;simp only[gD]at h;have h1:=(dO F x).1;split at h
  .rename_i w hx;rw[hx]at h1;have h1:dG S' x= .v (.bool w):=of_bool h1;rcases Gy h with⟨rfl,h⟩|⟨rfl,h⟩
   .obtain⟨fl,c1,S1,M1,S1',p1,g1,g2,g3⟩:=fi W _ r S M S' p c F Mm h;exact⟨fl,c1,S1,M1,S1',p1,g1,by simp only[TC.pc,fL,h1,g2],g3⟩
   .obtain⟨fl,c1,S1,M1,S1',p1,g1,g2,g3⟩:=jq W _ r S M S' p c F Mm h;exact⟨fl,c1,S1,M1,S1',p1,g1,by simp only[TC.pc,fL,h1,g2],g3⟩
  .cases h
 |block id a fi=>
  intro W K r S M S' p c F Mm h;simp only[gD]at h;obtain⟨fl,c1,S1,M1,S1',p1,h1,h2,h3,h4,h5⟩:=fi W _ r S M S' p c F Mm h;cases fl with
  |normal=>exact⟨_,c1,S1,M1,S1',p1,h1,by simp only[TC.pc,fL,h2],h3,h4,h5⟩
  |ret=>exact⟨_,c1,S1,M1,S1',p1,h1,by simp only[TC.pc,fL,h2],h3,h4,h5⟩
  |exit n=>
   simp only[dM]at h1;cases hb:ao n id with
   |true=>
    rw[hb]at h1;exact⟨_,c1,S1,M1,S1',p1,h1,by simp only[TC.pc,fL,h2,hb,aI],h3,h4,h5⟩
   |false=>
    rw[hb]at h1;exact⟨_,c1,S1,M1,S1',p1,h1,by simp only[TC.pc,fL,h2,hb,aJ],h3,h4,h5⟩
 |loop ct a fi=>
  intro W K r S M S' p c F Mm h;simp only[gD]at h;split at h
  .rename_i d hd;obtain⟨S0,M0,c1,g1,g2,g3⟩:=Mg hU hd F Mm;obtain⟨fl,c',S3,M3,S3',p3,k1,k2,k3⟩:=RG hU fi L d S0 M0 S' p c1 g1 g2 g3 h;exact⟨fl,c',S3,M3,S3',p3,k1,k2,k3⟩
  .cases h
 |exit id=>intro W K r S M S' p c F Mm h;exact⟨.exit id,c,S,M,S',p,h,rfl,F,Mm,aS _⟩
 |ret=>intro W K r S M S' p c F Mm h;exact⟨.ret,c,S,M,S',p,h,rfl,F,Mm,aS _⟩
 |scope a fi=>intro W K r S M S' p c F Mm h;exact fi W K r S M S' p c F Mm h
 |cut ct a fi=>
  intro W K r S M S' p c F Mm h;simp only[gD]at h;split at h
  .rename_i d hd;obtain⟨S0,M0,c1,g1,g2,g3⟩:=Mg hU hd F Mm;simp only[qJ,g1]at h;exact fi W K r S0 M0 _ p c1 g2 g3 h
  .cases h
 |ice t a fi=>
  intro W K r S M S' p c F Mm h;simp only[gD]at h;split at h
  .rename_i R hR;obtain⟨S1',p1,h1,h2,h3,h4⟩:=UA hU F hR Mm;obtain⟨fl,c2,S2,M2,S2',p2,g1,g2,g3,g4,g5⟩:=fi W K r R.1 R.2 S1' p1 c h2 h3 h;exact⟨fl,c2,S2,M2,S2',p2,g1,by simp only[TC.pc,fL,h1,g2],g3,g4,oi (runT_ok.pfreeze_next h1) g5⟩
  .cases h
 |other cd=>intro W K r S M S' p c F Mm h;cases h
def Lc(F:mZ U c S S')(Mm:MR U q c0 c M p): ∀{rs:au ResultVar} {ts:au Ty} {l:au (V U)},HZ U T S M rs ts=aa l->
    ∃vs,iG P S' p rs=aa vs/\List.map (λx=>wk x.1) vs=l.map (λv=>eA U v.t v.x)/\l.map (λv=>v.t)=ts/\
      (∀t v,rs=[.tmp t]->vs=[v]->v=S'.at t)/\(∀v w,vs=[w]->l=[v]->VR U v.t v.x w.1)/\(∀t gm w py v l',rs= .tmp t::gm->vs=w::py->l=v::l'->w=S'.at t/\VR U v.t v.x w.1)
 |[],[],l,h=>by
  simp only[HZ,aA]at h;subst h;exact⟨[],rfl,rfl,rfl,λ_ _ h=>(by cases h),λ_ _ h=>(by cases h),λ_ _ _ _ _ _ h=>(by cases h)⟩
 | .tmp t::rs,ty::ts,l,h=>by
  unfold HZ at h;split at h
  .rename_i v l' hv hl;cases h;obtain⟨h1,h2⟩:=mQ hU hv (F t).1;obtain⟨vs,g1,g2,g3,_,_,_⟩:=Lc F Mm hl;refine⟨S'.at t::vs,by simp only[iG,uH,g1],by rw[aO,aO,g2,h2.wk],by rw[aO,h1,g3],λt' v' e1 e2=>?_,λv' w e1 e2=>?_,λt' gm w py v' l'' e1 e2 e3=>?_⟩
   .cases e1;cases e2;rfl
   .cases e1;cases e2;exact h2
   .cases e1;cases e2;cases e3;exact⟨rfl,h2⟩
  .cases h
 | .cell a t::rs,ty::ts,l,h=>by
  unfold HZ at h;split at h
  .rename_i k off qg ty' l' hk fx hl;split at h
   .rename_i cv rr hf;split at h
    .rename_i w o hw;cases hb:w.t.beq ty&&ty.beq ty'&&ao o off with
     |false=>rw[hb]at h;cases h
     |true=>
      rw[hb]at h;simp only[aI,aA]at h;subst h;simp only[aC,dZ,aD]at hb;obtain⟨⟨hb1,hb2⟩,rfl⟩:=hb;have e1:=Ty.beq_eq hb1;have e2:=Ty.beq_eq hb2;subst e2;have hs:=(F a).1;rw[hk]at hs;obtain⟨e,id,m1,m2,m3⟩:=hs;obtain⟨e',m1',bn,cs,m2',bc,⟨c1,c2,c3⟩,_⟩:=Mm.bx k _ hf;rw[m1]at m1';cases m1';rw[m2]at m2';cases m2';obtain⟨wt,wx⟩:=w;have e1:wt=ty:=e1;subst e1;obtain⟨g1,_⟩:=zL hU hw (⟨c1,c2⟩:SR cv.t cv.x (cs.map (·.1)));obtain⟨v,k1,k2,k3,k4⟩:=BF hU hT fx g1;have fe:kW P p t (S'.at a).1=aa v:=by rw[m3];simp only[kW,bc];exact k1
      obtain⟨vs,g1,g2,g3,_,_,_⟩:=Lc F Mm hl;refine⟨(v,aj)::vs,by simp only[iG,uH,fe,aK,g1],by rw[aO,aO,g2,k2.wk],by rw[aO,g3],λt' v' e1 e2=>?_,λv' w e1 e2=>?_,λt' gm w py v' l'' e1 e2 e3=>?_⟩
      .cases e1
      .cases e1;cases e2;exact k2
      .cases e1
    .cases h
   .cases h
  .cases h
 |[],_::_,l,h=>by cases h
 | .tmp _::_,[],l,h=>by cases h
 | .cell _ _::_,[],l,h=>by cases h
omit hU hT in
def LG(Mm:MR U q c0 c M p): ∀{l:au (Sh×kA)} {bo:au kA} {j:Nat} {d:au (V U)},Rg U M l bo j=aa d->
    ∃m,fZ U l bo d=aa m/\(∀i x,m[i]?=aa x->∃e,c (j+i)=aa e/\D4 U c p e x)
 |[],[],j,d,h=>by
  simp only[Rg,aA]at h;subst h;exact⟨[],rfl,λi x h=>by simp at h⟩
 |(s,rr)::l,r::bo,j,d,h=>by
  have next: ∀{x0:BC U.D} {m:au (BC U.D)} {e:Ce},(∀i x,m[i]?=aa x->∃e,c (j+1+i)=aa e/\D4 U c p e x)->c j=aa e->D4 U c p e x0->∀i x,(x0::m)[i]?=aa x->∃e,c (j+i)=aa e/\D4 U c p e x:=by
   intro x0 m e g2 he k1 i x hx;cases i with
   |zero=>
    simp only[aU,aA]at hx;subst hx;exact⟨e,he,k1⟩
   |succ i=>
    rw[aT]at hx;have:=g2 i x hx
    rwa [show j+1+i=j+(i+1) by omega]at this
  unfold Rg at h;split at h
  .rename_i cont rs d' hf hd;obtain⟨e,he,id,cs,hid,bc,hcs,lj⟩:=Mm.bx j _ hf;obtain⟨m,g1,g2⟩:=LG Mm hd;split at h
   .rename_i t v;cases hb:v.t.beq t&&leR r rs with
    |false=>rw[hb]at h;cases h
    |true=>
     rw[hb]at h;simp only[aI,aA]at h;subst h;simp only[aC]at hb;exact⟨.bx (.val v) r::m,by simp only[fZ,g1],next g2 he ⟨id,cs,hid,bc,hcs,Lb hb.2 lj⟩⟩
   .rename_i f caps f' cj;cases hb:ao f f'&&As caps cj with
    |false=>rw[hb]at h;cases h
    |true=>
     rw[hb]at h;simp only[aI,aA]at h;subst h;simp only[aC,dZ,aD]at hb;have e2:=zO hb.2;rw[<-hb.1,<-e2]at hcs;exact⟨.bx (.cl f caps) []::m,by simp only[fZ,g1],next g2 he ⟨id,cs,hid,bc,hcs,λ_ _ h=>by cases h⟩⟩
   .cases h
  .rename_i et x d' hf hd;obtain⟨e,he,bh⟩:=Mm.bx j _ hf;obtain⟨m,g1,g2⟩:=LG Mm hd;split at h
   .rename_i t;cases hb:et.beq t with
    |false=>rw[hb]at h;cases h
    |true=>
     rw[hb]at h;simp only[aI,aA]at h;subst h;exact⟨.row et x::m,by simp only[fZ,g1],next g2 he bh⟩
   .cases h
  .cases h
 |[],_::_,j,d,h=>by cases h
 |_::_,[],j,d,h=>by cases h
end
section
variable{P:az}{U:iY}{T:TP U.D}{c c0:Cx}{q p:PSt}{M:TM U.D}{S:TS U.D}{S':PS}
def YY: ∀{l:au (Nat×Sh×kA)} {d rest:au (V U)} {S0:TS U.D},aD0 U l d=aa (S0,rest)->∀k,eM k (l.map (·.1))=aj->mY S0 k=(.no,[])
 |[],d,rest,S0,h,k,_=>by simp only[aD0,aA,aB]at h;rw[<-h.1];rfl
 |(t,s,r)::l,d,rest,S0,h,k,hk=>by
  unfold aD0 at h;split at h
  .rename_i x d' hx;split at h
   .rename_i S1 qw hS;simp only[aA,aB]at h;obtain⟨rfl,rfl⟩:=h;simp only[aO,eM,Bool.or_eq_false_iff]at hk;rw[FW (λe=>by rw[e,Nat.beq_refl]at hk;cases hk.1)]
    exact YY hS k hk.2
   .cases h
  .cases h
def Q3: ∀(ps:au (Sh×Bool)) (i k:Nat),eM k ((cutOf.psL ps i).map (·.1))=(ak (i<=k)&&ak (k<i+ps.length))
 |[],i,k=>by simp[cutOf.psL,eM]
 |(s,o)::ps,i,k=>by
  simp only[cutOf.psL,aO,eM,Q3 ps (i+1) k,aM,dZ];rw[Bool.eq_iff_iff];simp only[d7,aC,aD];omega
def Sv: ∀(ps:au (Sh×kA)) (i k:Nat),eM k ((cutOf.bxL ps i).map (·.1))=(ak (i<=k)&&ak (k<i+ps.length))
 |[],i,k=>by simp[cutOf.bxL,eM]
 |(s,o)::ps,i,k=>by
  simp only[cutOf.bxL,aO,eM,Sv ps (i+1) k,aM,dZ];rw[Bool.eq_iff_iff];simp only[d7,aC,aD];omega
def aNC{k:Nat}{s:Sh}{rr:kA}{l:au (Nat×Sh×kA)}(qc: ∀t,s≠ .row t){d2:au (V U)}:DJ U ((k,s,rr)::l) d2=(match Tq U s d2 with|some (x,d')=>(match DJ U l d' with|some (M,qw)=>aa ((k,.bx x rr)::M,qw)|none=>ae)|none=>ae):=by
 cases s with
 |row t=>exact(qc t rfl).elim
 |_=>cases d2<;>first|rfl|(simp only[DJ])
def YZ: ∀{l:au (Nat×Sh×kA)} {d rest:au (V U)} {M0:au (Nat×BC U.D)},DJ U l d=aa (M0,rest)->∀k,eB M0 k=ae->eM k (l.map (·.1))=aj
 |[],d,rest,M0,h,k,_=>rfl
 |(t,s,r)::l,d,rest,M0,h,k,hk=>by
  have fin: ∀{b:BC U.D} {M1:au (Nat×BC U.D)} {d':au (V U)},M0=(t,b)::M1->DJ U l d'=aa (M1,rest)->eM k (((t,s,r)::l).map (·.1))=aj:=by
   intro b M1 d' e h1;subst e;rw[iJ]at hk;by_cases e1:k=t
   .rw[bJ e1]at hk;cases hk
   .rw[bI e1]at hk;simp only[aO,eM,YZ h1 k hk,Bool.or_false];exact aDE λe=>e1 e.symm
  have other:(∀t',s≠ .row t')->eM k (((t,s,r)::l).map (·.1))=aj:=by
   intro qc;rw[aNC qc]at h;split at h
   .rename_i x d' _;split at h
    .rename_i M1 qw h1;simp only[aA,aB]at h;obtain⟨e1,e2⟩:=h;subst e2;exact fin e1.symm h1
    .cases h
   .cases h
  cases s with
  |row t'=>
   cases d with
   |nil=>cases h
   |cons v d=>
    obtain⟨vt,vx⟩:=v;cases vt with
    |sl e=>
     simp only[DJ]at h;cases hb:e.beq t' with
     |false=>rw[hb]at h;cases h
     |true=>
      rw[hb]at h;simp only[aI]at h;split at h
      .rename_i M1 d' h1;simp only[aA,aB]at h;obtain⟨e1,e2⟩:=h;subst e2;exact fin e1.symm h1
      .cases h
    |_=>cases h
  |_=>exact other λ_ e=>by cases e
def sY{n:Nat}: ∀{l:au (Sh×kA)} {rs:au kA} {d:au (V U)} {m:au (BC U.D)},fZ U l rs d=aa m->II n l=ah->∀(i f:Nat) (caps:au Nat) (r:kA),m[i]?=aa (.bx (.cl f caps) r)->yK caps n=ah
 |[],[],[],m,h,_,i,f,caps,r,hm=>by simp only[fZ,aA]at h;subst h;simp at hm
 |(.val t,rr)::l,r::rs,v::d,m,h,ho,i,f,caps,r',hm=>by
  simp only[fZ]at h;split at h
  .rename_i m' h1;cases h;cases i with
   |zero=>simp at hm
   |succ i=>rw[aT]at hm;exact sY h1 ho i f caps r' hm
  .cases h
 |(.cl f0 caps0,rr)::l,r::rs,d,m,h,ho,i,f,caps,r',hm=>by
  simp only[fZ]at h;simp only[II,aC]at ho;split at h
  .rename_i m' h1;cases h;cases i with
   |zero=>
    simp only[aU,aA,BC.bx.injEq,SV.cl.injEq]at hm;rw[<-hm.1.2];exact ho.1
   |succ i=>rw[aT]at hm;exact sY h1 ho.2 i f caps r' hm
  .cases h
 |[],_::_,_,_,h,_,_,_,_,_,_=>by simp[fZ]at h
 |[],[],_::_,_,h,_,_,_,_,_,_=>by simp[fZ]at h
 |(s,rr)::l,[],d,m,h,_,_,_,_,_,_=>by cases s<;>simp[fZ]at h
 |(.val t,rr)::l,r::rs,[],m,h,_,_,_,_,_,_=>by simp[fZ]at h
 |(.tup _,_)::_,_::_,_,_,h,_,_,_,_,_,_=>by simp[fZ]at h
 |(.nl,_)::_,_::_,_,_,h,_,_,_,_,_,_=>by simp[fZ]at h
 |(.lc _ _ _,_)::_,_::_,_,_,h,_,_,_,_,_,_=>by simp[fZ]at h
 |(.ep _,_)::_,_::_,_,_,h,_,_,_,_,_,_=>by simp[fZ]at h
 |(.rw _,_)::_,_::_,_,_,h,_,_,_,_,_,_=>by simp[fZ]at h
 |(.nf,_)::_,_::_,_,_,h,_,_,_,_,_,_=>by simp[fZ]at h
 |(.row t,rr)::l,r::rs,⟨.sl e,x⟩::d,m,h,ho,i,f,caps,r',hm=>by
  simp only[fZ]at h;split at h
  .rename_i m' h1;cases h;cases i with
   |zero=>simp at hm
   |succ i=>rw[aT]at hm;exact sY h1 ho i f caps r' hm
  .cases h
 |(.row t,rr)::l,r::rs,[],m,h,_,_,_,_,_,_=>by simp[fZ]at h
 |(.row t,rr)::l,r::rs,⟨.int _,x⟩::d,m,h,_,_,_,_,_,_=>by simp[fZ]at h
 |(.row t,rr)::l,r::rs,⟨.bool,x⟩::d,m,h,_,_,_,_,_,_=>by simp[fZ]at h
 |(.row t,rr)::l,r::rs,⟨.str,x⟩::d,m,h,_,_,_,_,_,_=>by simp[fZ]at h
 |(.row t,rr)::l,r::rs,⟨.rc _,x⟩::d,m,h,_,_,_,_,_,_=>by simp[fZ]at h
 |(.no,_)::_,_::_,_,_,h,_,_,_,_,_,_=>by simp[fZ]at h
def zD: ∀{l:au (Sh×kA)} {rs:au kA} {d:au (V U)} {m:au (BC U.D)},fZ U l rs d=aa m->∀(i:Nat),m[i]?=aa .gone->False
 |l,rs,d,m,h,i,hm=>by
  unfold fZ at h;split at h
  .simp only[aA]at h;subst h;simp at hm
  .split at h
   .rename_i m' h1;cases h;cases i with
    |zero=>simp at hm
    |succ i=>rw[aT]at hm;exact zD h1 i hm
   .cases h
  .split at h
   .rename_i m' h1;cases h;cases i with
    |zero=>simp at hm
    |succ i=>rw[aT]at hm;exact zD h1 i hm
   .cases h
  .split at h
   .rename_i m' h1;cases h;cases i with
    |zero=>simp at hm
    |succ i=>rw[aT]at hm;exact zD h1 i hm
   .cases h
  .cases h
def Kr{n:Nat}: ∀{l:au PV},(∀x∈l,below n x=ah)->kG n l=ah
 |[],_=>rfl
 |x::l,h=>by
  show(below n x&&kG n l)=ah;rw[h x (aH ..),Kr λy hy=>h y (aG _ hy)];rfl
def aIQ{n:Nat}{x:PV}(h:gd (wk x)=ah):below n x=ah:=by
 cases x with
 |agg cs=>simp[wk,gd]at h
 |tup cs=>simp[wk,gd]at h
 |ptr i o=>simp[wk,gd]at h
 |rs i o l=>simp[wk,gd]at h
 |mp i=>simp[wk,gd]at h
 |fn f a b=>simp[wk,gd]at h
 |_=>rfl
def GB{n:Nat}: ∀{caps:au Nat} {ps:au PV},At c caps ps->(∀k e id,k∈caps->c k=aa e->e.id=aa id->id<n)->kG n ps=ah
 |[],[],_,_=>rfl
 |k::ks,x::ps,⟨⟨e,id,h1,h2,h3⟩,h4⟩,hb=>by
  simp only[kG,GB h4 (λk' e id hk=>hb k' e id (aG _ hk)),bF]
  rw[h3];simp only[below,iW,aD];exact hb k e id (aH ..) h1 h2
 |[],_::_,h,_=>h.elim
 |_::_,[],h,_=>h.elim
def CZ{n:Nat}: ∀{l:au Nat},yK l n=ah->∀k∈l,k<n
 |x::l,h,k,hk=>by
  simp only[yK,aC,iW,aD]at h;rcases ik.1 hk with rfl|hk
  .exact h.1
  .exact CZ h.2 k hk
def Sq{c':Cx}: ∀{caps:au Nat} {ps:au PV},At c caps ps->(∀k e,k∈caps->c k=aa e->c' k=aa e)->At c' caps ps
 |[],[],_,_=>trivial
 |k::ks,x::ps,⟨⟨e,id,h1,h2,h3⟩,h4⟩,hb=>⟨⟨e,id,hb k e (aH ..) h1,h2,h3⟩,Sq h4 λk' e hk=>hb k' e (aG _ hk)⟩
 |[],_::_,h,_=>h.elim
 |_::_,[],h,_=>h.elim
def aAJ{O:HU}{s:Tf}{d:au (V U)}{args:au (PV×Bool)}{cc:Cx}{S0:TS U.D}{M0:TM U.D}(bw:aOG O s=ah)(hf:ao s.f O.n=ah)(hin:HH U s d p cc args S0 M0):
    s.bx=[]/\s.bo=[]/\s.rs=[.str]/\s.own=aj/\∃a b o1 o2,d=[⟨.int .i64,a⟩,⟨.int .i64,b⟩]/\args=[(.v (.int .i64 a),o1),(.v (.int .i64 b),o2)]:=by
 obtain⟨f,ps,bx,bo,rs,own⟩:=s;unfold aOG at bw;rw[hf,aI]at bw;split at bw
 .rename_i e1 e2 e3 e4 e5;simp only at e1 e2 e3 e4 e5;subst e1;subst e2;subst e3;subst e4;subst e5;refine⟨rfl,rfl,rfl,rfl,?_⟩;have cb:=hin.start;have hu: ∀(t:Ty) (x:Den U.D t) (l:au (V U)),Tq U (.val (.int .i64)) (⟨t,x⟩::l)=bif t.beq (.int .i64)then aa (.val ⟨t,x⟩,l)else ae:=λ_ _ _=>rfl
  simp only[KT,cutOf,cutOf.psL,cutOf.bxL,aD0]at cb
  match d,cb,hin with
  |[],cb,_=>cases cb
  |[⟨t,x⟩],cb,_=>
   rw[hu]at cb;cases h1:t.beq (.int .i64)with
   |false=>rw[h1]at cb;cases cb
   |true=>rw[h1]at cb;cases cb
  |⟨t,x⟩::⟨u,y⟩::r,cb,hin=>
   rw[hu]at cb;cases h1:t.beq (.int .i64)with
   |false=>rw[h1]at cb;cases cb
   |true=>
    rw[h1,aI]at cb;simp only[hu]at cb;cases h2:u.beq (.int .i64)with
    |false=>rw[h2]at cb;cases cb
    |true=>
     have e1:=Ty.beq_eq h1;have e2:=Ty.beq_eq h2;subst e1;subst e2;rw[h2,aI]at cb;cases r with
     |cons z r=>cases cb
     |nil=>
      simp only[DJ,aA,aB]at cb;obtain⟨g1,g2⟩:=cb
      match args,hin.len,hin.args with
      |[(p1,o1),(p2,o2)],_,ha=>
       have a1:=(ha 0 _ rfl).1;have a2:=(ha 1 _ rfl).1;rw[<-g1]at a1 a2;refine⟨x,y,o1,o2,rfl,?_⟩;have b1:p1= .v (.int .i64 x):=jP a1;have b2:p2= .v (.int .i64 y):=jP a2;rw[b1,b2]
 .cases bw
def Ri{O:HU}{s:Tf}{d:au (V U)}{args:au (PV×Bool)}{cc:Cx}{S0:TS U.D}{M0:TM U.D}(bw:aOG O s=ah)(hn:ao s.f O.n=aj)(hf:ao s.f O.m=ah)(hin:HH U s d p cc args S0 M0):
    s.bx=[]/\s.bo=[]/\s.rs=[.bool]/\s.own=aj/\d=[]/\args=[]:=by
 obtain⟨f,ps,bx,bo,rs,own⟩:=s;unfold aOG at bw;rw[hn,aJ,hf,aI]at bw;split at bw
 .rename_i e1 e2 e3 e4 e5;simp only at e1 e2 e3 e4 e5;subst e1;subst e2;subst e3;subst e4;subst e5;refine⟨rfl,rfl,rfl,rfl,?_,?_⟩
  .have cb:=hin.start;simp only[KT,cutOf,cutOf.psL,cutOf.bxL,aD0]at cb;cases d with
   |nil=>rfl
   |cons x d=>simp only[DJ]at cb;cases cb
  .exact List.length_eq_zero_iff.1 hin.len
 .cases bw
variable(hU:jA U)(hT:tR P U T)
include hU hT
omit hU hT in
def aFj{own:Bool}{a:au (V U)}(h: ∀v,a≠ [v]): ∃rs0,DN U own a=(.tup a,rs0)/\(rs0=[]∨∃v b,a=[v,⟨.bool,b⟩]/\own=ah/\b=ah/\rs0=[(0,ah)]):=by
 unfold DN;split
 .rename_i v;exact(h v rfl).elim
 .rename_i v b;refine⟨_,rfl,?_⟩;cases own with
  |false=>exact .inl rfl
  |true=>
   cases b with
   |false=>exact .inl rfl
   |true=>exact .inr ⟨v,ah,rfl,rfl,rfl,rfl⟩
 .exact⟨[],rfl,.inl rfl⟩
def aEO{tc:rM U.D}{pc:jZ}(ih:iV U T tc pc){L:Nat}{s:Tf}{code:TC}{rs:au ResultVar}(hb1:s.bx.length<=100)(hb2:II s.bx.length s.bx=ah){d out:au (V U)}
    (h:qJ U (cutOf s) (λS M=>gD U T tc L code S M (aPE U T s rs)) d=aa out) {p:PSt} {cc:Cx} {args:au (PV×Bool)} {S0:TS U.D} {M0:TM U.D} (hin:HH U s d p cc args S0 M0):
    ∃pv own p',JB P pc L code.pc rs args p=aa (pv,own,p')/\aB5 U s out p cc pv own p':=by
 simp only[qJ,hin.start]at h;have cb:=hin.start;unfold KT at cb;split at cb
 .rename_i Sa da hSa;split at cb
  .rename_i Ma hMa;simp only[aA,aB]at cb;obtain⟨e1,e2⟩:=cb;subst e1;subst e2;have gy: ∀k e,cc k=aa e->k<s.bx.length:=λk e hk=>by
    rcases b8 k s.bx.length with h|h
    .exact h
    .rw[hin.dom k h]at hk;cases hk
   have F0:mZ U cc Sa (B0 args 0 .none):=by
    intro k;rw[R6];by_cases hk:k<args.length
    .rw[bJ ⟨Nat.zero_le _,by omega⟩,Nat.sub_zero,aV hk]
     exact hin.args k _ (aV hk)
    .rw[bI (by omega)]
     have:mY Sa k=(.no,[]):=YY hSa k (by
      show eM k ((cutOf.psL s.ps 0).map (·.1))=aj;rw[Q3];have:=hin.len;simp;omega)
     rw[this];exact⟨trivial,cJ _ _⟩
   have M0':MR U p cc cc ⟨Ma,[]⟩ (a6u p):=by
    refine⟨λk hk=>?_,λk b hk=>?_,hin.lt,hin.inj,aS _,λk e h1 _=>h1,λk e id h1 h2 h3=>?_,λid _ _=>rfl,λid hi=>(by cases hi),λid hi=>(by cases hi)⟩
    .have:=YZ hMa k hk;rw[show(cutOf s).bx=cutOf.bxL s.bx 0 from rfl,Sv]at this
     refine hin.dom k ?_;simp at this;omega
    .obtain⟨e,h1,h2⟩:=hin.bx k b hk;exact⟨e,h1,Ag h2 λ_ _=>rfl⟩
    .have:=gy k e h1;omega
   obtain⟨fl,c1,S1,M1,S1',p1,h1,h2,h3,h4,h5⟩:=aH5 hU hT ih L code (au (V U)) (aPE U T s rs) out Sa ⟨Ma,[]⟩ (B0 args 0 .none) (a6u p) cc F0 M0' h;have gl:(∀id,fl≠ .exit id)/\∃a b,HZ U T S1 M1 rs s.rs=aa a/\Rg U M1 s.bx s.bo 0=aa b/\Mh U S1 rs s.own s.rs a=ah/\out=a++b:=by
    have key: ∀(r:f9 (au (V U))),r=(match HZ U T S1 M1 rs s.rs,Rg U M1 s.bx s.bo 0 with|some a,aa b=>bif Mh U S1 rs s.own s.rs a then aa (a++b)else ae|_,_=>ae)->r=aa out->∃a b,HZ U T S1 M1 rs s.rs=aa a/\Rg U M1 s.bx s.bo 0=aa b/\Mh U S1 rs s.own s.rs a=ah/\out=a++b:=by
     intro r e1 e2;rw[e1]at e2;split at e2
     .rename_i a b ha bm;cases hw:Mh U S1 rs s.own s.rs a with
      |false=>rw[hw]at e2;cases e2
      |true=>rw[hw]at e2;cases e2;exact⟨a,b,ha,bm,hw,rfl⟩
     .cases e2
    cases fl with
    |exit id=>cases h1
    |normal=>exact⟨λ_ e=>(by cases e),key _ rfl h1⟩
    |ret=>exact⟨λ_ e=>(by cases e),key _ rfl h1⟩
   obtain⟨bi,a,b,ha,bm,hw,rfl⟩:=gl;obtain⟨vs,r1,r2,r3,r4,r5,r6⟩:=Lc hU hT h3 h4 ha;obtain⟨m,o1,o2⟩:=LG h4 bm;simp only[ir]at o2;have hal:a.length=s.rs.length:=by rw[<-r3,iw]
   have htake:(a++b).take s.rs.length=a:=by rw[<-hal];exact List.take_left
   have gh:(a++b).drop s.rs.length=b:=by rw[<-hal];exact List.drop_left
   have gc:rR U cc (DN U s.own a) ((eS vs).1,(eS vs).2)/\below p.next (eS vs).1=ah:=by
    have hlen:vs.length=a.length:=by have:=congrArg List.length r2;simpa using this
    have htup:(∀v,a≠ [v])->(rR U cc (DN U s.own a) ((eS vs).1,(eS vs).2)/\below p.next (eS vs).1=ah):=by
     intro hn1;obtain⟨rs0,e1,hrs0⟩:=aFj (own:=s.own) hn1;have e2: ∃fg,eS vs=(.tup (wks (vs.map (·.1))),fg)/\∀w w' l,vs=w::w'::l->fg=((w.2||lV w.1)&& !LX w.1&&aHh w.1):=by
      cases vs with
      |nil=>exact⟨aj,rfl,λ_ _ _ h=>by cases h⟩
      |cons w vs=>cases vs with
       |cons w' vs=>exact⟨_,rfl,λ_ _ _ h=>by cases h;rfl⟩
       |nil=>
        cases a with
        |nil=>simp at hlen
        |cons x a=>cases a with
         |nil=>exact(hn1 x rfl).elim
         |cons y a=>simp at hlen
     obtain⟨fg,e2,vz⟩:=e2;have e3:wks (vs.map (·.1))=a.map λv=>eA U v.t v.x:=by rw[oG,List.map_map];exact r2
     rw[e1,e2];refine⟨⟨⟨_,rfl,e3⟩,?_⟩,?_⟩
     .rcases hrs0 with rfl|⟨v,b,rfl,ho,rfl,rfl⟩
      .exact cJ _ _
      ·
       obtain⟨w,w',rfl⟩: ∃w w',vs=[w,w']:=by
        match vs,hlen with
        |[w,w'],_=>exact⟨w,w',rfl⟩
       have hF:aGs U S1 rs=ah:=by
        cases hf:aGs U S1 rs with
        |true=>rfl
        |false=>simp[Mh,ho,hf,bOl]at hw
       have fy:a8k s.rs=ah:=by
        simp only[Mh,ho,hF,aI,d7,aC]at hw;rcases hw with⟨h6,_⟩|h6
        .rw[<-r3]at h6;exact absurd (show Rm [v.t,Ty.bool]=ah from h6) (by simp[Rm])
        .exact h6
       obtain⟨t,gm,pi,cb⟩: ∃t gm,rs= .tmp t::gm/\rQ (mY S1 t).2=ah:=by
        unfold aGs at hF;split at hF
        .exact⟨_,_,rfl,hF⟩
        .cases hF
       obtain⟨md,li⟩:=r6 t gm w [w'] v _ pi rfl rfl;have co: ∃e,v.t= .sl e:=by
        rw[<-r3]at fy;cases jb:v.t with
        |sl e=>exact⟨e,rfl⟩
        |_=>rw[aO,jb]at fy;cases fy
       obtain⟨e,co⟩:=co;have mz:=qB li (by rw[co];rfl)
       have hN:aHh w.1=ah:=by
        obtain⟨vt,vx⟩:=v;have co:vt= .sl e:=co;subst co;obtain⟨_,hl⟩:=vN li;rcases hl with⟨_,h8⟩|⟨_,h8⟩
        .rcases h8 with h8|h8|h8<;>rw[h8]<;>rfl
        .rw[h8];rfl
       have vz:=vz w w' [] rfl;rcases(h3 t).2 0 ah (uE cb)with⟨g1,_⟩|⟨_,_,g1,g2⟩
       .rw[<-md,mz]at g1;cases g1
       .rw[<-md]at g1 g2;have hfg1:fg=ah:=by rw[vz,g1,g2 rfl,hN];rfl
        intro o st hi;simp only[ig,aB]at hi;refine .inr ⟨hi.1,rfl,by rw[hfg1];rfl,λ_=>?_⟩
        rw[e3];show LX (.tup (eA U v.t v.x::_))=aj;have hg:gd (eA U v.t v.x)=ah:=by
         obtain⟨vt,vx⟩:=v;have co:vt= .sl e:=co;subst co;exact fK _ _
        have:=CM hg;rw[aPk];generalize eA U v.t v.x=y at this;cases y with
        |sl z es=>cases es with
         |nil=>cases this
         |cons _ _=>rfl
        |_=>rfl
     show kG p.next _=ah
     rw[e3,gJ];intro x hx;obtain⟨v,_,rfl⟩:=ix.1 hx;exact Sb hU _ _ _
    cases a with
    |nil=>exact htup λv e=>by cases e
    |cons v a=>
     cases a with
     |cons y a=>exact htup λv e=>by cases e
     |nil=>
      cases vs with
      |nil=>simp at hlen
      |cons w vs=>
       cases vs with
       |cons y vs=>simp at hlen
       |nil=>
        have hv:=r5 v w rfl rfl;refine⟨⟨aT3 hU hv,?_⟩,?_⟩
        .cases ho:s.own with
         |false=>exact cJ _ _
         |true=>
          have hB:a8k s.rs=aj:=by rw[<-r3];cases jb:v.t<;>simp[a8k,jb]
          have hw1:a1h U S1 rs=ah/\Rm s.rs=ah:=by
           cases hf:aGs U S1 rs with
           |true=>
            simp only[Mh,ho,hf,aI,hB,Bool.or_false,aC]at hw;exact⟨hw.2,hw.1⟩
           |false=>simp[Mh,ho,hf,hB]at hw
          obtain⟨hw1,hw2⟩:=hw1;have pi: ∃t,rs=[.tmp t]/\rQ (mY S1 t).2=ah:=by
           unfold a1h at hw1;split at hw1
           .exact⟨_,rfl,hw1⟩
           .cases hw1
          obtain⟨t,rfl,hst2⟩:=pi;have md:=r4 t w rfl rfl;have co:mW v.t=aj:=by
           have hw3:Rm [v.t]=ah:=by rw[<-r3]at hw2;exact hw2
           cases jb:v.t with
           |sl t=>rfl
           |_=>rw[jb]at hw3;cases hw3
          have mz:=qB hv co;rcases(h3 t).2 0 ah (uE hst2)with⟨g1,_⟩|⟨_,_,g1,g2⟩
          .rw[<-md,mz]at g1;cases g1
          .rw[<-md]at g1 g2;intro o st hi;have hi:(o,st)∈T9 ah:=hi;simp only[T9,ig,aB]at hi;refine .inr ⟨hi.1,?_,?_,λ_=>?_⟩
           .show isAgg (wk w.1)=aj;rw[hv.wk,<-hv.wk];cases hh:w.1 with
            |agg cs=>rw[hh]at mz;cases mz
            |sl z es=>cases es<;>rfl
            |_=>rfl
           .show(((w.2||lV w.1)&& !LX w.1)||lV (wk w.1))=ah;rw[g1,g2 rfl];rfl
           .exact aHi w.1
        .show below p.next (wk w.1)=ah
         rw[hv.wk];exact Sb hU _ _ _
   obtain⟨hslr,hbel⟩:=gc;have hmlen:m.length=s.bx.length:=wZ o1;have hold: ∀id,id∈(p1.dirty.filter λid=>d9 id p.next)↔id∈p1.dirty/\id<p.next:=λid=>by
    rw[List.mem_filter];simp only[iW,aD]
   have hidx: ∀k e id,cc k=aa e->e.id=aa id->∃x,m[k]?=aa x/\c1 k=aa e/\D4 U c1 p1 e x:=by
    intro k e id hk hid;have hlt:=gy k e hk;obtain⟨e',g1,g2⟩:=o2 k m[k] (aV (by omega))
    have:=h4.bor k e' g1 (by omega)
    rw[hk]at this;cases this;exact⟨_,aV (by omega),g1,g2⟩
   have pk: ∀id,id<p.next->p1.get id=p1.mem.get id:=λid hi=>by
    have:d9 id p1.next=ah:=by rw[iW,aD];exact Nat.lt_of_lt_of_le hi h5
    simp only[PSt.get,this,aI]
   have sw:(p1.dirty.filter λid=>d9 id p.next).all (yF p.next p1.mem)=ah:=by
    rw[bK];intro id hi;obtain⟨hd,hlt⟩:=(hold id).1 hi;obtain⟨k,e,g1,g2⟩:=h4.dirty id hd hlt;obtain⟨x,g3,g4,g5⟩:=hidx k e id g1 g2;cases x with
    |gone=>exact(zD o1 k g3).elim
    |row t l=>
     obtain⟨_,hz,⟨g6,_⟩|⟨bn,g6,g7⟩⟩:=g5
     .rw[g2]at g6;cases g6
     rw[g2]at g6;cases g6;rw[pk id hlt]at g7;simp only[yF,g7,vF];exact Kr λy hy=>by
      obtain⟨y',nv,hx⟩:=List.mem_flatMap.1 hy;obtain⟨a,_,rfl⟩:=ix.1 nv;exact FY (bK.1 (vW hU t a) y hx)
    |bx sv rr=>
    obtain⟨bn,cs,g6,g7,g8,_⟩:=g5;rw[g2]at g6;cases g6;have g5:=g7;have g6:=g8;rw[pk id hlt]at g5;simp only[yF,g5,vF,bK];intro y hy;cases sv with
    |val v=>
     obtain⟨k1,k2,k3⟩:=g6;exact aIQ ((⟨k1,k2⟩:SR v.t v.x (cs.map (·.1))).gd hU (ix.2 ⟨y,hy,rfl⟩))
    |cl f caps=>
     obtain⟨pv,bb,e1,ps,e2,e3⟩:=g6;rw[e1,ig]at hy;rw[hy,e2];show(kG p.next []&&kG p.next ps)=ah
     rw[GB e3 λk' e' bn jg h6 h7=>hin.lt k' e' bn (h4.bor k' e' h6 (by have:=CZ (sY o1 hb2 k f caps rr g3) k' jg;omega)) h7]
     rfl
    |nf=>
     obtain⟨bb,e1⟩:=g6;rw[e1,ig]at hy;rw[hy];rfl
    |_=>exact g6.elim
   have jt:PI.settle p (eS vs).1 p1=⟨(p1.dirty.filter λid=>d9 id p.next).foldr (aIS p1.mem) p.mem,p.next,(p1.dirty.filter λid=>d9 id p.next).foldr HS p.dirty,(p1.wr.filter λid=>d9 id p.next).foldr HS p.wr⟩:=by
    unfold PI.settle;rw[hbel,sw];rfl
   have hfm:=CN (mem:=p.mem) (q:=p1.mem) (old:=p1.dirty.filter λid=>d9 id p.next) (λid hi e=>by
    have:=bK.1 sw id hi;simp only[yF,e]at this;cases this)
   have bc: ∀id,id<p.next->(PI.settle p (eS vs).1 p1).get id=if id∈(p1.dirty.filter λid=>d9 id p.next)then p1.get id else p.get id:=by
    intro id hi;rw[jt];have hbl:d9 id p.next=ah:=by rw[iW,aD];exact hi
    show(bif d9 id p.next then _ else ae)=_
    rw[hbl,aI,hfm id,pk id hi];by_cases h6:id∈(p1.dirty.filter λid=>d9 id p.next)
    .rw[bJ h6,bJ h6]
    .rw[bI h6,bI h6];simp only[PSt.get,hbl,aI]
   have su: ∀id,id<p.next->(PI.settle p (eS vs).1 p1).get id=p1.get id:=by
    intro id hi;rw[bc id hi];by_cases h6:id∈(p1.dirty.filter λid=>d9 id p.next)
    .rw[bJ h6]
    .rw[bI h6];exact(h4.old id hi λhd=>h6 ((hold id).2 ⟨hd,hi⟩)).symm
   refine⟨(eS vs).1,(eS vs).2,PI.settle p (eS vs).1 p1,?_,?_⟩
   .have:JB P pc L code.pc rs args p=aa ((eS vs).1,(eS vs).2,PI.settle p (eS vs).1 p1):=by
     simp only[JB,h2];cases fl with
     |exit id=>exact(bi id rfl).elim
     |normal=>simp only[r1]
     |ret=>simp only[r1]
    exact this
   .refine⟨by rw[htake];exact hslr,⟨m,by rw[gh];exact o1,λj x hj=>?_⟩,by rw[jt],λid hi du=>?_,λid hi du=>?_,λid hi=>?_,λid hi=>?_,λid hi=>?_⟩
    .obtain⟨e,g1,g2⟩:=o2 j x hj;have hjl:j<m.length:=by
      rcases b8 j m.length with h|h
      .exact h
      .rw[ed h]at hj;cases hj
     have hcj:=h4.bor j e g1 (by omega)
     refine⟨e,hcj,?_⟩;cases x with
     |gone=>trivial
     |row t l=>
      obtain⟨k1,k2,k3⟩:=g2;refine⟨k1,k2,?_⟩;rcases k3 with k3|⟨id,k3,k4⟩
      .exact .inl k3
      .exact .inr ⟨id,k3,by rw[su id (hin.lt j e id hcj k3)];exact k4⟩
     |bx sv rr=>
     obtain⟨id,cs,g2,g3,g4,g5⟩:=g2;refine⟨id,cs,g2,by rw[su id (hin.lt j e id hcj g2)];exact g3,?_,g5⟩
     cases sv with
     |cl f caps=>
      obtain⟨pv,bb,e1,ps,e2,e3⟩:=g4;exact⟨pv,bb,e1,ps,e2,Sq e3 λk' e' jg h6=>h4.bor k' e' h6 (by have:=CZ (sY o1 hb2 j f caps rr hj) k' jg;omega)⟩
     |_=>exact g4
    .rw[bc id hi,bI];intro h6;obtain⟨hd,hlt⟩:=(hold id).1 h6;obtain⟨k,e,g1,g2⟩:=h4.dirty id hd hlt;exact du k e g1 g2
    .rw[jt]at du;have du:id∉(p1.dirty.filter λid=>d9 id p.next).foldr HS p.dirty:=du
     rw[fT]at du;rw[bc id hi,bI λh6=>du (.inl h6)]
    .rw[jt]at hi;have hi:id∈(p1.dirty.filter λid=>d9 id p.next).foldr HS p.dirty:=hi
     rw[fT]at hi;rcases hi with h6|h6
     .obtain⟨hd,hlt⟩:=(hold id).1 h6;exact .inr (h4.dirty id hd hlt)
     .exact .inl h6
    .rw[jt];show id∈(p1.dirty.filter λid=>d9 id p.next).foldr HS p.dirty
     rw[fT];exact .inr hi
    .rw[jt]at hi;have hi:id∈(p1.wr.filter λid=>d9 id p.next).foldr HS p.wr:=hi
     rw[fT]at hi;rcases hi with h6|h6
     .rw[List.mem_filter,iW,aD]at h6;exact .inr ((h4.wr id h6.1).2 h6.2)
     .exact .inl h6
  .cases cb
 .cases cb
def aIF{G:aRp}{GP:aKQ}(hG: ∀i s code rs,T.sig i=aa s->G i=aa (code,rs)->GP s.f=aa (code.pc,rs))(hA: ∀i s,T.sig i=aa s->OC P s.f s.ps.length=ah)(L:Nat): ∀n,iV U T (yA U T G L n) (vD P T.orc GP L n):=by
 intro n;induction n with
 |zero=>intro inst s d out hs h;cases h
 |succ n ih=>
  intro inst s d out hs h p cc args S0 M0 hin;simp only[yA,hs]at h;split at h
  .rename_i s' code rs jd hg;cases jd;cases hb:aOG T.orc s&&aq s.bx.length 100&&II s.bx.length s.bx with
   |false=>rw[hb]at h;cases h
   |true=>
    rw[hb]at h;simp only[aC,d8]at hb;obtain⟨⟨hb0,hb1⟩,hb2⟩:=hb;rw[aI]at h;split at h
    .rename_i x hx;simp only[aA]at h;subst h;unfold aOz at hx;cases hf:ao s.f T.orc.n with
     |false=>
      rw[hf,aJ]at hx;cases hm:ao s.f T.orc.m with
      |false=>rw[hm]at hx;cases hx
      |true=>
       obtain⟨k1,k2,k3,k4,rfl,rfl⟩:=Ri hb0 hf hm hin;rw[hm,aI]at hx;cases hx;refine⟨.v (.bool ah),aj,p,?_,?_⟩
       .simp only[vD,aOA,hf,hm,aI,aJ,bJF]
       .refine⟨?_,⟨[],?_,λj x hj=>(by cases hj)⟩,rfl,λ_ _ _=>rfl,λ_ _ _=>rfl,λid h=> .inl h,λid h=>h,λid h=> .inl h⟩
        .rw[k3,k4];exact⟨gF _,cJ _ _⟩
        .rw[k3,k1,k2];rfl
     |true=>
      obtain⟨k1,k2,k3,k4,a,b,o1,o2,rfl,rfl⟩:=aAJ hb0 hf hin;rw[hf,aI]at hx;simp only at hx;rw[aF]at hx;obtain⟨x,hx,rfl⟩:=hx;refine⟨.str x,aj,p,?_,?_⟩
      .simp only[vD,aOA,hf,aI,hx,aK,bJF]
      .refine⟨?_,⟨[],?_,λj x hj=>(by cases hj)⟩,rfl,λ_ _ _=>rfl,λ_ _ _=>rfl,λid h=> .inl h,λid h=>h,λid h=> .inl h⟩
       .rw[k3,k4];exact⟨GZ _,cJ _ _⟩
       .rw[k3,k1,k2];rfl
    rename_i ca;have du:aOA T.orc s.f args=ae/\aTv T.orc s.f args=ah:=by
     unfold aOA aTv;cases hf:ao s.f T.orc.n with
     |false=>
      cases hm:ao s.f T.orc.m with
      |false=>exact⟨rfl,rfl⟩
      |true=>
       obtain⟨k1,k2,k3,k4,rfl,rfl⟩:=Ri hb0 hf hm hin;unfold aOz at ca;rw[hf,aJ,hm,aI]at ca;cases ca
     |true=>
      obtain⟨k1,k2,k3,k4,a,b,o1,o2,rfl,rfl⟩:=aAJ hb0 hf hin;unfold aOz at ca;rw[hf,aI]at ca;exact⟨ca,rfl⟩
    have px:OC P s.f args.length=ah:=by rw[hin.len];exact hA _ _ hs
    have hGP:=hG inst s code rs hs hg;obtain⟨pv,own,p',g1,g2⟩:=aEO hU hT ih hb1 hb2 h hin;exact⟨pv,own,p',by simp only[vD,du.1,du.2,px,bE,Bool.or_self,aJ,hGP,g1],g2⟩
  .cases h
end
inductive aKP where
 |n
 |r (tk:List Nat) (fz:List (Nat×Nat)) (cl:List (Nat×Nat×List Nat))
 |s (a b:aKP)
 |c (a b:aKP)
 |b (a:aKP)
 |l (ct:Cut) (a:aKP)
 |o (a:aKP)
 |d (ct:Cut) (a:aKP)
 |i (ts:List Nat) (a:aKP)
def bEJ(i:Nat):au (Nat×Nat)->au Co
 |[]=>[]
 |x::xs=>bif ao x.1 i then .freeze x.2::bEJ i xs else bEJ i xs
def JA(tk:au Nat)(fz:au (Nat×Nat))(i:Nat):au Co:=bEJ i fz++ [.op i (eM i tk)]
def aCQ(ops:Array ic)(tk:au Nat)(fz:au (Nat×Nat)):Nat->au Nat->au Co
 |0,l=>l.flatMap (JA tk fz)
 |f+1,a::i::s::l=>bif aTu ops a i s then .app a i s::aCQ ops tk fz f l else JA tk fz a++aCQ ops tk fz f (i::s::l)
 |_+1,l=>l.flatMap (JA tk fz)
def aIH:au (Nat×Nat×au Nat)->Nat->Nat×au Nat
 |[],_=>(0,[])
 |x::l,i=>bif ao x.1 i then x.2 else aIH l i
def aXh(cl:au (Nat×Nat×au Nat)):Co->TStep
 | .op i take=> .op i take (aIH cl i).1 (aIH cl i).2
 | .app a i s=> .app a i s
 | .freeze t=> .freeze t
def aOe(tk:au Nat)(fz:au (Nat×Nat))(cl:au (Nat×Nat×au Nat))(id:Nat)(ops:Array ic):Bool->TC
 |true=> .region id ops ah (iE ops.toList []) ((aCQ ops tk fz ops.size (AF ops (iE ops.toList []))).map (aXh cl))
 |false=> .region id ops aj [] ((aCQ ops tk fz ops.size (List.range ops.size)).map (aXh cl))
def sJ:Code->TC
 | .skip=> .skip
 | .label l=> .label l
 | .region id ops draw=>aOe [] [] [] id ops draw
 | .seq a b=> .seq (sJ a) (sJ b)
 | .cond x a b=> .cond x (sJ a) (sJ b)
 | .block id a=> .block id (sJ a)
 | .exit id=> .exit id
 | .ret=> .ret
 | .scope a=> .scope (sJ a)
 |c=> .other c
def aA7:au Nat->TC->TC
 |[],c=>c
 |t::ts,c=> .ice t (aA7 ts c)
def jW:aKP->Code->TC
 | .n,c=>sJ c
 | .d ct x,c=> .cut ct (jW x c)
 | .i ts x,c=>aA7 ts (jW x c)
 | .r tk fz cl,c=>match c with| .region id ops draw=>aOe tk fz cl id ops draw|c=> .other c
 | .s x y,c=>match c with| .seq a b=> .seq (jW x a) (jW y b)|c=> .other c
 | .c x y,c=>match c with| .cond v a b=> .cond v (jW x a) (jW y b)|c=> .other c
 | .b x,c=>match c with| .block id a=> .block id (jW x a)|c=> .other c
 | .l ct x,c=>match c with| .loop a=> .loop ct (jW x a)|c=> .other c
 | .o x,c=>match c with| .scope a=> .scope (jW x a)|c=> .other c
def rS(a b:au Co):iD (a++b)=iD a++iD b:=by
 induction a with
 |nil=>rfl
 |cons x a ih=>cases x<;>simp[iD,ih]
def aCR(i:Nat)(l:au (Nat×Nat)):iD (bEJ i l)=[]:=by
 induction l with
 |nil=>rfl
 |cons x l ih=>simp only[bEJ];cases ao x.1 i<;>simp[iD,ih]
def Dh(tk:au Nat)(fz:au (Nat×Nat))(i:Nat):iD (JA tk fz i)=[i]:=by
 unfold JA;rw[rS,aCR];rfl
def wM(tk:au Nat)(fz:au (Nat×Nat))(l:au Nat):iD (l.flatMap (JA tk fz))=l:=by
 induction l with
 |nil=>rfl
 |cons i l ih=>rw[aN,rS,Dh,ih];rfl
def EO(ops:Array ic)(tk:au Nat)(fz:au (Nat×Nat)): ∀(f:Nat) (l:au Nat),iD (aCQ ops tk fz f l)=l:=by
 intro f;induction f with
 |zero=>intro l;exact wM tk fz l
 |succ f ih=>
  intro l
  match l with
  |[]=>rfl
  |[a]=>exact wM tk fz [a]
  |[a,i]=>exact wM tk fz [a,i]
  |a::i::s::l=>
   simp only[aCQ];cases aTu ops a i s with
   |true=>simp only[aI,iD,ih]
   |false=>simp only[aJ];rw[rS,Dh,ih];rfl
def aEy(cl:au (Nat×Nat×au Nat))(l:au Co):(l.map (aXh cl)).map TStep.un=l:=by
 induction l with
 |nil=>rfl
 |cons x l ih=>rw[aO,aO,ih];cases x<;>rfl
def aAg(tk:au Nat)(fz:au (Nat×Nat))(cl:au (Nat×Nat×au Nat))(id:Nat)(ops:Array ic)(draw:Bool):fI (aOe tk fz cl id ops draw).pc= .region id ops draw/\tS (aOe tk fz cl id ops draw).pc:=by
 cases draw with
 |true=>
  refine⟨rfl,?_⟩;show iE ops.toList []=iE ops.toList []/\iD _=_;rw[aEy];exact⟨rfl,EO _ _ _ _ _⟩
 |false=>
  refine⟨rfl,?_⟩;show iD _=_;rw[aEy];exact EO _ _ _ _ _
def aEk: ∀c:Code,fI (sJ c).pc=c/\tS (sJ c).pc:=by
 intro c;induction c with
 |region id ops draw=>exact aAg _ _ _ _ _ _
 |seq a b fi jq=>exact⟨by simp only[sJ,TC.pc,fI,fi.1,jq.1],fi.2,jq.2⟩
 |cond x a b fi jq=>exact⟨by simp only[sJ,TC.pc,fI,fi.1,jq.1],fi.2,jq.2⟩
 |block id a ih=>exact⟨by simp only[sJ,TC.pc,fI,ih.1],ih.2⟩
 |scope a ih=>exact⟨by simp only[sJ,TC.pc,fI,ih.1],ih.2⟩
 |_=>exact⟨rfl,trivial⟩
def RR(ts:au Nat)(c:TC):fI (aA7 ts c).pc=fI c.pc/\(tS c.pc->tS (aA7 ts c).pc):=by
 induction ts with
 |nil=>exact⟨rfl,id⟩
 |cons t ts ih=>exact⟨ih.1,ih.2⟩
def Ew: ∀(s:aKP) (c:Code),fI (jW s c).pc=c/\tS (jW s c).pc:=by
 intro s;induction s with
 |n=>exact aEk
 |r tk fz cl=>intro c;cases c<;>first|exact aAg _ _ _ _ _ _|exact⟨rfl,trivial⟩
 |s x y nq qh=>intro c;cases c<;>first|exact⟨by simp only[jW,TC.pc,fI,(nq _).1,(qh _).1],(nq _).2,(qh _).2⟩|exact⟨rfl,trivial⟩
 |c x y nq qh=>intro c;cases c<;>first|exact⟨by simp only[jW,TC.pc,fI,(nq _).1,(qh _).1],(nq _).2,(qh _).2⟩|exact⟨rfl,trivial⟩
 |b x ih=>intro c;cases c<;>first|exact⟨by simp only[jW,TC.pc,fI,(ih _).1],(ih _).2⟩|exact⟨rfl,trivial⟩
 |l ct x ih=>intro c;cases c<;>first|exact⟨by simp only[jW,TC.pc,fI,(ih _).1],(ih _).2⟩|exact⟨rfl,trivial⟩
 |o x ih=>intro c;cases c<;>first|exact⟨by simp only[jW,TC.pc,fI,(ih _).1],(ih _).2⟩|exact⟨rfl,trivial⟩
 |d ct x ih=>intro c;exact⟨(ih c).1,(ih c).2⟩
 |i ts x ih=>intro c;exact⟨by simp only[jW,(RR ts _).1,(ih c).1],(RR ts _).2 (ih c).2⟩
structure cS where
 sig:Tf
 sk:aKP
def vE(P:az)(f:Nat):Code:=match P.funcs[f]? with|some fn=>fn.body.getD .skip|none=> .skip
def JG(P:az)(f:Nat):au ResultVar:=match P.funcs[f]? with|some fn=>fn.results.toList|none=>[]
def tP:au (Nat×cS)->Nat->f9 cS
 |[],_=>ae
 |x::l,i=>bif ao x.1 i then aa x.2 else tP l i
def BZ:au (Nat×cS)->Nat->f9 cS
 |[],_=>ae
 |x::l,f=>bif ao x.2.sig.f f then aa x.2 else BZ l f
def K7(l:au (Nat×cS))(i:Nat):f9 Tf:=(tP l i).map (·.sig)
def HX(P:az)(l:au (Nat×cS)):aRp:=λi=>match tP l i with
 |some x=>aa (jW x.sk (vE P x.sig.f),JG P x.sig.f)
 |none=>ae
def Fe(P:az)(l:au (Nat×cS)):aKQ:=λf=>match BZ l f with
 |some x=>aa ((jW x.sk (vE P f)).pc,JG P f)
 |none=>ae
def bJI(P:az)(l:au (Nat×cS))(x:cS):Prop:= ∃y,BZ l x.sig.f=aa y/\(jW y.sk (vE P x.sig.f)).pc=(jW x.sk (vE P x.sig.f)).pc
def aNJ{P:az}{l:au (Nat×cS)}(h: ∀i x,tP l i=aa x->bJI P l x): ∀i s code rs,K7 l i=aa s->HX P l i=aa (code,rs)->Fe P l s.f=aa (code.pc,rs):=by
 intro i s code rs h1 h2;unfold K7 at h1;unfold HX at h2;cases hx:tP l i with
 |none=>rw[hx]at h1;cases h1
 |some x=>
  rw[hx]at h1 h2;simp only[aK,aA,aB]at h1 h2;obtain⟨y,g1,g2⟩:=h i x hx;subst h1;obtain⟨rfl,rfl⟩:=h2;simp only[Fe,g1,g2]
def aC1{P C:az}(h:C.funcs.toList.all (rX P)=ah){l:au (Nat×cS)}(hb: ∀f x,BZ l f=aa x->∃fn c,C.funcs[f]?=aa fn/\fn.body=aa c):Xi P C (Fe C l):=by
 intro f c rs hf;unfold Fe at hf;split at hf<;>try cases hf
 rename_i x hx;obtain⟨fn,cd,h1,h2⟩:=hb f x hx;have e1:vE C f=cd:=by simp only[vE,h1,h2,od]
 refine⟨fn,h1,by rw[h2,(Ew _ _).1,e1],by simp only[JG,h1],(Ew _ _).2,?_⟩
 rw[bK]at h;have:=h fn (by have:=Array.mem_of_getElem? h1;simpa using this)
 simp only[rX,h2,aC]at this;rw[(Ew _ _).1,e1];exact this.1
section
variable{U:iY}{T:TP U.D}{W:Type}{c:rM U.D}{L:Nat}
def QD{f g:TS U.D->TM U.D->TK U.D W->f9 W}(h: ∀S M K,f S M K=g S M K)(K:TK U.D W):EF U f K=EF U g K:=by
 funext fl S M;cases fl<;>first|exact h S M K|rfl
def bLW: ∀(code:TC) (S:TS U.D) (M:TM U.D) (K:TK U.D W),pP U T c (Dx U T c L) (Ex U T c L) code S M K=gD U T c L code S M K:=by
 intro code;induction code with
 |seq a b fi jq=>intro S M K;simp only[pP,gD];rw[fi,QD jq]
 |cond x a b fi jq=>intro S M K;simp only[pP,gD,fi,jq]
 |block id a ih=>intro S M K;simp only[pP,gD,ih]
 |scope a ih=>intro S M K;simp only[pP,gD,ih]
 |ice t a ih=>intro S M K;simp only[pP,gD,ih]
 |_=>intro S M K;rfl
end
def Lp{N:Type}(F:Nat->Nat->f9 N)(r:N):Prop:= ∃α,∀L n,α<=L->α<=n->F L n=aa r
section
variable{N W:Type}{r:W}
def gG{x:W}:Lp (λ_ _=>aa x) x:=⟨0,λ_ _ _ _=>rfl⟩
end
end Go.TV
