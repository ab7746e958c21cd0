import Derived.Test.YtmebgielemmehaaGreatDoorKj
set_option linter.unusedVariables false
set_option linter.unusedSimpArgs false
set_option linter.constructorNameAsVariable false
set_option linter.defProp false
namespace Go.TV
open Go.AI Go.PI
def gd:PV->Bool
 | .v _| .str _| .emp=>true
 | .sl _ (_::_)=>true
 |_=>false
def dB(U:gT):(t:Ty)->Den U.D t->PV
 | .int k,n=> .v (.int k n)
 | .bool,b=> .v (.bool b)
 | .str,s=> .str s
 | .sl t,l=>dD (cZ U t) (List.map (dB U t) l)
 | .rc n,x=> .agg (U.en n x)
def en{U:gT}(v:V U):PV:=dB U v.t v.x
def GH(U:gT)(t:Ty):List PV:=(iO U t).flatMap aAX
def aF7(l:List PV)(i:Nat):Bool:=match l[i]? with|some .nil=>true|_=>false
def a1e:PV->Bool
 | .v _| .str _=>true
 |_=>false
structure gO(U:gT):Prop where
 eqc: ∀n f x,U.eq n=some f->(U.en n x).all a1e=true
 ty: ∀n x,(U.un n x).map (λv=>v.t)=U.fs n
 un_of: ∀n l x,U.of n l=some x->U.un n x=l
 en: ∀n x,U.en n x=(U.un n x).flatMap λv=>(dB U v.t v.x).cells
 len: ∀n x,(U.en n x).length=U.sz n
 sz: ∀n,U.sz n=eE U (U.fs n)
 gd: ∀n x,(U.en n x).all gd=true
 pos: ∀n,1<=U.sz n
 zero: ∀n,U.un n (U.zero n)=(U.fs n).map λt=>⟨t,nH U t⟩
 lt: ∀n,U.lt n=(U.fs n).flatMap (iO U)
 zc: ∀n,wks ((U.lt n).flatMap aAX)=U.en n (U.zero n)
 nz: ∀n,(vP U (.rc n)).all (λx=>aF7 ((U.lt n).flatMap aAX) x.1)=true
 ltl: ∀n,(U.lt n).length=U.sz n
def aMx{x:PV}(h:gd x=true):x.pur=true:=by cases x<;>first|rfl|simp[gd]at h
def WD{x:PV}(h:gd x=true):wk x=x:=by
 cases x with
 |sl z es=>cases es with
  |nil=>simp[gd]at h
  |cons e es=>rfl
 |_=>first|rfl|simp[gd]at h
def mO{x:PV}(h:gd x=true):x.cells=[x]:=by cases x<;>first|rfl|simp[gd]at h
def xN{x:PV}(h:gd x=true):Ff x=false:=by
 cases x with
 |sl z es=>cases es with
  |nil=>simp[gd]at h
  |cons e es=>rfl
 |_=>first|rfl|simp[gd]at h
def BF{x:PV}{n:Nat}(h:gd x=true):below n x=true:=by cases x<;>first|rfl|simp[gd]at h
def eJ(z:Nat)(l:List PV):gd (dD z l)=true:=by cases l<;>rfl
def lC(l:List PV):wks l=l.map wk:=by induction l with
 |nil=>rfl
 |cons x l ih=>simp only[wks,ih,aO]
def Fw{l:List PV}(h:l.all gd=true):wks l=l:=by
 rw[lC];induction l with
 |nil=>rfl
 |cons x l ih=>
  simp only[aP,aC]at h;rw[aO,WD h.1,ih h.2]
section
variable{U:gT}(hU:gO U)
include hU
def qW(t:Ty)(x:Den U.D t):(dB U t x).cells.all gd=true:=by
 cases t with
 |int k=>rfl
 |bool=>rfl
 |str=>rfl
 |sl t=>simp only[dB,mO (eJ _ _),aP,eJ,List.all_nil,Bool.and_self]
 |rc n=>exact hU.gd n x
def iH(t:Ty)(x:Den U.D t):(dB U t x).cells.length=cZ U t:=by
 cases t with
 |int k=>rfl
 |bool=>rfl
 |str=>rfl
 |sl t=>simp only[dB,mO (eJ _ _),cZ,aM,aX]
 |rc n=>exact hU.len n x
def Qs(t:Ty)(x:Den U.D t):wk (dB U t x)=dB U t x:=by
 cases t with
 |int k=>rfl
 |bool=>rfl
 |str=>rfl
 |sl t=>exact WD (eJ _ _)
 |rc n=>simp only[dB,wk,Fw (hU.gd n x)]
def oC(t:Ty):1<=cZ U t:=by
 cases t with
 |rc n=>exact hU.pos n
 |_=>exact aS _
def JZ(n:Nat)(t:Ty)(x:Den U.D t):below n (dB U t x)=true:=by
 cases t with
 |int k=>rfl
 |bool=>rfl
 |str=>rfl
 |sl t=>exact BF (eJ _ _)
 |rc m=>
  show iU n (U.en m x)=true;rw[fE];intro c hc;exact BF (bJ.1 (hU.gd m x) c hc)
end
section
variable{U:gT}{p:PV}
def Lc{x:Value}(h:wk p= .v x):p= .v x:=by
 cases p with
 |v y=>exact h
 |sl z es=>cases es<;>simp[wk]at h
 |_=>simp[wk]at h
def ED{x:List UInt8}(h:wk p= .str x):p= .str x:=by
 cases p with
 |str y=>exact h
 |sl z es=>cases es<;>simp[wk]at h
 |_=>simp[wk]at h
def Lf{x:List PV}(h:wk p= .agg x): ∃cs,p= .agg cs/\wks cs=x:=by
 cases p with
 |agg y=>simp only[wk,PV.agg.injEq]at h;exact⟨y,rfl,h⟩
 |sl z es=>cases es<;>simp[wk]at h
 |_=>simp[wk]at h
def aJa(h:wk p= .emp):p= .emp∨p= .nil∨∃z,p= .sl z []:=by
 cases p with
 |emp=>exact .inl rfl
 |nil=>exact .inr (.inl rfl)
 |sl z es=>cases es with
  |nil=>exact .inr (.inr ⟨z,rfl⟩)
  |cons e es=>simp[wk]at h
 |_=>simp[wk]at h
def aFv{z:Nat}{e:PV}{es:List PV}(h:wk p= .sl z (e::es)):p= .sl z (e::es):=by
 cases p with
 |sl z es=>cases es with
  |nil=>simp[wk]at h
  |cons e es=>exact h
 |_=>simp[wk]at h
def T5{z:Nat}{es:List PV}(h:wk p=dD z es):(es=[]/\(p= .emp∨p= .nil∨∃z,p= .sl z []))∨(es≠ []/\p= .sl z es):=by
 cases es with
 |nil=>exact .inl ⟨rfl,aJa h⟩
 |cons e es=>exact .inr ⟨by simp,aFv h⟩
def WV{z:Nat}{es:List PV}(h:wk p=dD z es)(hz: ∀z',p= .sl z' []->z'=z):mQ z p=some es:=by
 rcases T5 h with⟨rfl,rfl|rfl|⟨z',rfl⟩⟩|⟨_,rfl⟩
 .rfl
 .rfl
 .have:=hz z' rfl;subst this;simp[mQ]
 .simp[mQ]
end
section
variable(U:gT)
def GM(ts:List Ty)(cs:List PV):Prop:= ∀(j z:Nat),cs[j]?=some (.sl z [])->∃e,ts[j]?=some (.sl e)/\z=cZ U e
structure VR(t:Ty)(x:Den U.D t)(p:PV):Prop where
 wk:PI.wk p=dB U t x
 z:GM U (iO U t) p.cells
structure Ce where
 id:Option Nat
 n:Nat
 z:Nat
abbrev Cx:=Nat->Option Ce
def tQ(c:Cx):List Nat->List PV->Prop
 |[],[]=>True
 |k::ks,p::ps=>(∃e id,c k=some e/\e.id=some id/\p= .ptr id 0)/\tQ c ks ps
 |_,_=>False
def rG(c:Cx):SV U.D->PV->Prop
 | .val v,p=>VR U v.t v.x p
 | .tup l,p=> ∃ps,p= .tup ps/\ps=l.map λv=>dB U v.t v.x
 | .nl,p=>p= .nil
 | .lc k off _,p=> ∃e id,c k=some e/\e.id=some id/\p= .ptr id off
 | .ep v,p=> ∃es i off e,p= .pin es i off/\es[i]?=some e/\(e.cells.drop off).take (cZ U v.t)=(dB U v.t v.x).cells
 | .rw k,p=> ∃e,c k=some e/\((e.id=none/\e.n=0/\(p= .sl e.z []∨p= .emp))∨∃id,e.id=some id/\1<=e.n/\p= .rs id 0 e.n)
 | .rp k i off _,p=> ∃e id,c k=some e/\e.id=some id/\0<=i/\i<(e.n:Int)/\p= .ptr id (i.toNat*e.z+off)
 | .cl f caps,p=> ∃ps,p= .fn f [] ps/\tQ c caps ps
 | .nf,p=>p= .v .nilFunc
 | .zr l,p=>p= .agg l
 | .no,_=>True
def isAgg:PV->Bool
 | .agg _=>true
 |_=>false
def Tv(rs:iL)(p:PV)(ow:Bool):Prop:=
 ∀o s,(o,s)∈rs->(isAgg p=true/\p.cells[o]?=some .nil)∨(o=0/\isAgg p=false/\(ow||jW p)=true/\(s=true->Ff p=false))
def oE(c:Cx)(x:X U)(y:PV×Bool):Prop:=rG U c x.1 y.1/\Tv x.2 y.1 y.2
def kU(c:Cx)(S:TS U.D)(S':PS):Prop:= ∀t,oE U c (kT S t) (S'.at t)
def uP(c:Cx):SV U.D->List (PV×Bool)->Prop
 | .val v,cs=>wks (cs.map (·.1))=(dB U v.t v.x).cells/\GM U (iO U v.t) (cs.map (·.1))/\∀x∈cs,x.1≠ .nil
 | .cl f caps,cs=> ∃p b,cs=[(p,b)]/\rG U c (.cl f caps) p
 | .nf,cs=> ∃b,cs=[(.v .nilFunc,b)]
 |_,_=>False
def aXD(rs:iL)(cs:List (PV×Bool)):Prop:= ∀o s,(o,s)∈rs->∃x,cs[o]?=some (x,true)/\(s=true->Ff x=false)
def Ag(c:Cx)(p:PSt)(e:Ce):BC U.D->Prop
 | .bx s r=> ∃id cs,e.id=some id/\p.get id=some (.box cs)/\uP U c s cs/\aXD r cs
 | .row t l=>e.n=l.length/\e.z=cZ U t/\((e.id=none/\l=[])∨∃id,e.id=some id/\p.get id=some (.row e.z (kS t) ((l.map (dB U t)).flatMap PV.cells)))
 | .gone=>True
structure MR(q:PSt)(c0 c:Cx)(M:TM U.D)(p:PSt):Prop where
 dom: ∀k,dE M.bx k=none->c k=none
 bx: ∀k b,dE M.bx k=some b->∃e,c k=some e/\Ag U c p e b
 lt: ∀k e id,c k=some e->e.id=some id->id<p.next
 inj: ∀k k' e e' id,c k=some e->c k'=some e'->e.id=some id->e'.id=some id->k=k'
 next:q.next<=p.next
 bor: ∀k e,c k=some e->k<100->c0 k=some e
 loc: ∀k e id,c k=some e->100<=k->e.id=some id->q.next<=id
 old: ∀id,id<q.next->id∉p.dirty->p.get id=q.get id
 dirty: ∀id,id∈p.dirty->id<q.next->∃k e,c0 k=some e/\e.id=some id
 wr: ∀id,id∈p.wr->id<p.next/\(id<q.next->∃k e,c0 k=some e/\e.id=some id)
def WR(c:Cx)(M:TM U.D)(p:PSt):Prop:= ∀id,id∈p.wr->∀k e,c k=some e->e.id=some id->dQ k M.wr=true
def leC(c c':Cx):Prop:= ∀k e,c k=some e->c' k=some e
end
end Go.TV
namespace Go.TV
open Go.AI Go.PI
def aYx(P:Program)(U:gT)(T:TP U.D)(id:TypeId):Ty->Prop
 | .int k=>P.underlying id=some (.int k)
 | .bool=>P.underlying id=some .bool
 | .str=>P.underlying id=some .string
 | .sl t=> ∃e,P.underlying id=some (.slice e)/\T.T.ty e=some t/\T.el id=some e
 | .rc n=>T.T.arr id=false->∃fs,P.underlying id=some (.struct fs)/\fs.size=(U.fs n).length/\∀i f,fs[i]?=some f->T.T.ty f.type=(U.fs n)[i]?/\f.offset=jM U n i
def Sv(U:gT):List Ty->Nat->List (Nat×Nat)
 |[],_=>[]
 |t::ts,o=>(o,cZ U t)::Sv U ts (o+cZ U t)
structure oQ(P:Program)(U:gT)(T:TP U.D):Prop where
 ag: ∀id t,T.T.ty id=some t->jZ P id=some (kS t)
 sz: ∀id t,T.T.ty id=some t->gC P id=some (cZ U t)
 un: ∀id t,T.T.ty id=some t->aYx P U T id t
 zc: ∀id t,T.T.ty id=some t->zeroCells P id=some (GH U t)
 fn: ∀id,T.T.fn id=true->jZ P id=some false/\gC P id=some 1/\zeroCells P id=some [.v .nilFunc]
 inf: ∀id t,T.T.ty id=some t->∃info z,P.info? id=some info/\info.size=cZ U t/\info.bytes=T.T.by' id/\1<=info.bytes/\info.zero=some z/\z.cells.size=info.size/\ofVs z.cells.toList=GH U t/\z.cells.toList.all bR=true
 bd: ∀id n,T.T.ty id=some (.rc n)->T.T.arr id=false->∃fs pl,P.underlying id=some (.struct fs)/\bX P (fs.mapM λf=>do pure (f.offset,<-Go.sizeOf f.type))=some pl/\pl.toList=Sv U (U.fs n) 0
 arr: ∀id n,T.T.ty id=some (.rc n)->T.T.arr id=true->∃len e te,P.underlying id=some (.array len e)/\gC P e=some (cZ U te)/\U.fs n=List.replicate len te
 eq: ∀id n f,T.T.ty id=some (.rc n)->U.eq n=some f->∀(x y:U.D n) (a b:Operand),
  lT P .eql id a b (.agg (U.en n x)) (.agg (U.en n y))=some (.v (.bool (f x y)))/\lT P .neq id a b (.agg (U.en n x)) (.agg (U.en n y))=some (.v (.bool (!f x y)))
section
variable{U:gT}{c c':Cx}{S:TS U.D}{S':PS}
def Sd{T:TP U.D}{id:TypeId}{t:Ty}(h:G1 T.T id=some t):T.T.ty id=some t/\T.T.arr id=false:=by
 unfold G1 at h;cases ha:T.T.arr id with
 |true=>rw[ha]at h;cases h
 |false=>rw[ha]at h;exact⟨h,rfl⟩
def FX(h:leC c c'): ∀{ks:List Nat} {ps:List PV},tQ c ks ps->tQ c' ks ps
 |[],[],_=>trivial
 |k::ks,p::ps,⟨⟨e,id,h1,h2,h3⟩,h4⟩=>⟨⟨e,id,h k e h1,h2,h3⟩,FX h h4⟩
 |[],_::_,hh=>hh.elim
 |_::_,[],hh=>hh.elim
def Ug(h:leC c c'){x:SV U.D}{p:PV}(r:rG U c x p):rG U c' x p:=by
 cases x with
 |val v=>exact r
 |tup l=>exact r
 |nl=>exact r
 |lc k off q=>obtain⟨e,id,h1,h2,h3⟩:=r;exact⟨e,id,h k e h1,h2,h3⟩
 |ep v=>exact r
 |rw k=>obtain⟨e,h1,h2⟩:=r;exact⟨e,h k e h1,h2⟩
 |rp k i off q=>obtain⟨e,id,h1,h2,h3⟩:=r;exact⟨e,id,h k e h1,h2,h3⟩
 |cl f caps=>obtain⟨ps,h1,h2⟩:=r;exact⟨ps,h1,FX h h2⟩
 |nf=>exact r
 |zr l=>exact r
 |no=>trivial
def aJS(h:leC c c'){x:X U}{p:PV×Bool}(r:oE U c x p):oE U c' x p:=⟨Ug h r.1,r.2⟩
def LP(h:leC c c')(F:kU U c S S'):kU U c' S S':=λt=>aJS h (F t)
def leC.refl(c:Cx):leC c c:=λ_ _ h=>h
def leC.trans{c'':Cx}(h:leC c c')(h':leC c' c''):leC c c'':=λk e hh=>h' k e (h k e hh)
def bW(p:PV)(ow:Bool):Tv [] p ow:=λo s h=>by cases h
def aBH{rs:iL}{p:PV}{ow ow':Bool}(h:Tv rs p ow)(ha:isAgg p=true):Tv rs p ow':=λo s hm=>by
 rcases h o s hm with h1|⟨_,h2,_⟩
 .exact .inl h1
 .rw[ha]at h2;cases h2
def Uu{rs:iL}{p:PV}{ow ow':Bool}(h:Tv rs p ow)(ho:ow=true->(ow'||jW p)=true):Tv rs p ow':=λo s hm=>by
 rcases h o s hm with h1|⟨h1,h2,h3,h4⟩
 .exact .inl h1
 .refine .inr ⟨h1,h2,?_,h4⟩;cases ow with
  |true=>exact ho rfl
  |false=>simp only[Bool.false_or]at h3;rw[h3,Bool.or_true]
def aBp{v:V U}{p:PV}(h:VR U v.t v.x p)(hr:kS v.t=true):isAgg p=true:=by
 obtain⟨t,x⟩:=v;cases t with
 |rc n=>obtain⟨cs,rfl,_⟩:=Lf h.wk;rfl
 |_=>cases hr
def mI{v:V U}{p:PV}(h:VR U v.t v.x p)(hr:kS v.t=false):isAgg p=false:=by
 obtain⟨t,x⟩:=v;cases t with
 |rc n=>cases hr
 |int k=>rw[Lc h.wk];rfl
 |bool=>rw[Lc h.wk];rfl
 |str=>rw[ED h.wk];rfl
 |sl t=>rcases T5 h.wk with⟨_,h1|h1|⟨z,h1⟩⟩|⟨_,h1⟩<;>rw[h1]<;>rfl
def rZ{x:X U}{p:PV}{ow:Bool}(h:oE U c x (p,ow)):oE U c (qU U x) (p,false):=by
 obtain⟨sv,rs⟩:=x;obtain⟨h1,h2⟩:=h;cases sv with
 |val v=>
  cases hr:kS v.t with
  |true=>simp only[qU,hr,aI];exact⟨h1,aBH h2 (aBp h1 hr)⟩
  |false=>simp only[qU,hr,aJ];exact⟨h1,bW _ _⟩
 |nl=>
  refine⟨h1,λo s hm=>?_⟩
  simp only[qU,List.mem_singleton,aB]at hm;have h3:p= .nil:=h1;exact .inr ⟨hm.1,by rw[h3];rfl,by rw[h3];rfl,λ_=>by rw[h3];rfl⟩
 |_=>exact⟨h1,bW _ _⟩
def mU(S':PS)(t k:Nat)(x:PV×Bool):(S'.set t x).at k=if k=t then x else S'.at k:=by
 unfold PS.set PS.at;simp only;by_cases h:k=t
 .subst h;simp
 .have:Nat.beq k t=false:=by rw[<-Bool.not_eq_true];intro hh;exact h (aE hh)
  rw[this,bH h];rfl
def sW(S:TS U.D)(t k:Nat)(x:X U):kT ((t,x)::S) k=if k=t then x else kT S k:=by
 show(bif Nat.beq t k then x else kT S k)=_;by_cases h:k=t
 .subst h;simp
 .have:Nat.beq t k=false:=by rw[<-Bool.not_eq_true];intro hh;exact h (aE hh).symm
  rw[this,bH h];rfl
def qL(F:kU U c S S'){t:Nat}{x:X U}{y:PV×Bool}(h:oE U c x y):kU U c ((t,x)::S) (S'.set t y):=λk=>by
 rw[sW,mU];by_cases e:k=t
 .rw[bI e,bI e];exact h
 .rw[bH e,bH e];exact F k
def vY(F:kU U c S S'){d:Option Tmp}{x:X U}{v:PV}{own:Bool}(h:oE U c x (v,own)):kU U c (So U S d x) (S'.put d v own):=by
 cases d with
 |none=>exact F
 |some d=>exact qL F h
def pI(F:kU U c S S')(x:Operand):kU U c (rY U S x) (lK S' x):=by
 cases x with
 |tmp t=>exact qL F (rZ (ow:=(S'.at t).2) (F t))
 |_=>exact F
def JJ(F:kU U c S S'){t:Nat}{x:X U}(h:oE U c x (S'.at t)):kU U c ((t,x)::S) S':=λk=>by
 rw[sW];by_cases e:k=t
 .rw[bI e,e];exact h
 .rw[bH e];exact F k
def cX(F:kU U c S S')(x:Operand):oE U c (iQ U S x) (cP S' x,gZ S' x):=by
 cases x with
 |tmp t=>
  refine⟨(F t).1,Uu (F t).2 λh=>?_⟩
  simp only[gZ,h,Bool.true_or]
 |const v=>
  have hv: ∀y,VR U y.t y.x (wW v)->oE U c (.val y,[]) (wW v,gZ S' (.const v)):=λy h=>⟨h,bW _ _⟩
  have h0: ∀(w:Value) (t:Ty) (h:wW v= .v w),GM U (iO U t) (wW v).cells:=λw t h j z hz=>by
   rw[h]at hz;cases j<;>simp[PV.cells]at hz
  cases v with
  |bool b=>exact hv ⟨.bool,b⟩ ⟨rfl,h0 _ _ rfl⟩
  |int k n=>exact hv ⟨.int k,n⟩ ⟨rfl,h0 _ _ rfl⟩
  |string s=>exact hv ⟨.str,s.data.toList⟩ ⟨rfl,λj z hz=>by cases j<;>simp[wW,PV.cells]at hz⟩
  |slice b l k=>
   cases b with
   |some b=>exact⟨trivial,bW _ _⟩
   |none=>
    refine⟨rfl,λo s hm=>?_⟩
    simp only[iQ,a3T,List.mem_singleton,aB]at hm;exact .inr ⟨hm.1,rfl,rfl,λ_=>rfl⟩
  |nilFunc=>exact⟨rfl,bW _ _⟩
  |agg cs=>cases cs;exact⟨rfl,bW _ _⟩
  |_=>exact⟨trivial,bW _ _⟩
 |func f=>exact⟨⟨[],rfl,trivial⟩,bW _ _⟩
 |global g=>exact⟨trivial,bW _ _⟩
def FG: ∀{l r:List PV},TA l r=true->l=r:=by
 intro l;induction l with
 |nil=>intro r h;cases r with|nil=>rfl|cons x r=>cases h
 |cons x l ih=>
  intro r h;cases r with
  |nil=>cases x<;>first|cases h|(rename_i v;cases v<;>cases h)
  |cons y r=>
   unfold TA at h;split at h
   .rename_i heq;cases heq
   .rename_i e1 e2;cases e1;cases e2;simp only[aC,aD]at h;rw[h.1.1,h.1.2,ih h.2]
   .rename_i e1 e2;cases e1;cases e2;simp only[aC,aD]at h;rw[h.1,ih h.2]
   .rename_i e1 e2;cases e1;cases e2;rw[ih h]
   .rename_i e1 e2;cases e1;cases e2;simp only[aC,List.isEmpty_iff]at h;rw[h.1.1,h.1.2,ih h.2]
   .rename_i e1 e2;cases e1;cases e2;rw[ih h]
   .cases h
def kM(hU:gO U){t:Ty}{s:SV U.D}{v:V U}{p:PV}(h:Em U t s=some v)(r:rG U c s p):v.t=t/\VR U v.t v.x p:=by
 cases s with
 |val w=>
  simp only[Em]at h;cases hb:w.t.beq t with
  |false=>rw[hb]at h;cases h
  |true=>rw[hb]at h;cases h;exact⟨Ty.beq_eq hb,r⟩
 |nl=>
  simp only[Em]at h;split at h
  .cases h;have hp:p= .nil:=r;subst hp;exact⟨rfl,rfl,λj z hz=>by cases j<;>simp[PV.cells]at hz⟩
  .cases h
 |zr l=>
  simp only[Em]at h;split at h
  .rename_i n;cases hb:TA l ((U.lt n).flatMap aAX)with
   |false=>rw[hb]at h;cases h
   |true=>
    rw[hb]at h;cases h;have hp:p= .agg l:=r;subst hp;rw[FG hb];refine⟨rfl,?_,λj z hz=>?_⟩
    .show PV.agg (wks _)= .agg _;rw[hU.zc n]
    .have hm:(PV.sl z [])∈(U.lt n).flatMap aAX:=List.mem_of_getElem? hz;rw[List.mem_flatMap]at hm;obtain⟨t,_,h1⟩:=hm;cases t<;>simp[aAX]at h1
  .cases h
 |_=>cases h
def TB(hU:gO U){t:Option Ty}{s:SV U.D}{p:PV}(r:rG U c s p):rG U c (aXu U t s) p:=by
 unfold aXu;split
 .split
  .split
   .rename_i v hv;exact(kM hU hv r).2
   .trivial
  .trivial
 .exact r
def mR{D:Nat->Type}{t u:Ty}{x:Den D t}{y:Den D u}(h:My t u x=some y):(⟨t,x⟩:TV D)=⟨u,y⟩:=by
 unfold My at h;split at h
 .rename_i e _;subst e;cases h;rfl
 .cases h
end
end Go.TV
namespace Go.TV
open Go.AI Go.PI
section
variable{P:Program}{U:gT}{T:TP U.D}
def jL(l:List PV):(wks l).length=l.length:=by rw[lC,List.length_map]
def pR(l r:List PV):wks (l++r)=wks l++wks r:=by simp only[lC,List.map_append]
def AE(l:List PV)(n:Nat):wks (l.drop n)=(wks l).drop n:=by simp only[lC,List.map_drop]
def AD(l:List PV)(n:Nat):wks (l.take n)=(wks l).take n:=by simp only[lC,List.map_take]
def qK{c:PV}(h:gd (wk c)=true): ∀cs,c≠ .agg cs:=λcs e=>by subst e;simp[wk,gd]at h
def mT{c:PV}(h: ∀cs,c≠ .agg cs):c.cells=[c]:=by
 cases c with
 |agg cs=>exact(h cs rfl).elim
 |_=>rfl
def aI9{c:PV}(h:gd (wk c)=true):c.one=true:=by
 cases c with
 |agg cs=>simp[wk,gd]at h
 |tup cs=>simp[wk,gd]at h
 |und=>simp[wk,gd]at h
 |_=>rfl
def aEG{l:List PV}(h:(wks l).all gd=true):l.all PV.one=true:=by
 rw[lC,List.all_map,bJ]at h;rw[bJ];exact λx hx=>aI9 (h x hx)
def K5{ts us:List Ty}{cs ds:List PV}(hl:ts.length=cs.length)(h:GM U ts cs)(h':GM U us ds):GM U (ts++us) (cs++ds):=λj z hj=>by
 by_cases bh:j<cs.length
 .rw[List.getElem?_append_left bh]at hj;obtain⟨e,h1,h2⟩:=h j z hj;exact⟨e,by rw[List.getElem?_append_left (by omega)];exact h1,h2⟩
 .rw[List.getElem?_append_right (by omega)]at hj
  obtain⟨e,h1,h2⟩:=h' _ z hj;exact⟨e,by rw[List.getElem?_append_right (by omega),hl];exact h1,h2⟩
def TI{ts:List Ty}{cs:List PV}(h:GM U ts cs)(o n:Nat):GM U ((ts.drop o).take n) ((cs.drop o).take n):=λj z hj=>by
 rw[List.getElem?_take]at hj⊢;split at hj
 .rename_i hjn;rw[List.getElem?_drop]at hj⊢;rw[bI hjn];exact h _ z hj
 .cases hj
def AA{ts:List Ty}{cs:List PV}(h:cs.all gd=true):GM U ts cs:=λj z hj=>by
 have:=bJ.1 h _ (List.mem_of_getElem? hj);simp[gd]at this
def aA3(ts:List Ty):GM U ts []:=λj z hj=>by simp at hj
variable(hU:gO U)
include hU
def uL(t:Ty):(iO U t).length=cZ U t:=by
 cases t with
 |rc n=>exact hU.ltl n
 |_=>rfl
omit hU in
def EK(ts us:List Ty):eE U (ts++us)=eE U ts+eE U us:=by
 induction ts with
 |nil=>simp[eE]
 |cons t ts ih=>simp only[aY,eE,ih,Nat.add_assoc]
def sH(l:List (V U)):List PV:=l.flatMap λv=>(dB U v.t v.x).cells
omit hU in
def iR(v:V U)(l:List (V U)):sH (v::l)=(dB U v.t v.x).cells++sH l:=rfl
def Kq{l:List (V U)}{i:Nat}{v:V U}(h:l[i]?=some v):
    ((sH l).drop (eE U ((l.map λv=>v.t).take i))).take (cZ U v.t)=(dB U v.t v.x).cells:=by
 induction l generalizing i with
 |nil=>simp at h
 |cons w l ih=>
  cases i with
  |zero=>
   simp only[aU,aA]at h;subst h;rw[iR,List.take_zero,eE,List.drop_zero];exact List.take_left' (iH hU _ _)
  |succ i=>
   rw[aT]at h;rw[iR,aO,List.take_succ_cons,eE];rw[<-ih h];congr 1;rw[<-List.drop_drop];congr 1;exact List.drop_left' (iH hU _ _)
def Fc{ts:List Ty}{i:Nat}{t:Ty}(h:ts[i]?=some t):((ts.flatMap (iO U)).drop (eE U (ts.take i))).take (cZ U t)=iO U t:=by
 induction ts generalizing i with
 |nil=>simp at h
 |cons w l ih=>
  cases i with
  |zero=>
   simp only[aU,aA]at h;subst h;rw[aN,List.take_zero,eE,List.drop_zero];exact List.take_left' (uL hU _)
  |succ i=>
   rw[aT]at h;rw[aN,List.take_succ_cons,eE];rw[<-ih h];congr 1;rw[<-List.drop_drop];congr 1;exact List.drop_left' (uL hU _)
def xP{n i:Nat}{x:U.D n}{v:V U}(h:(U.un n x)[i]?=some v):((U.en n x).drop (jM U n i)).take (cZ U v.t)=(dB U v.t v.x).cells:=by
 rw[hU.en n x,jM,<-hU.ty n x];exact Kq hU h
def BH{n i:Nat}{x:U.D n}{v:V U}(h:(U.un n x)[i]?=some v):(U.fs n)[i]?=some v.t:=by
 rw[<-hU.ty n x,List.getElem?_map,h];rfl
def BI{n i:Nat}{t:Ty}(h:(U.fs n)[i]?=some t):((U.lt n).drop (jM U n i)).take (cZ U t)=iO U t:=by
 rw[hU.lt n];exact Fc hU h
structure SR(t:Ty)(x:Den U.D t)(cs:List PV):Prop where
 wk:wks cs=(dB U t x).cells
 z:GM U (iO U t) cs
def SR.len{t:Ty}{x:Den U.D t}{cs:List PV}(h:SR t x cs):cs.length=cZ U t:=by
 rw[<-jL,h.wk,iH hU]
def SR.gd{t:Ty}{x:Den U.D t}{cs:List PV}(h:SR t x cs){c:PV}(hc:c∈cs):gd (PI.wk c)=true:=by
 have h1:=qW hU t x;rw[<-h.wk,lC,List.all_map,bJ]at h1;exact h1 c hc
def SR.one{t:Ty}{x:Den U.D t}{cs:List PV}(h:SR t x cs):cs.all PV.one=true:=aEG (by rw[h.wk];exact qW hU t x)
def SR.fld{n i:Nat}{x:U.D n}{cs:List PV}(h:SR (U:=U) (.rc n) x cs){v:V U}(hv:(U.un n x)[i]?=some v):SR v.t v.x ((cs.drop (jM U n i)).take (cZ U v.t)):=by
 refine⟨?_,?_⟩
 .rw[AD,AE,h.wk];exact xP hU hv
 .have:=TI h.z (jM U n i) (cZ U v.t);rw[show iO U (.rc n)=U.lt n from rfl,BI hU (BH hU hv)]at this
  exact this
omit hU in
def VR.sr{t:Ty}{x:Den U.D t}{p:PV}(h:VR U t x p):SR t x p.cells:=by
 refine⟨?_,h.z⟩;have h1:=h.wk;cases t with
 |rc n=>obtain⟨cs,rfl,h2⟩:=Lf h1;exact h2
 |int k=>rw[Lc h1];rfl
 |bool=>rw[Lc h1];rfl
 |str=>rw[ED h1];rfl
 |sl t=>
  have hg:gd (PI.wk p)=true:=by rw[h1];exact eJ _ _
  rw[mT (qK hg),dB,mO (eJ _ _),wks,wks,h1,dB]
def vM(hT:oQ P U T){id:TypeId}{t:Ty}(ht:T.T.ty id=some t){x:Den U.D t}{cs:List PV}{off:Nat}(h:SR t x ((cs.drop off).take (cZ U t))):
    ∃p,pA P id cs off=some p/\VR U t x p/\p.cells=(cs.drop off).take (cZ U t)/\isAgg p=kS t:=by
 have hl:=h.len hU;unfold pA;rw[hT.ag id t ht];cases hr:kS t with
 |true=>
  simp only[hT.sz id t ht,hl,Nat.beq_refl,aI];refine⟨_,rfl,⟨?_,h.z⟩,rfl,rfl⟩;cases t with
  |rc n=>simp only[PI.wk,h.wk];rfl
  |_=>cases hr
 |false=>
  simp only;have hs:cZ U t=1:=by cases t<;>first|rfl|cases hr
  rw[hs]at h hl⊢;have bh:off<cs.length:=by
   rw[List.length_take,List.length_drop]at hl;omega
  have rj:(cs.drop off).take 1=[cs[off]]:=by
   rw[List.drop_eq_getElem_cons bh];rfl
  rw[rj]at h⊢;refine⟨cs[off],by rw[aV bh],?_,?_,?_⟩
  .have hg:=h.gd hU (List.mem_singleton.2 rfl);refine⟨?_,?_⟩
   .have h1:=h.wk;rw[wks,wks]at h1;cases t with
    |rc n=>cases hr
    |int k=>exact List.head_eq_of_cons_eq h1
    |bool=>exact List.head_eq_of_cons_eq h1
    |str=>exact List.head_eq_of_cons_eq h1
    |sl t=>rw[dB,mO (eJ _ _)]at h1;exact List.head_eq_of_cons_eq h1
   .rw[mT (qK hg)];exact h.z
  .exact mT (qK (h.gd hU (List.mem_singleton.2 rfl)))
  .have:=qK (h.gd hU (List.mem_singleton.2 rfl));cases hc:cs[off]<;>first|rfl|exact(this _ hc).elim
def sX{p:List Nat}: ∀{v w:V U} {o:Nat} {cs:List PV},vX U p v=some (w,o)->SR v.t v.x cs->SR w.t w.x ((cs.drop o).take (cZ U w.t))/\o+cZ U w.t<=cZ U v.t:=by
 induction p with
 |nil=>
  intro v w o cs h r;simp only[vX,aA,aB]at h;obtain⟨rfl,rfl⟩:=h;refine⟨?_,by omega⟩
  rw[List.drop_zero,List.take_of_length_le (by rw[r.len hU];exact aS _)]
  exact r
 |cons i p ih=>
  intro v w o cs h r;unfold vX at h;split at h
  .rename_i y hy;split at h
   .rename_i z hz;simp only[aA,aB]at h;obtain⟨h1,h2⟩:=h;obtain⟨t,x⟩:=v;unfold Fx at hy;split at hy
    .rename_i n x' heq;cases heq;have ln:vX U p y=some (w,z.2):=by rw[hz,<-h1]
     obtain⟨g1,g2⟩:=ih ln (r.fld hU hy);have cq:jM U n i+cZ U y.t<=U.sz n:=by
      have hr:cs.length=U.sz n:=r.len hU;have:=(r.fld hU hy).len hU;rw[List.length_take,List.length_drop,hr]at this;have hp:=oC hU y.t;omega
     have ho:o=jM U n i+z.2:=by rw[<-h2];rfl
     subst ho;refine⟨?_,?_⟩
     .rw[List.drop_take,List.drop_drop,List.take_take,Nat.min_eq_left (by omega)]at g1
      exact g1
     .show _<=U.sz n;omega
    .cases hy
   .cases h
  .cases h
end
end Go.TV
namespace Go.TV
open Go.AI Go.PI
section
variable{P:Program}{U:gT}{T:TP U.D}{c:Cx}{W:Type}{r:W}
def mD{N:Type}{a:Option N}{K:N->Option W}(h:ob a K=some r): ∃x,a=some x/\K x=some r:=by
 cases a with
 |none=>cases h
 |some x=>exact⟨x,rfl,h⟩
def eX{b:Bool}{K:Option W}(h:jC b K=some r):b=true/\K=some r:=by
 cases b with
 |false=>cases h
 |true=>exact⟨rfl,h⟩
def B4{b:Bool}{A B:Option W}(h:cH b A B=some r):(b=true/\A=some r)∨(b=false/\B=some r):=by
 cases b with
 |false=>exact .inr ⟨rfl,h⟩
 |true=>exact .inl ⟨rfl,h⟩
def aFt(ts:List Ty)(x:Value):GM U ts (PV.v x).cells:=λj z hz=>by
 cases j<;>simp[PV.cells]at hz
def gN(k:IntKind)(n:Int):VR U (.int k) n (.v (.int k n)):=⟨rfl,aFt _ _⟩
def eU(b:Bool):VR U .bool b (.v (.bool b)):=⟨rfl,aFt _ _⟩
def CE(s:List UInt8):VR U .str s (.str s):=⟨rfl,λj z hz=>by cases j<;>simp[PV.cells]at hz⟩
def iF{k:IntKind}{n:Int}{p:PV}(h:VR U (.int k) n p):p= .v (.int k n):=Lc h.wk
def of_bool{b:Bool}{p:PV}(h:VR U .bool b p):p= .v (.bool b):=Lc h.wk
def uK{s:List UInt8}{p:PV}(h:VR U .str s p):p= .str s:=ED h.wk
def IJ{n:Nat}{x:U.D n}{p:PV}(h:VR U (.rc n) x p): ∃cs,p= .agg cs/\wks cs=U.en n x:=Lf h.wk
def pC{t:Ty}{l:List (Den U.D t)}{p:PV}(h:VR U (.sl t) l p):mQ (cZ U t) p=some (l.map (dB U t))/\((l=[]/\(p= .emp∨p= .nil∨p= .sl (cZ U t) []))∨(l≠ []/\p= .sl (cZ U t) (l.map (dB U t)))):=by
 have hz: ∀z',p= .sl z' []->z'=cZ U t:=λz' e=>by
  obtain⟨e',h1,h2⟩:=h.z 0 z' (by rw[e];rfl)
  simp only[iO,aU,aA,Ty.sl.injEq]at h1;rw[h2,<-h1]
 have hw:PI.wk p=dD (cZ U t) (l.map (dB U t)):=h.wk;refine⟨WV hw hz,?_⟩;rcases T5 hw with⟨h1,h2⟩|⟨h1,h2⟩
 .refine .inl ⟨by simpa using h1,?_⟩
  rcases h2 with h2|h2|⟨z,h2⟩
  .exact .inl h2
  .exact .inr (.inl h2)
  .exact .inr (.inr (by rw[h2,hz z h2]))
 .exact .inr ⟨by simpa using h1,h2⟩
def uB(t:Ty)(l:List (Den U.D t)){z:Nat}{es:List PV}(hz:z=cZ U t)(he:es=l.map (dB U t)):VR U (.sl t) l (dD z es):=by
 subst hz he;refine⟨WD (eJ _ _),λj z hj=>?_⟩
 rw[mO (eJ _ _)]at hj;have:=eJ (cZ U t) (l.map (dB U t));cases j with
 |zero=>
  simp only[aU,aA]at hj;rw[hj]at this;simp[gd]at this
 |succ j=>simp at hj
def EY{op:BinOp}{t:TypeId}{x y:Operand}{u w:Value}(hu:bR u=true)(hw:bR w=true):lT P op t x y (.v u) (.v w)=(gH P op t x y u w).map wW:=by
 have h1:=Bb hu;have h2:=Bb hw;simp only[lT,Uf,oU,hu,hw,aI,gH,h1,h2,Bool.and_self]
def iD(s:List UInt8):Value:= .string ⟨s.toArray⟩
def Vf{op:BinOp}{t:TypeId}{x y:Operand}{s u:List UInt8}:lT P op t x y (.str s) (.str u)=(gH P op t x y (iD s) (iD u)).map wW:=by
 simp only[lT,Uf,oU,gH,iD,cK,bR,Bool.and_self,aI]
def bq(s u:List UInt8):(s==u)=decide (s=u):=by by_cases h:s=u<;>simp[h]
def aCF{op:BinOp}{t:TypeId}{x y:Operand}{k:IntKind}{a b:Int}{K:V U->Option W}(h:aUu U op k a b K=some r):
    ∃v w,K v=some r/\lT P op t x y (.v (.int k a)) (.v (.int k b))=some w/\VR U v.t v.x w:=by
 have go: ∀(v:V U) (w:Value),K v=some r->gH P op t x y (.int k a) (.int k b)=some w->VR U v.t v.x (wW w)->∃v w,K v=some r/\lT P op t x y (.v (.int k a)) (.v (.int k b))=some w/\VR U v.t v.x w:=
  λv w hk ha hv=>⟨v,wW w,hk,by rw[EY rfl rfl,ha];rfl,hv⟩
 cases op with
 |eql=>exact go _ _ h VM (by rw[show(a==b)=decide (a=b) from rfl];exact eU _)
 |neq=>exact go _ _ h VG (eU _)
 |lss=>exact go _ _ h VI (eU _)
 |leq=>exact go _ _ h VJ (eU _)
 |gtr=>exact go _ _ h VK (eU _)
 |geq=>exact go _ _ h VL (eU _)
 |add=>exact go _ _ h VP (gN _ _)
 |sub=>exact go _ _ h VF (gN _ _)
 |mul=>exact go _ _ h VH (gN _ _)
 |quo=>
  obtain⟨hb,hk⟩:=eX h;exact go _ _ hk (aTs (by simpa using hb)) (gN _ _)
 |rem=>
  obtain⟨hb,hk⟩:=eX h;exact go _ _ hk (aTr (by simpa using hb)) (gN _ _)
 |and=>exact go _ _ h VO (gN _ _)
 |or=>exact go _ _ h aLs (gN _ _)
 |xor=>exact go _ _ h VE (gN _ _)
 |andNot=>exact go _ _ h VN (gN _ _)
 |_=>cases h
def aJV{op:BinOp}{t:TypeId}{x y:Operand}{k j:IntKind}{a b:Int}{K:V U->Option W}(h:a3v U op k a b K=some r):
    ∃v w,K v=some r/\lT P op t x y (.v (.int k a)) (.v (.int j b))=some w/\VR U v.t v.x w:=by
 have go: ∀(v:V U) (w:Value),K v=some r->gH P op t x y (.int k a) (.int j b)=some w->VR U v.t v.x (wW w)->∃v w,K v=some r/\lT P op t x y (.v (.int k a)) (.v (.int j b))=some w/\VR U v.t v.x w:=
  λv w hk ha hv=>⟨v,wW w,hk,by rw[EY rfl rfl,ha];rfl,hv⟩
 cases op with
 |shl=>
  obtain⟨hb,hk⟩:=eX h;exact go _ _ hk (aTq (by simpa using hb)) (gN _ _)
 |shr=>
  obtain⟨hb,hk⟩:=eX h;exact go _ _ hk (aTp (by simpa using hb)) (gN _ _)
 |_=>cases h
def mW{op:BinOp}{t:TypeId}{x y:Operand}{s u:List UInt8}{v:Value}(h:bX P (Op.stringOp op ⟨s.toArray⟩ ⟨u.toArray⟩)=some v)(hv:cK v=true)(lx:op= .eql∨op= .neq∨op= .lss∨op= .leq∨op= .gtr∨op= .geq∨op= .add):
    gH P op t x y (iD s) (iD u)=some v:=by
 have e:bX P (do eqGuard op t x y (iD s) (iD u);binOp op t (iD s) (iD u))=some v:=by
  rcases lx with rfl|rfl|rfl|rfl|rfl|rfl|rfl<;>
   simp only[iD,bQ,eqGuard,bD,Bool.not_false,Bool.false_eq_true,bN,bO,bS,aL,binOp,h]
 unfold gH cV;rw[show(cK (iD s)&&cK (iD u))=true from rfl,aI,e]
 simp only[hv,aI]
def aBx{op:BinOp}{t:TypeId}{x y:Operand}{a b:List UInt8}{K:V U->Option W}(h:aQg U op a b K=some r):
    ∃v w,K v=some r/\lT P op t x y (.str a) (.str b)=some w/\VR U v.t v.x w:=by
 have go: ∀(v:V U) (w:Value),K v=some r->gH P op t x y (iD a) (iD b)=some w->VR U v.t v.x (wW w)->∃v w,K v=some r/\lT P op t x y (.str a) (.str b)=some w/\VR U v.t v.x w:=
  λv w hk ha hv=>⟨v,wW w,hk,by rw[Vf,ha];rfl,hv⟩
 have hl: ∀s:List UInt8,(⟨s.toArray⟩:ByteArray).toList=s:=λs=>by rw[ByteArray.toList_mk]
 cases op with
 |eql=>exact go _ _ h (mW (v:= .bool (decide (a=b))) (by simp only[Op.stringOp,hl,bq];rfl) rfl (by simp)) (eU _)
 |neq=>exact go _ _ h (mW (v:= .bool (!decide (a=b))) (by simp only[Op.stringOp,hl,bq];rfl) rfl (by simp)) (eU _)
 |lss=>exact go _ _ h (mW (v:= .bool (Op.bytesLess a b)) (by simp only[Op.stringOp,hl,bq];rfl) rfl (by simp)) (eU _)
 |leq=>exact go _ _ h (mW (v:= .bool (Op.bytesLess a b||decide (a=b))) (by simp only[Op.stringOp,hl,bq];rfl) rfl (by simp)) (eU _)
 |gtr=>exact go _ _ h (mW (v:= .bool (!(Op.bytesLess a b||decide (a=b)))) (by simp only[Op.stringOp,hl,bq];rfl) rfl (by simp)) (eU _)
 |geq=>exact go _ _ h (mW (v:= .bool (!Op.bytesLess a b)) (by simp only[Op.stringOp,hl,bq];rfl) rfl (by simp)) (eU _)
 |add=>
  obtain⟨hb,hk⟩:=eX h;rw[Nat.ble_eq]at hb;refine go _ _ hk (mW (v:= .string (⟨a.toArray⟩++⟨b.toArray⟩)) ?_ rfl (by simp)) ?_
  .simp only[Op.stringOp];rw[bH]
   .rfl
   .show¬((((⟨a.toArray⟩:ByteArray).data.size+(⟨b.toArray⟩:ByteArray).data.size:Nat):Int)>9223372036854775807);simp only[List.size_toArray];omega
  .show VR U .str _ (.str (((⟨a.toArray⟩:ByteArray)++⟨b.toArray⟩).data.toList));rw[ByteArray.data_append];simp only[Array.toList_append];exact CE _
 |_=>cases h
def aEx(hU:gO U)(hT:oQ P U T){op:BinOp}{t:TypeId}{x y:Operand}{a b:SV U.D}{p p':PV}{K:V U->Option W}(h:aNF U op (T.T.ty t) a b K=some r)(ra:rG U c a p)(rb:rG U c b p'):
    ∃v w,K v=some r/\lT P op t x y p p'=some w/\VR U v.t v.x w:=by
 unfold aNF at h;split at h
 .rename_i k n j m;rw[iF ra,iF rb];cases hs:Qg op with
  |true=>rw[hs]at h;exact aJV h
  |false=>
   rw[hs]at h;simp only[aJ]at h;cases hj:decide (k=j)with
   |false=>rw[hj]at h;cases h
   |true=>
    rw[hj]at h;have:=bK hj;subst this;exact aCF h
 .rename_i n m;rw[of_bool ra,of_bool rb];split at h
  .rename_i _ ht;have hu:P.underlying t=some .bool:=hT.un t .bool ht;exact⟨_,_,h,by rw[EY rfl rfl,aTu hu];rfl,eU _⟩
  .rename_i _ ht;have hu:P.underlying t=some .bool:=hT.un t .bool ht;exact⟨_,_,h,by rw[EY rfl rfl,aTt hu];rfl,eU _⟩
  .cases h
 .rw[uK ra,uK rb];exact aBx h
 .rename_i n x1 m y1;split at h
  .rename_i i ht;split at h
   .rename_i f x2 y2 hf h1 h2;have e1:=mR h1;have e2:=mR h2;have ra':VR U (.rc i) x2 p:=by have:=ra;unfold rG at this;rw[e1]at this;exact this
    have rb':VR U (.rc i) y2 p':=by have:=rb;unfold rG at this;rw[e2]at this;exact this
    obtain⟨cs,rfl,hc⟩:=IJ ra';obtain⟨ds,rfl,hd⟩:=IJ rb';have jv: ∀{cs:List PV} {x:U.D i},wks cs=U.en i x->cs=U.en i x:=by
     intro cs x hx;have h3:=hU.eqc i f x hf;rw[<-hx]at h3;rw[<-hx];clear hx;induction cs with
     |nil=>rfl
     |cons c cs ih=>
      simp only[wks,aP,aC]at h3;rw[wks,<-ih h3.2];congr 1;have h4:=h3.1;cases hc:wk c<;>rw[hc]at h4<;>first|exact Lc hc|exact ED hc|cases h4
    have he:=hT.eq t i f ht hf x2 y2 x y;rw[<-jv hc,<-jv hd]at he;split at h
    .exact⟨_,_,h,he.1,eU _⟩
    .exact⟨_,_,h,he.2,eU _⟩
    .cases h
   .cases h
  .cases h
 .rename_i e l;have hp:p'= .nil:=rb;subst hp;obtain⟨_,hl⟩:=pC ra;have key: ∀(op:BinOp),l.isEmpty=false->(∃e',T.T.ty t=some (.sl e'))->lT P op t x y p .nil=aK5 op p:=by
   intro op bn ⟨e',ht⟩;obtain⟨fe,hu,_⟩:=hT.un t _ ht;rcases hl with⟨rfl,_⟩|⟨_,rfl⟩
   .cases bn
   .simp only[lT,Uf,oU,hu]
  have cr:l.isEmpty=false->∃z es,p= .sl z es:=λbn=>by
   rcases hl with⟨rfl,_⟩|⟨_,h1⟩
   .cases bn
   .exact⟨_,_,h1⟩
  split at h
  .rename_i ht;obtain⟨bn,hk⟩:=eX h;simp only[Bool.not_eq_true']at bn;obtain⟨z,es,rfl⟩:=cr bn;exact⟨_,_,hk,by rw[key _ bn ⟨_,ht⟩];rfl,eU _⟩
  .rename_i ht;obtain⟨bn,hk⟩:=eX h;simp only[Bool.not_eq_true']at bn;obtain⟨z,es,rfl⟩:=cr bn;exact⟨_,_,hk,by rw[key _ bn ⟨_,ht⟩];rfl,eU _⟩
  .cases h
 .cases h
end
end Go.TV
namespace Go.TV
open Go.AI Go.PI
section
variable{P:Program}{U:gT}{T:TP U.D}{c:Cx}{W:Type}{r:W}
def aJw{op:UnOp}{a:SV U.D}{p:PV}{K:V U->Option W}(h:aYw U op a K=some r)(ra:rG U c a p): ∃v w,K v=some r/\aSW P op p=some w/\VR U v.t v.x w:=by
 unfold aYw at h;split at h
 .rw[of_bool ra];exact⟨_,_,h,rfl,eU _⟩
 .rename_i k n;rw[iF ra];refine⟨_,.v (.int k (k.wrap (0-n))),h,?_,gN _ _⟩;cases k<;>rfl
 .cases h
def Ek: ∀{l:List Int} {s:List UInt8},Cd l=some s->jG (l.map λn=>PV.v (.int .u8 n))=some s
 |[],s,h=>by simp only[Cd,aA]at h;subst h;rfl
 |n::l,s,h=>by
  unfold Cd at h;split at h
  .rename_i s' hs;cases h;simp only[aO,jG,Ek hs,aK]
  .cases h
def Xi(hT:oQ P U T){sq:Bool}{s d:TypeId}{a:SV U.D}{p:PV}{K:V U->Option W}(h:Xj U sq (T.T.ty s) (T.T.ty d) a K=some r)(ra:rG U c a p):
    ∃v w,K v=some r/\VR U v.t v.x w/\(tU P s d p=some w∨(sq=true/\tU P s d p=none/\wU P s d p=some w)):=by
 unfold Xj at h;split at h
 .rename_i k1 j k n hs hd;rw[iF ra];have h1:P.underlying s=some (.int k1):=hT.un s _ hs;have h2:P.underlying d=some (.int j):=hT.un d _ hd;refine⟨_,.v (.int j (j.wrap n)),h,gN _ _,.inl ?_⟩;have:=aLt (k:=k) (a:=n) h1 h2;simp only[XP,bR,aI]at this;simp only[tU,oU,bR,aI,this];rfl
 .rename_i x hs hd;rw[uK ra];have h1:P.underlying s=some .string:=hT.un s _ hs;have h2:P.underlying d=some .string:=hT.un d _ hd;refine⟨_,.str x,h,CE _,.inl ?_⟩;simp only[tU,oU,cV,convert,bQ,bT,h1,h2,aL,bS,cK,aI];rfl
 .rename_i l hs hd;cases sq with
  |false=>cases h
  |true=>
   obtain⟨x,hx,hk⟩:=mD h;obtain⟨e,h1,he,_⟩:=hT.un s _ hs;have h2:P.underlying d=some .string:=hT.un d _ hd;have h3:P.underlying e=some (.int .u8):=hT.un e _ he;obtain⟨ta,hl⟩:=pC ra;refine⟨_,.str x,hk,CE _,.inr ⟨rfl,?_,?_⟩⟩
   .have:oU p=none:=by
     rcases hl with⟨_,rfl|rfl|rfl⟩|⟨_,rfl⟩<;>rfl
    simp only[tU,this]
   .have gj:mQ 1 p=some (l.map λn=>PV.v (.int .u8 n)):=ta
    simp only[wU,h1,h2,h3,gj,Ek hx,aK]
 .cases h
def Vc{w:Bool}{a b:X U}{p q:PV}{o1 o2:Bool}{K:X U->Option W}(h:Vd U w a b K=some r)(ra:oE U c a (p,o1))(rb:oE U c b (q,o2)):
    ∃x,K x=some r/\oE U c x (bif w then p else q,false):=by
 unfold Vd at h;split at h
 .rename_i t x u y ea eb;split at h
  .rename_i y' hy;have e:=mR hy;have h1:=ra.1;have h2:=rb.1;rw[ea]at h1;rw[eb,e]at h2;refine⟨_,h,?_,bW _ _⟩;cases w with
   |true=>exact h1
   |false=>exact h2
  .cases h
 .rcases B4 h with⟨rfl,hk⟩|⟨rfl,hk⟩
  .exact⟨_,hk,rZ ra⟩
  .exact⟨_,hk,rZ rb⟩
def aCx(hT:oQ P U T){t:TypeId}{x:SV U.D}{p:PV}{K:X U->Option W}(h:aLR U (T.T.ty t) x K=some r)(ra:rG U c x p):
    ∃y w,K y=some r/\zY P t p=some w/\oE U c y (w,false):=by
 unfold aLR at h;split at h
 .rename_i e e' l ht;cases he:e.beq e' with
  |false=>rw[he]at h;cases h
  |true=>
   rw[he]at h;obtain⟨fe,hu,_⟩:=hT.un t _ ht;obtain⟨_,hl⟩:=pC ra;refine⟨_,i64 (l.length:Int),h,?_,gN _ _,bW _ _⟩;simp only[zY,hu];rcases hl with⟨rfl,rfl|rfl|rfl⟩|⟨_,rfl⟩<;>simp
 .rename_i l ht;have hu:P.underlying t=some .string:=hT.un t _ ht;rw[uK ra];refine⟨_,i64 (l.length:Int),h,?_,gN _ _,bW _ _⟩;simp only[zY,hu]
 .rename_i e ht;have hp:p= .nil:=ra;subst hp;obtain⟨fe,hu,_⟩:=hT.un t _ ht;exact⟨_,i64 0,h,by simp only[zY,hu],gN _ _,bW _ _⟩
 .cases h
def VS{mx:Bool}{ts:Array TypeId}{ty:TypeId}{a b:SV U.D}{p q:PV}{K:X U->Option W}(h:aXG U mx a b K=some r)(ra:rG U c a p)(rb:rG U c b q):
    ∃y w,K y=some r/\mB P mx ts ty [p,q]=some w/\oE U c y (w,false):=by
 unfold aXG at h;split at h
 .rename_i x y;rw[iF ra,iF rb];refine⟨_,_,h,?_,gN _ _,bW _ _⟩;cases mx with
  |true=>
   simp only[mB,Lk,oU,bR,aI,cV,Builtin.max_,List.foldlM_cons,List.foldlM_nil,Builtin.max2,bQ,bS,aL,cK];by_cases ml:x<y
   .simp[ml];rfl
   .simp[ml];rfl
  |false=>
   simp only[mB,Lk,oU,bR,aI,aJ,cV,Builtin.min_,List.foldlM_cons,List.foldlM_nil,Builtin.min2,bQ,bS,aL,cK];by_cases ml:y<x
   .simp[ml];rfl
   .simp[ml];rfl
 .cases h
def mC{x:Option (SV U.D)}{y:Option PV}{i:Option Int}(h:Vj U x=some i)(hr: ∀a,x=some a->∃b,y=some b/\rG U c a b)(hn:x=none->y=none):
    (i=none/\y=none)∨∃n k,i=some n/\y=some (.v (.int k n)):=by
 unfold Vj at h;split at h
 .cases h;exact .inl ⟨rfl,hn rfl⟩
 .rename_i k n;cases h;obtain⟨b,h1,h2⟩:=hr _ rfl;exact .inr ⟨n,k,rfl,by rw[h1,iF h2]⟩
 .cases h
def iE{S:TS U.D}{S':PS}(F:kU U c S S')(x:Option Operand):(∀a,(x.map λx=>(iQ U S x).1)=some a->∃b,x.map (cP S')=some b/\rG U c a b)/\((x.map λx=>(iQ U S x).1)=none->x.map (cP S')=none):=by
 cases x with
 |none=>exact⟨λa h=>(by cases h),λ_=>rfl⟩
 |some x=>exact⟨λa h=>by cases h;exact⟨_,rfl,(cX F x).1⟩,λh=>by cases h⟩
def AT{N:Type}{l s:List N}{lo hi:Int}(h:slc l lo hi=some s):0<=lo/\lo<=hi/\hi<=(l.length:Int)/\s=(l.take hi.toNat).drop lo.toNat:=by
 unfold slc at h;cases hb:decide (0<=lo)&&decide (lo<=hi)&&decide (hi<=(l.length:Int))with
 |false=>rw[hb]at h;cases h
 |true=>
  rw[hb]at h;simp only[aI,aA]at h;simp only[aC,aD]at hb;exact⟨hb.1.1,hb.1.2,hb.2,h.symm⟩
def JW(s:List UInt8)(l h:Nat):((⟨s.toArray⟩:ByteArray).extract l h).data.toList=(s.take h).drop l:=by
 rw[ByteArray.data_extract];simp only[Array.toList_extract,List.extract_eq_take_drop];rw[List.drop_take]
def aJR(hT:oQ P U T){S:TS U.D}{S':PS}(F:kU U c S S'){p:PSt}{t:TypeId}{x:SV U.D}{a:PV}{lo hi mx:Option Operand}{K:X U->Option W}(h:aYY U S (T.T.ty t) x lo hi mx K=some r)(ra:rG U c x a):
    ∃y w own,K y=some r/\kE P p t a (lo.map (cP S')) (hi.map (cP S')) (mx.map (cP S'))=some (w,own)/\oE U c y (w,own):=by
 unfold aYY at h;split at h
 .rename_i s l hh ht hl ka hm;have h1:=mC hl (iE F lo).1 (iE F lo).2;have h2:=mC ka (iE F hi).1 (iE F hi).2;have h3:=mC hm (iE F mx).1 (iE F mx).2;obtain⟨q,hq,hk⟩:=mD h;obtain⟨b1,b2,b3,rfl⟩:=AT hq;have hu:P.underlying t=some .string:=hT.un t _ ht;rw[uK ra];rcases h3 with⟨_,h3⟩|⟨_,_,h3,_⟩
  .refine⟨_,.str ((s.take (hh.getD (s.length:Int)).toNat).drop (l.getD 0).toNat),false,hk,?_,CE _,bW _ _⟩;have key: ∀(lv hv:Option Value),(lv=none/\l=none∨∃n k,l=some n/\lv=some (.int k n))->(hv=none/\hh=none∨∃n k,hh=some n/\hv=some (.int k n))->
          cV P (Instr.sliceAt t (.string ⟨s.toArray⟩) lv hv none)=some (.string ((⟨s.toArray⟩:ByteArray).extract (l.getD 0).toNat (hh.getD (s.length:Int)).toNat)):=by
    intro lv hv hlv hhv;have cq:(⟨s.toArray⟩:ByteArray).size=s.length:=by show s.toArray.size=_;simp
    have e:bX P (Instr.sliceBounds false s.length s.length lv hv none)=some ((l.getD 0).toNat,(hh.getD (s.length:Int)).toNat,s.length):=by
     rcases hlv with⟨rfl,rfl⟩|⟨n,k,rfl,rfl⟩<;>rcases hhv with⟨rfl,rfl⟩|⟨m,j,rfl,rfl⟩
     .simp[Instr.sliceBounds,bQ,bS]
     .simp only[Option.getD_none,Option.getD_some]at b1 b2 b3;simp[Instr.sliceBounds,Instr.sliceBound,asIntOf,bQ,bS,b2,b3]
     .simp only[Option.getD_none,Option.getD_some]at b1 b2 b3;simp[Instr.sliceBounds,Instr.sliceBound,asIntOf,bQ,bS,b1,b2]
     .simp only[Option.getD_some]at b1 b2 b3;have b0:0<=m:=by omega
      have b4:(m.toNat:Int)=m:=by omega
      simp[Instr.sliceBounds,Instr.sliceBound,asIntOf,bQ,bS,b0,b1,b2,b3,b4]
    simp only[cV,Instr.sliceAt,Instr.slice,bQ,bT,hu,aL,Option.isSome_none,Bool.false_eq_true,bN,bS,cq,e,cK,bR,aI]
   have hv1: ∃lv,Ly (lo.map (cP S'))=some lv/\(lv=none/\l=none∨∃n k,l=some n/\lv=some (.int k n)):=by
    rcases h1 with⟨rfl,e⟩|⟨n,k,rfl,e⟩
    .exact⟨none,by rw[e];rfl,.inl ⟨rfl,rfl⟩⟩
    .exact⟨some (.int k n),by rw[e];rfl,.inr ⟨n,k,rfl,rfl⟩⟩
   have hv2: ∃hv,Ly (hi.map (cP S'))=some hv/\(hv=none/\hh=none∨∃n k,hh=some n/\hv=some (.int k n)):=by
    rcases h2 with⟨rfl,e⟩|⟨n,k,rfl,e⟩
    .exact⟨none,by rw[e];rfl,.inl ⟨rfl,rfl⟩⟩
    .exact⟨some (.int k n),by rw[e];rfl,.inr ⟨n,k,rfl,rfl⟩⟩
   obtain⟨lv,e1,g1⟩:=hv1;obtain⟨hv,e2,g2⟩:=hv2;simp only[kE,hu,e1,e2,h3,key lv hv g1 g2,aK,wW,JW]
  .cases h3
 .rename_i e e' s l hh ht hl ka hm;have h1:=mC hl (iE F lo).1 (iE F lo).2;have h2:=mC ka (iE F hi).1 (iE F hi).2;have h3:=mC hm (iE F mx).1 (iE F mx).2;cases he:e.beq e' with
  |false=>rw[he]at h;cases h
  |true=>
   rw[he]at h;have:=Ty.beq_eq he;subst this;obtain⟨q,hq,hk⟩:=mD h;obtain⟨b1,b2,b3,rfl⟩:=AT hq;obtain⟨fe,hu,gu,_⟩:=hT.un t _ ht;have cq:=hT.sz fe e gu;have i1:lU (lo.map (cP S'))=some l:=by rcases h1 with⟨rfl,e⟩|⟨n,k,rfl,e⟩<;>rw[e]<;>rfl
   have i2:lU (hi.map (cP S'))=some hh:=by rcases h2 with⟨rfl,e⟩|⟨n,k,rfl,e⟩<;>rw[e]<;>rfl
   have i3:lU (mx.map (cP S'))=some none:=by rcases h3 with⟨_,e⟩|⟨n,k,e,_⟩;rw[e];rfl;cases e
   obtain⟨_,qn⟩:=pC ra;refine⟨_,dD (cZ U e) (((s.map (dB U e)).take (hh.getD (s.length:Int)).toNat).drop (l.getD 0).toNat),false,hk,?_,uB _ _ rfl (by rw[List.map_drop,List.map_take]),bW _ _⟩
   rcases qn with⟨rfl,h4⟩|⟨_,rfl⟩
   .have b2:l.getD 0<=hh.getD 0:=b2;have b3:hh.getD 0<=0:=b3;have c1:(decide (0<=l.getD 0)&&decide (l.getD 0<=hh.getD 0)&&decide (hh.getD 0<=0))=true:=by
     simp only[aC,aD];exact⟨⟨b1,b2⟩,b3⟩
    rcases h4 with rfl|rfl|rfl
    .simp only[kE,hu,cq,i1,i2,i3,c1,aI];simp[dD]
    .simp only[kE,hu,cq,i1,i2,i3,c1,aI];simp[dD]
    .simp only[kE,hu,cq,i1,i2,i3,Nat.beq_refl,Bool.true_and];rw[show(decide (0<=l.getD 0)&&decide (l.getD 0<=hh.getD ((([]:List PV).length:Nat):Int))&&decide (hh.getD ((([]:List PV).length:Nat):Int)<=((([]:List PV).length:Nat):Int)))=true from c1];simp[dD]
   .have c1:(Nat.beq (cZ U e) (cZ U e)&&decide (0<=l.getD 0)&&decide (l.getD 0<=hh.getD (s.length:Int))&&decide (hh.getD (s.length:Int)<=(s.length:Int)))=true:=by
     simp only[Nat.beq_refl,Bool.true_and,aC,aD];exact⟨⟨b1,b2⟩,b3⟩
    simp only[kE,hu,cq,i1,i2,i3,List.length_map];rw[c1];rfl
 .rename_i e e' s l hh m ht hl ka hm;have h1:=mC hl (iE F lo).1 (iE F lo).2;have h2:=mC ka (iE F hi).1 (iE F hi).2;have h3:=mC hm (iE F mx).1 (iE F mx).2;cases he:e.beq e' with
  |false=>rw[he]at h;cases h
  |true=>
   rw[he]at h;have:=Ty.beq_eq he;subst this;rw[aI]at h;obtain⟨fe,hu,gu,_⟩:=hT.un t _ ht;have cq:=hT.sz fe e gu;have i1:lU (lo.map (cP S'))=some l:=by rcases h1 with⟨rfl,e⟩|⟨n,k,rfl,e⟩<;>rw[e]<;>rfl
   have i2:lU (hi.map (cP S'))=some (some hh):=by rcases h2 with⟨e,_⟩|⟨n,k,e0,e⟩;cases e;rw[e];cases e0;rfl
   have i3:lU (mx.map (cP S'))=some (some m):=by rcases h3 with⟨e,_⟩|⟨n,k,e0,e⟩;cases e;rw[e];cases e0;rfl
   obtain⟨_,qn⟩:=pC ra;cases hk0:aUt mx with
   |true=>
    rw[hk0,aI]at h;have hc:=(eX h).1
    replace h:=(eX h).2
    simp only[aC,aD,List.isEmpty_iff]at hc;obtain⟨⟨⟨rfl,hl0⟩,rfl⟩,rfl⟩:=hc;refine⟨_,.emp,true,h,?_,uB (U:=U) e [] (es:=[]) rfl rfl,?_⟩
    .rcases qn with⟨_,h4⟩|⟨h4,_⟩
     .rcases h4 with rfl|rfl|rfl
      all_goals simp[kE,hu,cq,i1,i2,i3,hl0]
     .exact absurd rfl h4
    .intro o s' qm;simp only[List.mem_singleton,aB]at qm;exact .inr ⟨qm.1,rfl,rfl,λ_=>rfl⟩
   |false=>
   rw[hk0,aJ]at h;obtain⟨hc,h⟩:=eX h;simp only[aC,aD]at hc;obtain⟨q,hq,hk⟩:=mD h;obtain⟨b1,b2,b3,rfl⟩:=AT hq;rcases qn with⟨rfl,_⟩|⟨_,rfl⟩
   .simp only[aX]at b3;omega
   .refine⟨_,dD (cZ U e) (((s.map (dB U e)).take hh.toNat).drop (l.getD 0).toNat),true,hk,?_,uB _ _ rfl (by rw[List.map_drop,List.map_take]),?_⟩
    .have c1:(Nat.beq (cZ U e) (cZ U e)&&decide (0<=l.getD 0)&&decide (l.getD 0<(some hh).getD (s.length:Int))&&decide ((some hh).getD (s.length:Int)<=(s.length:Int))&&(some hh).isSome&&decide ((some hh).getD (s.length:Int)=m))=true:=by
      simp only[Nat.beq_refl,Bool.true_and,aC,aD,Option.getD_some,Option.isSome_some,and_true];exact⟨⟨⟨b1,hc.2⟩,b3⟩,hc.1⟩
     simp only[kE,hu,cq,i1,i2,i3,List.length_map];rw[c1];rfl
    .intro o s' qm;simp only[List.mem_singleton,aB]at qm;refine .inr ⟨qm.1,?_,rfl,λ_=>?_⟩
     .have:=eJ (cZ U e) (((s.map (dB U e)).take hh.toNat).drop (l.getD 0).toNat);cases hc:dD (cZ U e) (((s.map (dB U e)).take hh.toNat).drop (l.getD 0).toNat)<;>first|rfl|(rw[hc]at this;cases this)
     .exact xN (eJ _ _)
 .cases h
end
end Go.TV
namespace Go.TV
open Go.AI Go.PI
section
variable{P:Program}{U:gT}{T:TP U.D}{c:Cx}{W:Type}{r:W}(hU:gO U)(hT:oQ P U T)
def Fa{o n:Nat}: ∀{rs:iL} {x:Nat×Bool},x∈Kb o n rs->(x.1+o,x.2)∈rs/\x.1<n
 |[],x,h=>by cases h
 |y::rs,x,h=>by
  unfold Kb at h;cases hb:Nat.ble o y.1&&Nat.blt y.1 (o+n)with
  |false=>
   rw[hb]at h;obtain⟨h1,h2⟩:=Fa h;exact⟨aG _ h1,h2⟩
  |true=>
   rw[hb]at h;simp only[aC,Nat.ble_eq,gQ,aD]at hb;rcases List.mem_cons.1 h with rfl|h
   .refine⟨?_,by simp only;omega⟩
    have:y.1-o+o=y.1:=by omega
    simp only[this];exact aH ..
   .obtain⟨h1,h2⟩:=Fa h;exact⟨aG _ h1,h2⟩
def AM{id:TypeId}{n f:Nat}{w:Ty}(hT:oQ P U T)(ht:G1 T.T id=some (.rc n))(hw:(U.fs n)[f]?=some w):
    ∃fs fd,P.underlying id=some (.struct fs)/\fs[f]?=some fd/\T.T.ty fd.type=some w/\fd.offset=jM U n f:=by
 obtain⟨ht,ha⟩:=Sd ht;obtain⟨fs,hu,cq,hf⟩:=hT.un id _ ht ha;have bh:f<(U.fs n).length:=by
  rcases Nat.lt_or_ge f (U.fs n).length with h|h
  .exact h
  .rw[List.getElem?_eq_none h]at hw;cases hw
 have jt:f<fs.size:=by rw[cq];exact bh
 have so:fs[f]?=some fs[f]:=Array.getElem?_eq_getElem jt;obtain⟨h1,h2⟩:=hf f _ so;exact⟨fs,fs[f],hu,so,by rw[h1,hw],h2⟩
def Ut{rs:iL}{cs:List PV}{o n:Nat}{ow:Bool}{q:PV}(h:Tv rs (.agg cs) ow)(hq:q.cells=(cs.drop o).take n):Tv (Kb o n rs) q false:=λi s hi=>by
 obtain⟨h1,h2⟩:=Fa hi;rcases h _ _ h1 with⟨_,h3⟩|⟨_,h3,_⟩
 .have h4:q.cells[i]?=some .nil:=by
   rw[hq,List.getElem?_take,bI h2,List.getElem?_drop,Nat.add_comm];exact h3
  cases kd:isAgg q with
  |true=>exact .inl ⟨rfl,h4⟩
  |false=>
   have:q.cells=[q]:=mT λds e=>by rw[e]at kd;cases kd
   rw[this]at h4;cases i with
   |zero=>
    simp only[aU,aA]at h4;subst h4;exact .inr ⟨rfl,rfl,rfl,λ_=>rfl⟩
   |succ i=>simp at h4
 .cases h3
include hU hT
def WP{t:TypeId}{n f:Nat}{v w:V U}{rs:iL}{p:PV}{ow:Bool}(ht:G1 T.T t=some (.rc n))(hv:v.t.beq (.rc n)=true)(hw:Fx U v f=some w)(ra:oE U c (.val v,rs) (p,ow)):
    ∃q,Bc P t p f=some q/\oE U c (.val w,Kb (jM U n f) (cZ U w.t) rs) (q,false):=by
 obtain⟨t',x⟩:=v;have:=Ty.beq_eq hv;subst this;obtain⟨cs,rfl,hcs⟩:=IJ ra.1;have hsr:SR (U:=U) (.rc n) x cs:=(VR.sr ra.1);have qe:(U.un n x)[f]?=some w:=hw;obtain⟨fs,fd,hu,so,fj,jp⟩:=AM hT ht (BH hU qe);obtain⟨q,h1,h2,h3,h4⟩:=vM hU hT fj (hsr.fld hU qe);refine⟨q,?_,h2,Ut ra.2 h3⟩;simp only[Bc,hu,so,jp];exact h1
def oL{t:TypeId}{n f:Nat}(ht:G1 T.T t=some (.rc n))(hf:f<(U.fs n).length):
    (∀id off,gY P t (.ptr id off) f=some (.ptr id (off+jM U n f)))/\(∀es i off,gY P t (.pin es i off) f=some (.pin es i (off+jM U n f))):=by
 obtain⟨w,hw⟩: ∃w,(U.fs n)[f]?=some w:=⟨_,aV hf⟩;obtain⟨fs,fd,hu,so,fj,jp⟩:=AM hT ht hw;have hz:Nat.beq (cZ U w) 0=false:=by
  rw[cQ,bC];have:=oC hU w;omega
 constructor
 .intro id off;simp only[gY,hu,so,hT.sz _ _ fj,hz,aJ,jp]
 .intro es i off;simp only[gY,hu,so,hT.sz _ _ fj,hz,aJ,jp]
def FC{t:TypeId}{n f:Nat}{v w:V U}{p:PV}(ht:G1 T.T t=some (.rc n))(hv:v.t.beq (.rc n)=true)(hw:Fx U v f=some w)(ra:rG U c (.ep v) p):
    ∃q,gY P t p f=some q/\rG U c (.ep w) q:=by
 obtain⟨es,i,off,e,rfl,he,hcs⟩:=ra;obtain⟨t',x⟩:=v;have:=Ty.beq_eq hv;subst this;have qe:(U.un n x)[f]?=some w:=hw;have bh:f<(U.fs n).length:=by
  have:=BH hU qe;rcases Nat.lt_or_ge f (U.fs n).length with h|h
  .exact h
  .rw[List.getElem?_eq_none h]at this;cases this
 refine⟨_,(oL hU hT ht bh).2 _ _ _,_,_,_,_,rfl,he,?_⟩;have hfc:=xP hU qe;have td:(e.cells.drop off).take (U.sz n)=U.en n x:=hcs;rw[<-hfc,<-td];have hle:jM U n f+cZ U w.t<=U.sz n:=by
  have h1:((U.en n x).drop (jM U n f)).take (cZ U w.t)=(dB U w.t w.x).cells:=hfc;have h2:=congrArg List.length h1;rw[List.length_take,List.length_drop,hU.len,iH hU]at h2;have:=oC hU w.t;omega
 rw[List.drop_take,List.drop_drop,List.take_take,Nat.min_eq_left (by omega)]
omit hU hT in
def uD(te:Ty): ∀j:Nat,eE U (List.replicate j te)=j*cZ U te
 |0=>by simp[eE]
 |j+1=>by
  rw[List.replicate_succ,Nat.succ_mul];simp only[eE];rw[uD te j];omega
def Fi{t:TypeId}{n j:Nat}{v w:V U}{p:PV}{k:IntKind}(ht:T.T.ty t=some (.rc n))(ha:T.T.arr t=true)(hv:v.t.beq (.rc n)=true)(hw:Fx U v j=some w)(ra:rG U c (.ep v) p):
    ∃q,fR P t p (.v (.int k (j:Int)))=some q/\rG U c (.ep w) q:=by
 obtain⟨es,i,off,e,rfl,he,hcs⟩:=ra;obtain⟨t',x⟩:=v;have:=Ty.beq_eq hv;subst this;have qe:(U.un n x)[j]?=some w:=hw;have bh:j<(U.fs n).length:=by
  have:=BH hU qe;rcases Nat.lt_or_ge j (U.fs n).length with h|h
  .exact h
  .rw[List.getElem?_eq_none h]at this;cases this
 obtain⟨len,el,te,hu,hz,hf⟩:=hT.arr t n ht ha;have hj:j<len:=by rw[hf,List.length_replicate]at bh;exact bh
 have hin:bV (j:Int) len=true:=by simp only[bV,aC,aD];omega
 have ho:jM U n j=j*cZ U te:=by rw[jM,hf,List.take_replicate,Nat.min_eq_left (by omega)];exact uD _ _
 refine⟨.pin es i (off+Int.toNat (j:Int)*cZ U te),by simp only[fR,hu,hz,hin,aI],_,_,_,_,rfl,he,?_⟩
 have hfc:=xP hU qe;have td:(e.cells.drop off).take (U.sz n)=U.en n x:=hcs;rw[<-hfc,<-td];have hle:jM U n j+cZ U w.t<=U.sz n:=by
  have h1:((U.en n x).drop (jM U n j)).take (cZ U w.t)=(dB U w.t w.x).cells:=hfc;have h2:=congrArg List.length h1;rw[List.length_take,List.length_drop,hU.len,iH hU]at h2;have:=oC hU w.t;omega
 rw[List.drop_take,List.drop_drop,List.take_take,Nat.min_eq_left (by omega),Int.toNat_natCast,ho]
omit hU hT in
def vV{N:Type}{l:List N}{n:Int}{y:N}(h:eK l n=some y):0<=n/\l[n.toNat]?=some y/\n.toNat<l.length:=by
 unfold eK at h;cases hb:decide (0<=n)with
 |false=>rw[hb]at h;cases h
 |true=>
  rw[hb]at h;refine⟨bK hb,h,?_⟩;rcases Nat.lt_or_ge n.toNat l.length with h1|h1
  .exact h1
  .rw[aI,List.getElem?_eq_none h1]at h;cases h
def Fh{t:TypeId}{e e':Ty}{l:List (Den U.D e')}{y:Den U.D e'}{k:IntKind}{n:Int}{p:PV}(ht:T.T.ty t=some (.sl e))(he:e.beq e'=true)(hy:eK l n=some y)(ra:rG U c (.val ⟨.sl e',l⟩) p):
    ∃q,fR P t p (.v (.int k n))=some q/\rG U c (.ep ⟨e',y⟩) q:=by
 have:=Ty.beq_eq he;subst this;obtain⟨h0,h1,h2⟩:=vV hy;obtain⟨fe,hu,gu,_⟩:=hT.un t _ ht;obtain⟨_,hl⟩:=pC ra;rcases hl with⟨hl,_⟩|⟨_,rfl⟩
 .have hl:l=[]:=hl;subst hl;simp at h2
 .refine⟨.pin (l.map (dB U e)) n.toNat 0,?_,_,_,_,_,rfl,by rw[List.getElem?_map,h1];rfl,?_⟩
  .have c1:(Nat.beq (cZ U e) (cZ U e)&&bV n (l.map (dB U e)).length)=true:=by
    simp only[Nat.beq_refl,Bool.true_and,bV,List.length_map,aC,aD];exact⟨h0,by omega⟩
   simp only[fR,hu,hT.sz _ _ gu,c1,aI]
  .rw[List.drop_zero,List.take_of_length_le (by rw[iH hU];exact aS _)]
omit hU in
def V7{t:TypeId}{s:List UInt8}{b:UInt8}{k:IntKind}{n:Int}{p:PV}(ht:T.T.ty t=some .str)(hy:eK s n=some b)(ra:rG U c (.val ⟨.str,s⟩) p):
    wT P t p (.v (.int k n))=some (.v (.int .u8 (b.toNat:Int))):=by
 obtain⟨h0,h1,h2⟩:=vV hy;have hu:P.underlying t=some .string:=hT.un t _ ht;rw[uK ra];have cq:(⟨s.toArray⟩:ByteArray)[n.toNat]?=some b:=by
  have h3:s[n.toNat]'h2=b:=by rw[aV h2]at h1;exact Option.some.inj h1
  show(if h:n.toNat<(⟨s.toArray⟩:ByteArray).size then some _ else none)=_
  rw[dif_pos (show n.toNat<(⟨s.toArray⟩:ByteArray).size by show n.toNat<s.toArray.size;simpa using h2)]
  congr 1
 simp only[wT,hu,oU,bR,aI,cV,Instr.index,asIntOf,bQ,bS,aL,bT,h0,bO,cq,cK];rfl
end
end Go.TV
namespace Go.TV
open Go.AI Go.PI
section
variable{P:Program}{U:gT}{T:TP U.D}{c:Cx}{W:Type}{r:W}
def HR: ∀(x a b e:List PV),b.length=x.length->wQ (a++b++e) a.length x=a++x++e
 |[],a,b,e,h=>by
  have:b=[]:=List.length_eq_zero_iff.1 h;subst this;simp[wQ]
 |y::x,a,b,e,h=>by
  cases b with
  |nil=>simp at h
  |cons z b=>
   have h1:(a++(z::b)++e).set a.length y=(a++ [y])++b++e:=by
    rw[aQ,List.set_append_right _ _ (aS _)];simp
   have h2:=HR x (a++ [y]) b e (by simpa using h)
   rw[wQ,h1];simp only[aZ,aM,aX]at h2;rw[h2];simp
def Sp: ∀(ss:List (List PV)) (i:Nat) (s x:List PV),ss[i]?=some s->s.length=x.length->wQ ss.flatten (ss.take i).flatten.length x=(ss.set i x).flatten:=by
 intro ss i s x h hl;have h1:i<ss.length:=by
  rcases Nat.lt_or_ge i ss.length with h1|h1
  .exact h1
  .rw[List.getElem?_eq_none h1]at h;cases h
 have hs:ss[i]=s:=by rw[aV h1]at h;exact Option.some.inj h
 have e1:ss.flatten=(ss.take i).flatten++s++(ss.drop (i+1)).flatten:=by
  have h3:ss=ss.take i++(ss[i]::ss.drop (i+1)):=by rw[<-List.drop_eq_getElem_cons h1,List.take_append_drop]
  conv=>lhs;rw[h3]
  rw[List.flatten_append,List.flatten_cons,hs,aQ]
 have e2:(ss.set i x).flatten=(ss.take i).flatten++x++(ss.drop (i+1)).flatten:=by
  rw[List.set_eq_take_append_cons_drop,bI h1,List.flatten_append,List.flatten_cons,aQ]
 rw[e1,e2];exact HR x _ s _ hl
def zW(U:gT):List (V U×Bool)->List (List PV)->Prop
 |[],[]=>True
 |y::l,s::ss=>(SR y.1.t y.1.x s/\(y.2=true->∀o b,(o,b)∈vP U y.1.t->s[o]?=some .nil))/\zW U l ss
 |_,_=>False
def HB: ∀{l:List (V U×Bool)} {ss:List (List PV)} {i:Nat} {y:V U×Bool},zW U l ss->l[i]?=some y->∃s,ss[i]?=some s/\SR y.1.t y.1.x s
 |[],[],i,y,_,h=>by simp at h
 |z::l,s::ss,0,y,h,e=>by simp only[aU,aA]at e;subst e;exact⟨s,rfl,h.1.1⟩
 |z::l,s::ss,i+1,y,h,e=>by rw[aT]at e;obtain⟨s',h1,h2⟩:=HB h.2 e;exact⟨s',by rw[aT];exact h1,h2⟩
 |[],_::_,_,_,h,_=>h.elim
 |_::_,[],_,_,h,_=>h.elim
def HA: ∀{l:List (V U×Bool)} {ss:List (List PV)} {i:Nat} {y:V U×Bool} {s:List PV},zW U l ss->(SR y.1.t y.1.x s/\(y.2=true->∀o b,(o,b)∈vP U y.1.t->s[o]?=some .nil))->zW U (setF U l i y) (ss.set i s)
 |[],[],i,y,s,h,_=>by simp[setF,zW]
 |z::l,s'::ss,0,y,s,h,e=>⟨e,h.2⟩
 |z::l,s'::ss,i+1,y,s,h,e=>⟨h.1,HA h.2 e⟩
 |[],_::_,_,_,_,h,_=>h.elim
 |_::_,[],_,_,_,h,_=>h.elim
def AU: ∀{l:List (V U×Bool)} {i:Nat} {y z:V U×Bool},l[i]?=some z->y.1.t=z.1.t->(setF U l i y).map (λx=>x.1.t)=l.map λx=>x.1.t
 |[],i,y,z,h,_=>by simp at h
 |w::l,0,y,z,h,e=>by simp only[aU,aA]at h;subst h;simp[setF,e]
 |w::l,i+1,y,z,h,e=>by rw[aT]at h;simp only[setF,aO,AU h e]
def PW: ∀(ts:List Ty) (i o:Nat) (t:Ty),ts[i]?=some t->(Sv U ts o)[i]?=some (o+eE U (ts.take i),cZ U t)
 |[],i,o,t,h=>by simp at h
 |u::ts,0,o,t,h=>by simp only[aU,aA]at h;subst h;simp[Sv,eE]
 |u::ts,i+1,o,t,h=>by
  rw[aT]at h;rw[Sv,aT,PW ts i _ t h,List.take_succ_cons,eE,Nat.add_assoc]
variable(hU:gO U)(hT:oQ P U T)
include hU
def K2(t:Ty):wks (GH U t)=(dB U t (nH U t)).cells:=by
 cases t with
 |rc n=>exact hU.zc n
 |int k=>rfl
 |bool=>rfl
 |str=>rfl
 |sl t=>rfl
omit hU in
def aA2(ts:List Ty): ∀c∈ts.flatMap aAX,∀z es,c≠ .sl z es:=by
 intro c hc z es e;rw[List.mem_flatMap]at hc;obtain⟨t,_,h⟩:=hc;cases t<;>simp[aAX,e]at h
def K3(t:Ty):SR t (nH U t) (GH U t):=⟨K2 hU t,λj z hj=>(aA2 _ _ (List.mem_of_getElem? hj) z [] rfl).elim⟩
def GG(t:Ty): ∀o b,(o,b)∈vP U t->(GH U t)[o]?=some .nil:=by
 intro o b h;cases t with
 |rc n=>
  have h1:=bJ.1 (hU.nz n) _ h;unfold aF7 at h1;split at h1
  .rename_i e;exact e
  .cases h1
 |sl t=>
  simp only[vP,List.mem_singleton,aB]at h;rw[h.1];rfl
 |_=>cases h
def GF: ∀(ts:List Ty),zW U (wK U ts) (ts.map (GH U))
 |[]=>trivial
 |t::ts=>⟨⟨K3 hU t,λ_=>GG hU t⟩,GF ts⟩
omit hU in
def GC: ∀(ts:List Ty),(wK U ts).map (λx=>x.1.t)=ts
 |[]=>rfl
 |t::ts=>by rw[wK,aO,GC ts]
def RS(n:Nat):((U.fs n).map (GH U)).flatten=GH U (.rc n):=by
 show _=(U.lt n).flatMap aAX;rw[hU.lt n];induction U.fs n with
 |nil=>rfl
 |cons t ts ih=>rw[aO,List.flatten_cons,ih,aN,List.flatMap_append];rfl
def uF: ∀{l:List (V U×Bool)} {ss:List (List PV)},zW U l ss->∀i,((ss.take i).flatten).length=eE U ((l.map λx=>x.1.t).take i)
 |[],[],_,i=>by simp[eE]
 |y::l,s::ss,h,0=>by simp[eE]
 |y::l,s::ss,h,i+1=>by
  rw[List.take_succ_cons,List.flatten_cons,aZ,uF h.2 i,h.1.1.len hU,aO,List.take_succ_cons];rfl
 |[],_::_,h,_=>h.elim
 |_::_,[],h,_=>h.elim
def KB{S:TS U.D}{S':PS}(F:kU U c S S'){ts:List Ty}{place:Nat->Option (Nat×Nat)}(hp: ∀i t,ts[i]?=some t->place i=some (eE U (ts.take i),cZ U t)):
    ∀(parts:List (Nat×Operand)) (l l':List (V U×Bool)) (ss:List (List PV)),zW U l ss->l.map (λx=>x.1.t)=ts->S7 U S l parts=some l'->
      ∃ss',vK place ss.flatten (parts.map λ(i,x)=>(i,cP S' x))=some ss'.flatten/\zW U l' ss'/\l'.map (λx=>x.1.t)=ts
 |[],l,l',ss,hs,ht,h=>by
  simp only[S7,aA]at h;subst h;exact⟨ss,rfl,hs,ht⟩
 |(i,x)::rest,l,l',ss,hs,ht,h=>by
  unfold S7 at h;split at h
  .rename_i y hy;split at h
   .rename_i v hv;obtain⟨gt,jc⟩:=kM hU hv (cX F x).1;obtain⟨s,hsi,hsr⟩:=HB hs hy;have hsr':=VR.sr jc;have hlen:s.length=(cP S' x).cells.length:=by rw[hsr.len hU,hsr'.len hU,gt]
    have hti:ts[i]?=some y.1.t:=by rw[<-ht,List.getElem?_map,hy];rfl
    have jp:(ss.take i).flatten.length=eE U (ts.take i):=by rw[uF hU hs,ht]
    have fx:zW U (setF U l i (v,match(iQ U S x).1 with| .nl=>true|_=>false)) (ss.set i (cP S' x).cells):=by
     refine HA hs ⟨hsr',λhn o b ho=>?_⟩
     split at hn
     .rename_i e;have h1:=(cX F x).1;rw[e]at h1 hv;have hp:cP S' x= .nil:=h1;simp only[Em]at hv;split at hv
      .cases hv;simp only[vP,List.mem_singleton,aB]at ho;rw[hp,ho.1];rfl
      .cases hv
     .cases hn
    obtain⟨ss',g1,g2,g3⟩:=KB F hp rest _ l' _ fx (by rw[AU hy gt];exact ht) h
    refine⟨ss',?_,g2,g3⟩;rw[aO];simp only[vK,hp i _ hti];have hle:eE U (ts.take i)+cZ U y.1.t<=ss.flatten.length:=by
     have h1:=uF hU hs (i+1);have h2:(ss.take (i+1)).flatten.length<=ss.flatten.length:=by
      conv=>rhs;rw[<-List.take_append_drop (i+1) ss]
      rw[List.flatten_append,aZ];omega
     have h3:eE U (ts.take (i+1))=eE U (ts.take i)+cZ U y.1.t:=by
      have bh:i<ts.length:=by
       rcases Nat.lt_or_ge i ts.length with h|h
       .exact h
       .rw[List.getElem?_eq_none h]at hti;cases hti
      rw[List.take_succ_eq_append_getElem bh,EK];have:ts[i]=y.1.t:=by rw[aV bh]at hti;exact Option.some.inj hti
      rw[this];simp[eE]
     rw[ht]at h1;omega
    have c1:(Nat.beq (cP S' x).cells.length (cZ U y.1.t)&&Nat.ble (eE U (ts.take i)+cZ U y.1.t) ss.flatten.length&&(cP S' x).cells.all PV.one)=true:=by
     rw[hsr'.one hU,<-hlen,hsr.len hU,Nat.beq_refl,Bool.true_and,bE,Nat.ble_eq];exact hle
    rw[c1,aI,<-jp,Sp ss i s _ hsi hlen];exact g1
   .cases h
  .cases h
def Uq: ∀{l:List (V U×Bool)} {ss:List (List PV)},zW U l ss->wks ss.flatten=sH (WE l)/\GM U ((l.map λx=>x.1.t).flatMap (iO U)) ss.flatten
 |[],[],_=>⟨rfl,aA3 _⟩
 |y::l,s::ss,h=>by
  obtain⟨h1,h2⟩:=Uq h.2;refine⟨?_,?_⟩
  .rw[List.flatten_cons,pR,h1,h.1.1.wk,WE,iR]
  .rw[List.flatten_cons,aO,aN];exact K5 (by rw[uL hU,h.1.1.len hU]) h.1.1.z h2
 |[],_::_,h=>h.elim
 |_::_,[],h=>h.elim
omit hU in
def VU{o:Nat}: ∀{rs:iL} {x:Nat×Bool},x∈aQq o rs->∃j,x.1=j+o/\(j,x.2)∈rs
 |[],x,h=>by cases h
 |y::rs,x,h=>by
  unfold aQq at h;rcases List.mem_cons.1 h with rfl|h
  .exact⟨y.1,rfl,aH ..⟩
  .obtain⟨j,h1,h2⟩:=VU h;exact⟨j,h1,aG _ h2⟩
def Pp: ∀{l:List (V U×Bool)} {ss:List (List PV)} {o:Nat},zW U l ss->∀i b,(i,b)∈VD U l o->∃j,i=j+o/\ss.flatten[j]?=some .nil
 |[],[],o,_,i,b,h=>by cases h
 |y::l,s::ss,o,hs,i,b,h=>by
  unfold VD at h;rcases List.mem_append.1 h with h1|h1
  .split at h1
   .rename_i hy;obtain⟨j,e1,e2⟩:=VU h1;have:=hs.1.2 hy j b e2;have bh:j<s.length:=by
     rcases Nat.lt_or_ge j s.length with h2|h2
     .exact h2
     .rw[List.getElem?_eq_none h2]at this;cases this
    exact⟨j,e1,by rw[List.flatten_cons,List.getElem?_append_left bh];exact this⟩
   .cases h1
  .obtain⟨j,e1,e2⟩:=Pp hs.2 i b h1;refine⟨s.length+j,by rw[hs.1.1.len hU];omega,?_⟩
   rw[List.flatten_cons,List.getElem?_append_right (by omega),Nat.add_sub_cancel_left];exact e2
 |[],_::_,_,h,_,_,_=>h.elim
 |_::_,[],_,h,_,_,_=>h.elim
include hT
def XA{S:TS U.D}{S':PS}(F:kU U c S S'){t:TypeId}{n:Nat}{parts:List (Nat×Operand)}{l:List (V U×Bool)}{x:U.D n}(ht:T.T.ty t=some (.rc n))(hl:S7 U S (wK U (U.fs n)) parts=some l)(hx:U.of n (WE l)=some x):
    ∃w,uI P t (parts.map λ(i,x)=>(i,cP S' x))=some w/\oE U c (.val ⟨.rc n,x⟩,VD U l 0) (w,false):=by
 obtain⟨place,rq,hpb⟩: ∃place:Nat->Option (Nat×Nat),(∀i t',(U.fs n)[i]?=some t'->place i=some (eE U ((U.fs n).take i),cZ U t'))/\∀ps,uI P t ps=(vK place (GH U (.rc n)) ps).map .agg:=by
  cases th:T.T.arr t with
  |false=>
   obtain⟨fs,pl,hu,di,hpp⟩:=hT.bd t n ht th;refine⟨λi=>pl[i]?,λi t' hi=>?_,λps=>by simp only[uI,hT.zc t _ ht,hu,di]⟩
   have:=PW (U:=U) (U.fs n) i 0 t' hi;rw[<-hpp,Array.getElem?_toList,Nat.zero_add]at this;exact this
  |true=>
   obtain⟨len,e,te,hu,hz,hf⟩:=hT.arr t n ht th;refine⟨λi=>some (i*cZ U te,cZ U te),λi t' hi=>?_,λps=>by simp only[uI,hT.zc t _ ht,hu,hz]⟩
   rw[hf,List.getElem?_replicate]at hi;split at hi
   .rename_i hi2;obtain rfl:=Option.some.inj hi;rw[hf,List.take_replicate,Nat.min_eq_left (by omega),uD]
   .cases hi
 obtain⟨ss',g1,g2,g3⟩:=KB hU F rq parts _ _ _ (GF hU (U.fs n)) (GC _) hl;rw[RS hU n]at g1;obtain⟨g4,g5⟩:=Uq hU g2;have hun:=hU.un_of n _ x hx;refine⟨.agg ss'.flatten,?_,⟨?_,?_⟩,?_⟩
 .rw[hpb,g1,aK]
 .show PV.agg (wks ss'.flatten)= .agg (U.en n x);rw[g4,hU.en n x,hun];rfl
 .show GM U (U.lt n) ss'.flatten;rw[hU.lt n,<-g3];exact g5
 .intro i b hi;obtain⟨j,e1,e2⟩:=Pp hU g2 i b hi;exact .inl ⟨rfl,by rw[e1];exact e2⟩
omit hT hU in
def Ld{c:PV}(h:gd (wk c)=true):c.pur=true:=by
 cases c with
 |agg cs=>simp[wk,gd]at h
 |tup cs=>simp[wk,gd]at h
 |und=>simp[wk,gd]at h
 |_=>first|rfl|simp[wk,gd]at h
omit hT in
def rJ{t:Ty}{x:Den U.D t}{p:PV}(h:VR U t x p):PI.shape (kS t) (cZ U t) p=true:=by
 have hs:=VR.sr h;have hp: ∀c∈p.cells,c.pur=true:=λc hc=>Ld (hs.gd hU hc)
 cases hr:kS t with
 |true=>
  cases t with
  |rc n=>
   obtain⟨cs,rfl,_⟩:=IJ h;simp only[PI.shape,Bool.true_and,aC,cQ,aD,bJ];exact⟨hs.len hU,hp⟩
  |_=>cases hr
 |false=>
  have ha:isAgg p=false:=mI (v:=⟨t,x⟩) h hr;have hc:p.cells=[p]:=mT λds e=>by rw[e]at ha;cases ha
  have hz:cZ U t=1:=by cases t<;>first|rfl|cases hr
  have:=hp p (by rw[hc];exact List.mem_singleton.2 rfl)
  rw[hz];cases p<;>first|(cases ha;done)|simpa [PI.shape]using this
omit hU hT in
def G8{N:Type}: ∀(l:List N) (i:Nat) (x:N),aBD l i x=l.set i x
 |[],_,_=>by cases ‹Nat› <;>rfl
 |y::l,0,x=>rfl
 |y::l,i+1,x=>by rw[aBD,G8 l i x];rfl
omit hT in
def XB{S:TS U.D}{S':PS}(F:kU U c S S'){e:Ty}: ∀(parts:List (Nat×Operand)) (l l':List (Den U.D e)),S6 U S e l parts=some l'->
    mJ (kS e) (cZ U e) (l.map (dB U e)) (parts.map λ(i,x)=>(i,cP S' x))=some (l'.map (dB U e))
 |[],l,l',h=>by simp only[S6,aA]at h;subst h;rfl
 |(i,x)::rest,l,l',h=>by
  unfold S6 at h;split at h
  .rename_i v hv;split at h
   .rename_i w hw;cases hb:Nat.blt i l.length with
    |false=>rw[hb]at h;cases h
    |true=>
     rw[hb]at h;obtain⟨gt,jc⟩:=kM hU hv (cX F x).1;have e1:=mR hw;have hvr':VR U e w (cP S' x):=by
      have:VR U (⟨v.t,v.x⟩:TV U.D).t (⟨v.t,v.x⟩:TV U.D).x (cP S' x):=jc;rw[e1]at this;exact this
     have g:=XB F rest _ _ h;rw[aO];simp only[mJ,List.length_map,hb,rJ hU hvr',Bool.and_self,aI];rw[hvr'.wk,<-List.map_set,<-G8];exact g
   .cases h
  .cases h
omit hU hT in
def HO{N:Type}(f:N->PV)(x:N)(y:PV)(h:y=f x): ∀n,lS y n=(pT x n).map f
 |0=>rfl
 |n+1=>by rw[lS,pT,aO,HO f x y h n,h]
def Dd{S:TS U.D}{S':PS}(F:kU U c S S'){p:PSt}{o:Oper}{t:TypeId}{e:Ty}{len:Nat}{parts:Array (Nat×Operand)}{l:List (Den U.D e)}(ho:o.op= .buildSlice t len parts)(ht:T.T.ty t=some (.sl e))(hb:Nat.ble (len*cZ U e) 1000000=true)(hl:S6 U S e (pT (nH U e) len) parts.toList=some l):
    ∃w,eO P p S' o=some (w,true,p)/\oE U c (.val ⟨.sl e,l⟩,[(0,true)]) (w,true):=by
 obtain⟨fe,hu,gu,_⟩:=hT.un t _ ht;refine⟨dD (cZ U e) (l.map (dB U e)),?_,uB _ _ rfl rfl,?_⟩
 .have np:(GH U e).length=cZ U e:=(K3 hU e).len hU;have c1:(Nat.ble (len*cZ U e) 1000000&&Nat.beq (GH U e).length (cZ U e)&&Nat.ble 1 (cZ U e)&&(kS e||Nat.beq (cZ U e) 1))=true:=by
   rw[hb,np,Nat.beq_refl];have h1:Nat.ble 1 (cZ U e)=true:=by rw[Nat.ble_eq];exact oC hU e
   rw[h1];cases e<;>rfl
  have hz:wk (bif kS e then .agg (GH U e)else(GH U e).headD .und)=dB U e (nH U e):=by
   have:=K2 hU e;cases e with
   |rc n=>simp only[kS,aI,wk,this];rfl
   |_=>rfl
  have hg:=XB hU F parts.toList _ _ hl;rw[<-HO (dB U e) (nH U e) _ hz]at hg;simp only[eO,ho,hu,hT.sz _ _ gu,hT.ag _ _ gu,hT.zc _ _ gu,c1,aI,hg]
 .intro i s hi;simp only[List.mem_singleton,aB]at hi;refine .inr ⟨hi.1,?_,rfl,λ_=>xN (eJ _ _)⟩
  have:=eJ (cZ U e) (l.map (dB U e));cases hc:dD (cZ U e) (l.map (dB U e))<;>first|rfl|(rw[hc]at this;cases this)
end
end Go.TV
