import Derived.Test.YtgddcoodncbkoaaGreatDoorKi
import Derived.Test.YtgddcoodncbkoaaGreatDoorKg
import Derived.Laws.Strings
set_option linter.unusedVariables false
set_option linter.unusedSimpArgs false
set_option linter.constructorNameAsVariable false
set_option linter.defProp false
namespace Go.TV
open Go.AI Go.PI
def gd:PV->Bool
 | .v _| .str _| .emp=>true
 | .sl _ (_::_)=>true
 |_=>false
def enV(U:jP):(t:Ty)->Den U.D t->PV
 | .int k,n=> .v (.int k n)
 | .bool,b=> .v (.bool b)
 | .str,s=> .str s
 | .sl t,l=>dN (szT U t) (List.map (enV U t) l)
 | .rc n,x=> .agg (U.en n x)
def en{U:jP}(v:V U):PV:=enV U v.t v.x
def zcT(U:jP)(t:Ty):List PV:=(fS U t).flatMap zc1
def nilAt(l:List PV)(i:Nat):Bool:=match l[i]? with|some .nil=>true|_=>false
def isVS:PV->Bool
 | .v _| .str _=>true
 |_=>false
structure fV(U:jP):Prop where
 eqc: ∀n f x,U.eq n=some f->(U.en n x).all isVS=true
 ty: ∀n x,(U.un n x).map (λv=>v.t)=U.fs n
 un_of: ∀n l x,U.of n l=some x->U.un n x=l
 en: ∀n x,U.en n x=(U.un n x).flatMap λv=>(enV U v.t v.x).cells
 len: ∀n x,(U.en n x).length=U.sz n
 sz: ∀n,U.sz n=cY U (U.fs n)
 gd: ∀n x,(U.en n x).all gd=true
 pos: ∀n,1<=U.sz n
 zero: ∀n,U.un n (U.zero n)=(U.fs n).map λt=>⟨t,nD U t⟩
 lt: ∀n,U.lt n=(U.fs n).flatMap (fS U)
 zc: ∀n,wks ((U.lt n).flatMap zc1)=U.en n (U.zero n)
 nz: ∀n,(aAl U (.rc n)).all (λx=>nilAt ((U.lt n).flatMap zc1) x.1)=true
 ltl: ∀n,(U.lt n).length=U.sz n
def gd_pur{x:PV}(h:gd x=true):x.pur=true:=by cases x<;>first|rfl|simp[gd]at h
def gd_wk{x:PV}(h:gd x=true):wk x=x:=by
 cases x with
 |sl z es=>cases es with
  |nil=>simp[gd]at h
  |cons e es=>rfl
 |_=>first|rfl|simp[gd]at h
def jJ{x:PV}(h:gd x=true):x.cells=[x]:=by cases x<;>first|rfl|simp[gd]at h
def xI{x:PV}(h:gd x=true):isE x=false:=by
 cases x with
 |sl z es=>cases es with
  |nil=>simp[gd]at h
  |cons e es=>rfl
 |_=>first|rfl|simp[gd]at h
def aAC{x:PV}{n:Nat}(h:gd x=true):below n x=true:=by cases x<;>first|rfl|simp[gd]at h
def cI(z:Nat)(l:List PV):gd (dN z l)=true:=by cases l<;>rfl
def iC(l:List PV):wks l=l.map wk:=by induction l with
 |nil=>rfl
 |cons x l ih=>simp only[wks,ih,mpC]
def aGf{l:List PV}(h:l.all gd=true):wks l=l:=by
 rw[iC];induction l with
 |nil=>rfl
 |cons x l ih=>
  simp only[alC,bjE]at h;rw[mpC,gd_wk h.1,ih h.2]
section
variable{U:jP}(hU:fV U)
include hU
def rQ(t:Ty)(x:Den U.D t):(enV U t x).cells.all gd=true:=by
 cases t with
 |int k=>rfl
 |bool=>rfl
 |str=>rfl
 |sl t=>simp only[enV,jJ (cI _ _),alC,cI,List.all_nil,Bool.and_self]
 |rc n=>exact hU.gd n x
def fE(t:Ty)(x:Den U.D t):(enV U t x).cells.length=szT U t:=by
 cases t with
 |int k=>rfl
 |bool=>rfl
 |str=>rfl
 |sl t=>simp only[enV,jJ (cI _ _),szT,lcS,lnN]
 |rc n=>exact hU.len n x
def en_wk(t:Ty)(x:Den U.D t):wk (enV U t x)=enV U t x:=by
 cases t with
 |int k=>rfl
 |bool=>rfl
 |str=>rfl
 |sl t=>exact gd_wk (cI _ _)
 |rc n=>simp only[enV,wk,aGf (hU.gd n x)]
def lQ(t:Ty):1<=szT U t:=by
 cases t with
 |rc n=>exact hU.pos n
 |_=>exact nlR _
def aGr(n:Nat)(t:Ty)(x:Den U.D t):below n (enV U t x)=true:=by
 cases t with
 |int k=>rfl
 |bool=>rfl
 |str=>rfl
 |sl t=>exact aAC (cI _ _)
 |rc m=>
  show fT n (U.en m x)=true;rw[cL];intro c hc;exact aAC (List.all_eq_true.1 (hU.gd m x) c hc)
end
section
variable{U:jP}{p:PV}
def wk_v{x:Value}(h:wk p= .v x):p= .v x:=by
 cases p with
 |v y=>exact h
 |sl z es=>cases es<;>simp[wk]at h
 |_=>simp[wk]at h
def aE6{x:List UInt8}(h:wk p= .str x):p= .str x:=by
 cases p with
 |str y=>exact h
 |sl z es=>cases es<;>simp[wk]at h
 |_=>simp[wk]at h
def aI8{x:List PV}(h:wk p= .agg x): ∃cs,p= .agg cs/\wks cs=x:=by
 cases p with
 |agg y=>simp only[wk,PV.agg.injEq]at h;exact⟨y,rfl,h⟩
 |sl z es=>cases es<;>simp[wk]at h
 |_=>simp[wk]at h
def wk_emp(h:wk p= .emp):p= .emp∨p= .nil∨∃z,p= .sl z []:=by
 cases p with
 |emp=>exact .inl rfl
 |nil=>exact .inr (.inl rfl)
 |sl z es=>cases es with
  |nil=>exact .inr (.inr ⟨z,rfl⟩)
  |cons e es=>simp[wk]at h
 |_=>simp[wk]at h
def wk_sl{z:Nat}{e:PV}{es:List PV}(h:wk p= .sl z (e::es)):p= .sl z (e::es):=by
 cases p with
 |sl z es=>cases es with
  |nil=>simp[wk]at h
  |cons e es=>exact h
 |_=>simp[wk]at h
def wk_mk{z:Nat}{es:List PV}(h:wk p=dN z es):(es=[]/\(p= .emp∨p= .nil∨∃z,p= .sl z []))∨(es≠ []/\p= .sl z es):=by
 cases es with
 |nil=>exact .inl ⟨rfl,wk_emp h⟩
 |cons e es=>exact .inr ⟨by simp,wk_sl h⟩
def elems_wk{z:Nat}{es:List PV}(h:wk p=dN z es)(hz: ∀z',p= .sl z' []->z'=z):mO z p=some es:=by
 rcases wk_mk h with⟨rfl,rfl|rfl|⟨z',rfl⟩⟩|⟨_,rfl⟩
 ·rfl
 ·rfl
 ·have:=hz z' rfl;subst this;simp[mO]
 ·simp[mO]
end
section
variable(U:jP)
def zOK(ts:List Ty)(cs:List PV):Prop:= ∀(j z:Nat),cs[j]?=some (.sl z [])->∃e,ts[j]?=some (.sl e)/\z=szT U e
structure VR(t:Ty)(x:Den U.D t)(p:PV):Prop where
 wk:PI.wk p=enV U t x
 z:zOK U (fS U t) p.cells
structure Ce where
 id:Option Nat
 n:Nat
 z:Nat
abbrev Cx:=Nat->Option Ce
def aC1(c:Cx):List Nat->List PV->Prop
 |[],[]=>True
 |k::ks,p::ps=>(∃e id,c k=some e/\e.id=some id/\p= .ptr id 0)/\aC1 c ks ps
 |_,_=>False
def svR(c:Cx):SV U.D->PV->Prop
 | .val v,p=>VR U v.t v.x p
 | .tup l,p=> ∃ps,p= .tup ps/\ps=l.map λv=>enV U v.t v.x
 | .nl,p=>p= .nil
 | .lc k off _,p=> ∃e id,c k=some e/\e.id=some id/\p= .ptr id off
 | .ep v,p=> ∃es i off e,p= .pin es i off/\es[i]?=some e/\(e.cells.drop off).take (szT U v.t)=(enV U v.t v.x).cells
 | .rw k,p=> ∃e,c k=some e/\((e.id=none/\e.n=0/\(p= .sl e.z []∨p= .emp))∨∃id,e.id=some id/\1<=e.n/\p= .rs id 0 e.n)
 | .rp k i off _,p=> ∃e id,c k=some e/\e.id=some id/\0<=i/\i<(e.n:Int)/\p= .ptr id (i.toNat*e.z+off)
 | .cl f caps,p=> ∃ps,p= .fn f [] ps/\aC1 c caps ps
 | .nf,p=>p= .v .nilFunc
 | .zr l,p=>p= .agg l
 | .no,_=>True
def isAgg:PV->Bool
 | .agg _=>true
 |_=>false
def rtR(rs:Rts)(p:PV)(ow:Bool):Prop:=
 ∀o s,(o,s)∈rs->(isAgg p=true/\p.cells[o]?=some .nil)∨(o=0/\isAgg p=false/\(ow||iO p)=true/\(s=true->isE p=false))
def slR(c:Cx)(x:X U)(y:PV×Bool):Prop:=svR U c x.1 y.1/\rtR x.2 y.1 y.2
def frR(c:Cx)(S:TS U.D)(S':PS):Prop:= ∀t,slR U c (oZ S t) (S'.at t)
def uE(c:Cx):SV U.D->List (PV×Bool)->Prop
 | .val v,cs=>wks (cs.map (·.1))=(enV U v.t v.x).cells/\zOK U (fS U v.t) (cs.map (·.1))/\∀x∈cs,x.1≠ .nil
 | .cl f caps,cs=> ∃p b,cs=[(p,b)]/\svR U c (.cl f caps) p
 | .nf,cs=> ∃b,cs=[(.v .nilFunc,b)]
 |_,_=>False
def rtB(rs:Rts)(cs:List (PV×Bool)):Prop:= ∀o s,(o,s)∈rs->∃x,cs[o]?=some (x,true)/\(s=true->isE x=false)
def bcR(c:Cx)(p:PSt)(e:Ce):BC U.D->Prop
 | .bx s r=> ∃id cs,e.id=some id/\p.get id=some (.box cs)/\uE U c s cs/\rtB r cs
 | .row t l=>e.n=l.length/\e.z=szT U t/\((e.id=none/\l=[])∨∃id,e.id=some id/\p.get id=some (.row e.z (oY t) ((l.map (enV U t)).flatMap PV.cells)))
 | .gone=>True
structure MR(q:PSt)(c0 c:Cx)(M:TM U.D)(p:PSt):Prop where
 dom: ∀k,bR M.bx k=none->c k=none
 bx: ∀k b,bR M.bx k=some b->∃e,c k=some e/\bcR U c p e b
 lt: ∀k e id,c k=some e->e.id=some id->id<p.next
 inj: ∀k k' e e' id,c k=some e->c k'=some e'->e.id=some id->e'.id=some id->k=k'
 next:q.next<=p.next
 bor: ∀k e,c k=some e->k<100->c0 k=some e
 loc: ∀k e id,c k=some e->100<=k->e.id=some id->q.next<=id
 old: ∀id,id<q.next->id∉p.dirty->p.get id=q.get id
 dirty: ∀id,id∈p.dirty->id<q.next->∃k e,c0 k=some e/\e.id=some id
 wr: ∀id,id∈p.wr->id<p.next/\(id<q.next->∃k e,c0 k=some e/\e.id=some id)
def WR(c:Cx)(M:TM U.D)(p:PSt):Prop:= ∀id,id∈p.wr->∀k e,c k=some e->e.id=some id->bW k M.wr=true
def leC(c c':Cx):Prop:= ∀k e,c k=some e->c' k=some e
end
end Go.TV
namespace Go.TV
open Go.AI Go.PI
def unOK(P:Program)(U:jP)(T:TP U.D)(id:TypeId):Ty->Prop
 | .int k=>P.underlying id=some (.int k)
 | .bool=>P.underlying id=some .bool
 | .str=>P.underlying id=some .string
 | .sl t=> ∃e,P.underlying id=some (.slice e)/\T.T.ty e=some t/\T.el id=some e
 | .rc n=>T.T.arr id=false->∃fs,P.underlying id=some (.struct fs)/\fs.size=(U.fs n).length/\∀i f,fs[i]?=some f->T.T.ty f.type=(U.fs n)[i]?/\f.offset=mD U n i
def plcT(U:jP):List Ty->Nat->List (Nat×Nat)
 |[],_=>[]
 |t::ts,o=>(o,szT U t)::plcT U ts (o+szT U t)
structure zD(P:Program)(U:jP)(T:TP U.D):Prop where
 ag: ∀id t,T.T.ty id=some t->gU P id=some (oY t)
 sz: ∀id t,T.T.ty id=some t->iK P id=some (szT U t)
 un: ∀id t,T.T.ty id=some t->unOK P U T id t
 zc: ∀id t,T.T.ty id=some t->zeroCells P id=some (zcT U t)
 fn: ∀id,T.T.fn id=true->gU P id=some false/\iK P id=some 1/\zeroCells P id=some [.v .nilFunc]
 inf: ∀id t,T.T.ty id=some t->∃info z,P.info? id=some info/\info.size=szT U t/\info.bytes=T.T.by' id/\1<=info.bytes/\info.zero=some z/\z.cells.size=info.size/\ofVs z.cells.toList=zcT U t/\z.cells.toList.all aE=true
 bd: ∀id n,T.T.ty id=some (.rc n)->T.T.arr id=false->∃fs pl,P.underlying id=some (.struct fs)/\aR P (fs.mapM λf=>do pure (f.offset,<-Go.sizeOf f.type))=some pl/\pl.toList=plcT U (U.fs n) 0
 arr: ∀id n,T.T.ty id=some (.rc n)->T.T.arr id=true->∃len e te,P.underlying id=some (.array len e)/\iK P e=some (szT U te)/\U.fs n=List.replicate len te
 eq: ∀id n f,T.T.ty id=some (.rc n)->U.eq n=some f->∀(x y:U.D n) (a b:Operand),
  nU P .eql id a b (.agg (U.en n x)) (.agg (U.en n y))=some (.v (.bool (f x y)))/\nU P .neq id a b (.agg (U.en n x)) (.agg (U.en n y))=some (.v (.bool (!f x y)))
section
variable{U:jP}{c c':Cx}{S:TS U.D}{S':PS}
def aJt{T:TP U.D}{id:TypeId}{t:Ty}(h:stTy T.T id=some t):T.T.ty id=some t/\T.T.arr id=false:=by
 unfold stTy at h;cases ha:T.T.arr id with
 |true=>rw[ha]at h;cases h
 |false=>rw[ha]at h;exact⟨h,rfl⟩
def aEy(h:leC c c'): ∀{ks:List Nat} {ps:List PV},aC1 c ks ps->aC1 c' ks ps
 |[],[],_=>trivial
 |k::ks,p::ps,⟨⟨e,id,h1,h2,h3⟩,h4⟩=>⟨⟨e,id,h k e h1,h2,h3⟩,aEy h h4⟩
 |[],_::_,hh=>hh.elim
 |_::_,[],hh=>hh.elim
def svR_le(h:leC c c'){x:SV U.D}{p:PV}(r:svR U c x p):svR U c' x p:=by
 cases x with
 |val v=>exact r
 |tup l=>exact r
 |nl=>exact r
 |lc k off q=>obtain⟨e,id,h1,h2,h3⟩:=r;exact⟨e,id,h k e h1,h2,h3⟩
 |ep v=>exact r
 |rw k=>obtain⟨e,h1,h2⟩:=r;exact⟨e,h k e h1,h2⟩
 |rp k i off q=>obtain⟨e,id,h1,h2,h3⟩:=r;exact⟨e,id,h k e h1,h2,h3⟩
 |cl f caps=>obtain⟨ps,h1,h2⟩:=r;exact⟨ps,h1,aEy h h2⟩
 |nf=>exact r
 |zr l=>exact r
 |no=>trivial
def slR_le(h:leC c c'){x:X U}{p:PV×Bool}(r:slR U c x p):slR U c' x p:=⟨svR_le h r.1,r.2⟩
def aK3(h:leC c c')(F:frR U c S S'):frR U c' S S':=λt=>slR_le h (F t)
def leC.refl(c:Cx):leC c c:=λ_ _ h=>h
def leC.trans{c'':Cx}(h:leC c c')(h':leC c' c''):leC c c'':=λk e hh=>h' k e (h k e hh)
def aJ(p:PV)(ow:Bool):rtR [] p ow:=λo s h=>by cases h
def rtR_agg{rs:Rts}{p:PV}{ow ow':Bool}(h:rtR rs p ow)(ha:isAgg p=true):rtR rs p ow':=λo s hm=>by
 rcases h o s hm with h1|⟨_,h2,_⟩
 ·exact .inl h1
 ·rw[ha]at h2;cases h2
def rtR_mono{rs:Rts}{p:PV}{ow ow':Bool}(h:rtR rs p ow)(ho:ow=true->(ow'||iO p)=true):rtR rs p ow':=λo s hm=>by
 rcases h o s hm with h1|⟨h1,h2,h3,h4⟩
 ·exact .inl h1
 ·refine .inr ⟨h1,h2,?_,h4⟩;cases ow with
  |true=>exact ho rfl
  |false=>simp only[Bool.false_or]at h3;rw[h3,Bool.or_true]
def val_agg{v:V U}{p:PV}(h:VR U v.t v.x p)(hr:oY v.t=true):isAgg p=true:=by
 obtain⟨t,x⟩:=v;cases t with
 |rc n=>obtain⟨cs,rfl,_⟩:=aI8 h.wk;rfl
 |_=>cases hr
def iY{v:V U}{p:PV}(h:VR U v.t v.x p)(hr:oY v.t=false):isAgg p=false:=by
 obtain⟨t,x⟩:=v;cases t with
 |rc n=>cases hr
 |int k=>rw[wk_v h.wk];rfl
 |bool=>rw[wk_v h.wk];rfl
 |str=>rw[aE6 h.wk];rfl
 |sl t=>rcases wk_mk h.wk with⟨_,h1|h1|⟨z,h1⟩⟩|⟨_,h1⟩<;>rw[h1]<;>rfl
def oF{x:X U}{p:PV}{ow:Bool}(h:slR U c x (p,ow)):slR U c (rJ U x) (p,false):=by
 obtain⟨sv,rs⟩:=x;obtain⟨h1,h2⟩:=h;cases sv with
 |val v=>
  cases hr:oY v.t with
  |true=>simp only[rJ,hr,cdt];exact⟨h1,rtR_agg h2 (val_agg h1 hr)⟩
  |false=>simp only[rJ,hr,cdf];exact⟨h1,aJ _ _⟩
 |nl=>
  refine⟨h1,λo s hm=>?_⟩
  simp only[rJ,List.mem_singleton,pjE]at hm;have h3:p= .nil:=h1;exact .inr ⟨hm.1,by rw[h3];rfl,by rw[h3];rfl,λ_=>by rw[h3];rfl⟩
 |_=>exact⟨h1,aJ _ _⟩
def lW(S':PS)(t k:Nat)(x:PV×Bool):(S'.set t x).at k=if k=t then x else S'.at k:=by
 unfold PS.set PS.at;simp only;by_cases h:k=t
 ·subst h;simp
 ·have:Nat.beq k t=false:=by rw[<-Bool.not_eq_true];intro hh;exact h (nqE hh)
  rw[this,if_neg h];rfl
def oK(S:TS U.D)(t k:Nat)(x:X U):oZ ((t,x)::S) k=if k=t then x else oZ S k:=by
 show(bif Nat.beq t k then x else oZ S k)=_;by_cases h:k=t
 ·subst h;simp
 ·have:Nat.beq t k=false:=by rw[<-Bool.not_eq_true];intro hh;exact h (nqE hh).symm
  rw[this,if_neg h];rfl
def mM(F:frR U c S S'){t:Nat}{x:X U}{y:PV×Bool}(h:slR U c x y):frR U c ((t,x)::S) (S'.set t y):=λk=>by
 rw[oK,lW];by_cases e:k=t
 ·rw[if_pos e,if_pos e];exact h
 ·rw[if_neg e,if_neg e];exact F k
def tD(F:frR U c S S'){d:Option Tmp}{x:X U}{v:PV}{own:Bool}(h:slR U c x (v,own)):frR U c (putT U S d x) (S'.put d v own):=by
 cases d with
 |none=>exact F
 |some d=>exact mM F h
def lJ(F:frR U c S S')(x:Operand):frR U c (sY U S x) (qU S' x):=by
 cases x with
 |tmp t=>exact mM F (oF (ow:=(S'.at t).2) (F t))
 |_=>exact F
def aGi(F:frR U c S S'){t:Nat}{x:X U}(h:slR U c x (S'.at t)):frR U c ((t,x)::S) S':=λk=>by
 rw[oK];by_cases e:k=t
 ·rw[if_pos e,e];exact h
 ·rw[if_neg e];exact F k
def bA(F:frR U c S S')(x:Operand):slR U c (evT U S x) (pev S' x,jD S' x):=by
 cases x with
 |tmp t=>
  refine⟨(F t).1,rtR_mono (F t).2 λh=>?_⟩
  simp only[jD,h,Bool.true_or]
 |const v=>
  have hv: ∀y,VR U y.t y.x (ofV v)->slR U c (.val y,[]) (ofV v,jD S' (.const v)):=λy h=>⟨h,aJ _ _⟩
  have h0: ∀(w:Value) (t:Ty) (h:ofV v= .v w),zOK U (fS U t) (ofV v).cells:=λw t h j z hz=>by
   rw[h]at hz;cases j<;>simp[PV.cells]at hz
  cases v with
  |bool b=>exact hv ⟨.bool,b⟩ ⟨rfl,h0 _ _ rfl⟩
  |int k n=>exact hv ⟨.int k,n⟩ ⟨rfl,h0 _ _ rfl⟩
  |string s=>exact hv ⟨.str,s.data.toList⟩ ⟨rfl,λj z hz=>by cases j<;>simp[ofV,PV.cells]at hz⟩
  |slice b l k=>
   cases b with
   |some b=>exact⟨trivial,aJ _ _⟩
   |none=>
    refine⟨rfl,λo s hm=>?_⟩
    simp only[evT,cvT,List.mem_singleton,pjE]at hm;exact .inr ⟨hm.1,rfl,rfl,λ_=>rfl⟩
  |nilFunc=>exact⟨rfl,aJ _ _⟩
  |agg cs=>cases cs;exact⟨rfl,aJ _ _⟩
  |_=>exact⟨trivial,aJ _ _⟩
 |func f=>exact⟨⟨[],rfl,trivial⟩,aJ _ _⟩
 |global g=>exact⟨trivial,aJ _ _⟩
def aGq: ∀{l r:List PV},eqZ l r=true->l=r:=by
 intro l;induction l with
 |nil=>intro r h;cases r with|nil=>rfl|cons x r=>cases h
 |cons x l ih=>
  intro r h;cases r with
  |nil=>cases x<;>first|cases h|(rename_i v;cases v<;>cases h)
  |cons y r=>
   unfold eqZ at h;split at h
   ·rename_i heq;cases heq
   ·rename_i e1 e2;cases e1;cases e2;simp only[bjE,djE]at h;rw[h.1.1,h.1.2,ih h.2]
   ·rename_i e1 e2;cases e1;cases e2;simp only[bjE,djE]at h;rw[h.1,ih h.2]
   ·rename_i e1 e2;cases e1;cases e2;rw[ih h]
   ·rename_i e1 e2;cases e1;cases e2;simp only[bjE,List.isEmpty_iff]at h;rw[h.1.1,h.1.2,ih h.2]
   ·rename_i e1 e2;cases e1;cases e2;rw[ih h]
   ·cases h
def hY(hU:fV U){t:Ty}{s:SV U.D}{v:V U}{p:PV}(h:asV U t s=some v)(r:svR U c s p):v.t=t/\VR U v.t v.x p:=by
 cases s with
 |val w=>
  simp only[asV]at h;cases hb:w.t.beq t with
  |false=>rw[hb]at h;cases h
  |true=>rw[hb]at h;cases h;exact⟨Ty.beq_eq hb,r⟩
 |nl=>
  simp only[asV]at h;split at h
  ·cases h;have hp:p= .nil:=r;subst hp;exact⟨rfl,rfl,λj z hz=>by cases j<;>simp[PV.cells]at hz⟩
  ·cases h
 |zr l=>
  simp only[asV]at h;split at h
  ·rename_i n;cases hb:eqZ l ((U.lt n).flatMap zc1)with
   |false=>rw[hb]at h;cases h
   |true=>
    rw[hb]at h;cases h;have hp:p= .agg l:=r;subst hp;rw[aGq hb];refine⟨rfl,?_,λj z hz=>?_⟩
    ·show PV.agg (wks _)= .agg _;rw[hU.zc n]
    ·have hm:(PV.sl z [])∈(U.lt n).flatMap zc1:=List.mem_of_getElem? hz;rw[List.mem_flatMap]at hm;obtain⟨t,_,h1⟩:=hm;cases t<;>simp[zc1]at h1
  ·cases h
 |_=>cases h
def zrV_ok(hU:fV U){t:Option Ty}{s:SV U.D}{p:PV}(r:svR U c s p):svR U c (zrV U t s) p:=by
 unfold zrV;split
 ·split
  ·split
   ·rename_i v hv;exact(hY hU hv r).2
   ·trivial
  ·trivial
 ·exact r
def kT{D:Nat->Type}{t u:Ty}{x:Den D t}{y:Den D u}(h:cst t u x=some y):(⟨t,x⟩:TV D)=⟨u,y⟩:=by
 unfold cst at h;split at h
 ·rename_i e _;subst e;cases h;rfl
 ·cases h
end
end Go.TV
namespace Go.TV
open Go.AI Go.PI
section
variable{P:Program}{U:jP}{T:TP U.D}
def fF(l:List PV):(wks l).length=l.length:=by rw[iC,List.length_map]
def kZ(l r:List PV):wks (l++r)=wks l++wks r:=by simp only[iC,List.map_append]
def zG(l:List PV)(n:Nat):wks (l.drop n)=(wks l).drop n:=by simp only[iC,List.map_drop]
def zE(l:List PV)(n:Nat):wks (l.take n)=(wks l).take n:=by simp only[iC,List.map_take]
def lI{c:PV}(h:gd (wk c)=true): ∀cs,c≠ .agg cs:=λcs e=>by subst e;simp[wk,gd]at h
def jM{c:PV}(h: ∀cs,c≠ .agg cs):c.cells=[c]:=by
 cases c with
 |agg cs=>exact(h cs rfl).elim
 |_=>rfl
def wk_one{c:PV}(h:gd (wk c)=true):c.one=true:=by
 cases c with
 |agg cs=>simp[wk,gd]at h
 |tup cs=>simp[wk,gd]at h
 |und=>simp[wk,gd]at h
 |_=>rfl
def all_one{l:List PV}(h:(wks l).all gd=true):l.all PV.one=true:=by
 rw[iC,List.all_map,List.all_eq_true]at h;rw[List.all_eq_true];exact λx hx=>wk_one (h x hx)
def aHS{ts us:List Ty}{cs ds:List PV}(hl:ts.length=cs.length)(h:zOK U ts cs)(h':zOK U us ds):zOK U (ts++us) (cs++ds):=λj z hj=>by
 by_cases bi:j<cs.length
 ·rw[List.getElem?_append_left bi]at hj;obtain⟨e,h1,h2⟩:=h j z hj;exact⟨e,by rw[List.getElem?_append_left (by omega)];exact h1,h2⟩
 ·rw[List.getElem?_append_right (by omega)]at hj
  obtain⟨e,h1,h2⟩:=h' _ z hj;exact⟨e,by rw[List.getElem?_append_right (by omega),hl];exact h1,h2⟩
def zOK_part{ts:List Ty}{cs:List PV}(h:zOK U ts cs)(o n:Nat):zOK U ((ts.drop o).take n) ((cs.drop o).take n):=λj z hj=>by
 rw[List.getElem?_take]at hj⊢;split at hj
 ·rename_i hjn;rw[List.getElem?_drop]at hj⊢;rw[if_pos hjn];exact h _ z hj
 ·cases hj
def aA7{ts:List Ty}{cs:List PV}(h:cs.all gd=true):zOK U ts cs:=λj z hj=>by
 have:=List.all_eq_true.1 h _ (List.mem_of_getElem? hj);simp[gd]at this
def zOK_nil(ts:List Ty):zOK U ts []:=λj z hj=>by simp at hj
variable(hU:fV U)
include hU
def pP(t:Ty):(fS U t).length=szT U t:=by
 cases t with
 |rc n=>exact hU.ltl n
 |_=>rfl
omit hU in
def aBe(ts us:List Ty):cY U (ts++us)=cY U ts+cY U us:=by
 induction ts with
 |nil=>simp[cY]
 |cons t ts ih=>simp only[cnA,cY,ih,Nat.add_assoc]
def qV(l:List (V U)):List PV:=l.flatMap λv=>(enV U v.t v.x).cells
omit hU in
def eK(v:V U)(l:List (V U)):qV (v::l)=(enV U v.t v.x).cells++qV l:=rfl
def aEw{l:List (V U)}{i:Nat}{v:V U}(h:l[i]?=some v):
    ((qV l).drop (cY U ((l.map λv=>v.t).take i))).take (szT U v.t)=(enV U v.t v.x).cells:=by
 induction l generalizing i with
 |nil=>simp at h
 |cons w l ih=>
  cases i with
  |zero=>
   simp only[gcZ,ojE]at h;subst h;rw[eK,List.take_zero,cY,List.drop_zero];exact List.take_left' (fE hU _ _)
  |succ i=>
   rw[gcS]at h;rw[eK,mpC,List.take_succ_cons,cY];rw[<-ih h];congr 1;rw[<-List.drop_drop];congr 1;exact List.drop_left' (fE hU _ _)
def aBz{ts:List Ty}{i:Nat}{t:Ty}(h:ts[i]?=some t):((ts.flatMap (fS U)).drop (cY U (ts.take i))).take (szT U t)=fS U t:=by
 induction ts generalizing i with
 |nil=>simp at h
 |cons w l ih=>
  cases i with
  |zero=>
   simp only[gcZ,ojE]at h;subst h;rw[fmC,List.take_zero,cY,List.drop_zero];exact List.take_left' (pP hU _)
  |succ i=>
   rw[gcS]at h;rw[fmC,List.take_succ_cons,cY];rw[<-ih h];congr 1;rw[<-List.drop_drop];congr 1;exact List.drop_left' (pP hU _)
def tF{n i:Nat}{x:U.D n}{v:V U}(h:(U.un n x)[i]?=some v):((U.en n x).drop (mD U n i)).take (szT U v.t)=(enV U v.t v.x).cells:=by
 rw[hU.en n x,mD,<-hU.ty n x];exact aEw hU h
def aBM{n i:Nat}{x:U.D n}{v:V U}(h:(U.un n x)[i]?=some v):(U.fs n)[i]?=some v.t:=by
 rw[<-hU.ty n x,List.getElem?_map,h];rfl
def xJ{n i:Nat}{t:Ty}(h:(U.fs n)[i]?=some t):((U.lt n).drop (mD U n i)).take (szT U t)=fS U t:=by
 rw[hU.lt n];exact aBz hU h
structure SR(t:Ty)(x:Den U.D t)(cs:List PV):Prop where
 wk:wks cs=(enV U t x).cells
 z:zOK U (fS U t) cs
def SR.len{t:Ty}{x:Den U.D t}{cs:List PV}(h:SR t x cs):cs.length=szT U t:=by
 rw[<-fF,h.wk,fE hU]
def SR.gd{t:Ty}{x:Den U.D t}{cs:List PV}(h:SR t x cs){c:PV}(hc:c∈cs):gd (PI.wk c)=true:=by
 have h1:=rQ hU t x;rw[<-h.wk,iC,List.all_map,List.all_eq_true]at h1;exact h1 c hc
def SR.one{t:Ty}{x:Den U.D t}{cs:List PV}(h:SR t x cs):cs.all PV.one=true:=all_one (by rw[h.wk];exact rQ hU t x)
def SR.fld{n i:Nat}{x:U.D n}{cs:List PV}(h:SR (U:=U) (.rc n) x cs){v:V U}(hv:(U.un n x)[i]?=some v):SR v.t v.x ((cs.drop (mD U n i)).take (szT U v.t)):=by
 refine⟨?_,?_⟩
 ·rw[zE,zG,h.wk];exact tF hU hv
 ·have:=zOK_part h.z (mD U n i) (szT U v.t);rw[show fS U (.rc n)=U.lt n from rfl,xJ hU (aBM hU hv)]at this
  exact this
omit hU in
def VR.sr{t:Ty}{x:Den U.D t}{p:PV}(h:VR U t x p):SR t x p.cells:=by
 refine⟨?_,h.z⟩;have h1:=h.wk;cases t with
 |rc n=>obtain⟨cs,rfl,h2⟩:=aI8 h1;exact h2
 |int k=>rw[wk_v h1];rfl
 |bool=>rw[wk_v h1];rfl
 |str=>rw[aE6 h1];rfl
 |sl t=>
  have hg:gd (PI.wk p)=true:=by rw[h1];exact cI _ _
  rw[jM (lI hg),enV,jJ (cI _ _),wks,wks,h1,enV]
def sP(hT:zD P U T){id:TypeId}{t:Ty}(ht:T.T.ty id=some t){x:Den U.D t}{cs:List PV}{off:Nat}(h:SR t x ((cs.drop off).take (szT U t))):
    ∃p,pI P id cs off=some p/\VR U t x p/\p.cells=(cs.drop off).take (szT U t)/\isAgg p=oY t:=by
 have hl:=h.len hU;unfold pI;rw[hT.ag id t ht];cases hr:oY t with
 |true=>
  simp only[hT.sz id t ht,hl,Nat.beq_refl,cdt];refine⟨_,rfl,⟨?_,h.z⟩,rfl,rfl⟩;cases t with
  |rc n=>simp only[PI.wk,h.wk];rfl
  |_=>cases hr
 |false=>
  simp only;have hs:szT U t=1:=by cases t<;>first|rfl|cases hr
  rw[hs]at h hl⊢;have bi:off<cs.length:=by
   rw[List.length_take,List.length_drop]at hl;omega
  have qo:(cs.drop off).take 1=[cs[off]]:=by
   rw[List.drop_eq_getElem_cons bi];rfl
  rw[qo]at h⊢;refine⟨cs[off],by rw[geG bi],?_,?_,?_⟩
  ·have hg:=h.gd hU (List.mem_singleton.2 rfl);refine⟨?_,?_⟩
   ·have h1:=h.wk;rw[wks,wks]at h1;cases t with
    |rc n=>cases hr
    |int k=>exact List.head_eq_of_cons_eq h1
    |bool=>exact List.head_eq_of_cons_eq h1
    |str=>exact List.head_eq_of_cons_eq h1
    |sl t=>rw[enV,jJ (cI _ _)]at h1;exact List.head_eq_of_cons_eq h1
   ·rw[jM (lI hg)];exact h.z
  ·exact jM (lI (h.gd hU (List.mem_singleton.2 rfl)))
  ·have:=lI (h.gd hU (List.mem_singleton.2 rfl));cases hc:cs[off]<;>first|rfl|exact(this _ hc).elim
def pT{p:List Nat}: ∀{v w:V U} {o:Nat} {cs:List PV},aGe U p v=some (w,o)->SR v.t v.x cs->SR w.t w.x ((cs.drop o).take (szT U w.t))/\o+szT U w.t<=szT U v.t:=by
 induction p with
 |nil=>
  intro v w o cs h r;simp only[aGe,ojE,pjE]at h;obtain⟨rfl,rfl⟩:=h;refine⟨?_,by omega⟩
  rw[List.drop_zero,List.take_of_length_le (by rw[r.len hU];exact nlR _)]
  exact r
 |cons i p ih=>
  intro v w o cs h r;unfold aGe at h;split at h
  ·rename_i y hy;split at h
   ·rename_i z hz;simp only[ojE,pjE]at h;obtain⟨h1,h2⟩:=h;obtain⟨t,x⟩:=v;unfold fldT at hy;split at hy
    ·rename_i n x' heq;cases heq;have nd:aGe U p y=some (w,z.2):=by rw[hz,<-h1]
     obtain⟨g1,g2⟩:=ih nd (r.fld hU hy);have co:mD U n i+szT U y.t<=U.sz n:=by
      have hr:cs.length=U.sz n:=r.len hU;have:=(r.fld hU hy).len hU;rw[List.length_take,List.length_drop,hr]at this;have hp:=lQ hU y.t;omega
     have ho:o=mD U n i+z.2:=by rw[<-h2];rfl
     subst ho;refine⟨?_,?_⟩
     ·rw[List.drop_take,List.drop_drop,List.take_take,Nat.min_eq_left (by omega)]at g1
      exact g1
     ·show _<=U.sz n;omega
    ·cases hy
   ·cases h
  ·cases h
end
end Go.TV
namespace Go.TV
open Go.AI Go.PI
section
variable{P:Program}{U:jP}{T:TP U.D}{c:Cx}{W:Type}{r:W}
def jF{N:Type}{a:Option N}{K:N->Option W}(h:ob a K=some r): ∃x,a=some x/\K x=some r:=by
 cases a with
 |none=>cases h
 |some x=>exact⟨x,rfl,h⟩
def cN{b:Bool}{K:Option W}(h:chk b K=some r):b=true/\K=some r:=by
 cases b with
 |false=>cases h
 |true=>exact⟨rfl,h⟩
def aAH{b:Bool}{A B:Option W}(h:cnd b A B=some r):(b=true/\A=some r)∨(b=false/\B=some r):=by
 cases b with
 |false=>exact .inr ⟨rfl,h⟩
 |true=>exact .inl ⟨rfl,h⟩
def zOK_v(ts:List Ty)(x:Value):zOK U ts (PV.v x).cells:=λj z hz=>by
 cases j<;>simp[PV.cells]at hz
def dW(k:IntKind)(n:Int):VR U (.int k) n (.v (.int k n)):=⟨rfl,zOK_v _ _⟩
def cU(b:Bool):VR U .bool b (.v (.bool b)):=⟨rfl,zOK_v _ _⟩
def aCC(s:List UInt8):VR U .str s (.str s):=⟨rfl,λj z hz=>by cases j<;>simp[PV.cells]at hz⟩
def fD{k:IntKind}{n:Int}{p:PV}(h:VR U (.int k) n p):p= .v (.int k n):=wk_v h.wk
def of_bool{b:Bool}{p:PV}(h:VR U .bool b p):p= .v (.bool b):=wk_v h.wk
def sS{s:List UInt8}{p:PV}(h:VR U .str s p):p= .str s:=aE6 h.wk
def aKD{n:Nat}{x:U.D n}{p:PV}(h:VR U (.rc n) x p): ∃cs,p= .agg cs/\wks cs=U.en n x:=aI8 h.wk
def rH{t:Ty}{l:List (Den U.D t)}{p:PV}(h:VR U (.sl t) l p):mO (szT U t) p=some (l.map (enV U t))/\((l=[]/\(p= .emp∨p= .nil∨p= .sl (szT U t) []))∨(l≠ []/\p= .sl (szT U t) (l.map (enV U t)))):=by
 have hz: ∀z',p= .sl z' []->z'=szT U t:=λz' e=>by
  obtain⟨e',h1,h2⟩:=h.z 0 z' (by rw[e];rfl)
  simp only[fS,gcZ,ojE,Ty.sl.injEq]at h1;rw[h2,<-h1]
 have hw:PI.wk p=dN (szT U t) (l.map (enV U t)):=h.wk;refine⟨elems_wk hw hz,?_⟩;rcases wk_mk hw with⟨h1,h2⟩|⟨h1,h2⟩
 ·refine .inl ⟨by simpa using h1,?_⟩
  rcases h2 with h2|h2|⟨z,h2⟩
  ·exact .inl h2
  ·exact .inr (.inl h2)
  ·exact .inr (.inr (by rw[h2,hz z h2]))
 ·exact .inr ⟨by simpa using h1,h2⟩
def aCD(t:Ty)(l:List (Den U.D t)){z:Nat}{es:List PV}(hz:z=szT U t)(he:es=l.map (enV U t)):VR U (.sl t) l (dN z es):=by
 subst hz he;refine⟨gd_wk (cI _ _),λj z hj=>?_⟩
 rw[jJ (cI _ _)]at hj;have:=cI (szT U t) (l.map (enV U t));cases j with
 |zero=>
  simp only[gcZ,ojE]at hj;rw[hj]at this;simp[gd]at this
 |succ j=>simp at hj
def aFO{op:BinOp}{t:TypeId}{x y:Operand}{u w:Value}(hu:aE u=true)(hw:aE w=true):nU P op t x y (.v u) (.v w)=(iJ P op t x y u w).map ofV:=by
 have h1:=wV hu;have h2:=wV hw;simp only[nU,toV,vG,hu,hw,cdt,iJ,h1,h2,Bool.and_self]
def dX(s:List UInt8):Value:= .string ⟨s.toArray⟩
def pbin_str{op:BinOp}{t:TypeId}{x y:Operand}{s u:List UInt8}:nU P op t x y (.str s) (.str u)=(iJ P op t x y (dX s) (dX u)).map ofV:=by
 simp only[nU,toV,vG,iJ,dX,aO,aE,Bool.and_self,cdt]
def bq(s u:List UInt8):(s==u)=decide (s=u):=by by_cases h:s=u<;>simp[h]
def intT_ok{op:BinOp}{t:TypeId}{x y:Operand}{k:IntKind}{a b:Int}{K:V U->Option W}(h:intT U op k a b K=some r):
    ∃v w,K v=some r/\nU P op t x y (.v (.int k a)) (.v (.int k b))=some w/\VR U v.t v.x w:=by
 have go: ∀(v:V U) (w:Value),K v=some r->iJ P op t x y (.int k a) (.int k b)=some w->VR U v.t v.x (ofV w)->∃v w,K v=some r/\nU P op t x y (.v (.int k a)) (.v (.int k b))=some w/\VR U v.t v.x w:=
  λv w hk ha hv=>⟨v,ofV w,hk,by rw[aFO rfl rfl,ha];rfl,hv⟩
 cases op with
 |eql=>exact go _ _ h n_eql (by rw[show(a==b)=decide (a=b) from rfl];exact cU _)
 |neq=>exact go _ _ h n_neq (cU _)
 |lss=>exact go _ _ h n_lss (cU _)
 |leq=>exact go _ _ h n_leq (cU _)
 |gtr=>exact go _ _ h n_gtr (cU _)
 |geq=>exact go _ _ h n_geq (cU _)
 |add=>exact go _ _ h n_add (dW _ _)
 |sub=>exact go _ _ h n_sub (dW _ _)
 |mul=>exact go _ _ h n_mul (dW _ _)
 |quo=>
  obtain⟨hb,hk⟩:=cN h;exact go _ _ hk (n_quo (by simpa using hb)) (dW _ _)
 |rem=>
  obtain⟨hb,hk⟩:=cN h;exact go _ _ hk (n_rem (by simpa using hb)) (dW _ _)
 |and=>exact go _ _ h n_and (dW _ _)
 |or=>exact go _ _ h n_or (dW _ _)
 |xor=>exact go _ _ h n_xor (dW _ _)
 |andNot=>exact go _ _ h n_andNot (dW _ _)
 |_=>cases h
def shT_ok{op:BinOp}{t:TypeId}{x y:Operand}{k j:IntKind}{a b:Int}{K:V U->Option W}(h:shT U op k a b K=some r):
    ∃v w,K v=some r/\nU P op t x y (.v (.int k a)) (.v (.int j b))=some w/\VR U v.t v.x w:=by
 have go: ∀(v:V U) (w:Value),K v=some r->iJ P op t x y (.int k a) (.int j b)=some w->VR U v.t v.x (ofV w)->∃v w,K v=some r/\nU P op t x y (.v (.int k a)) (.v (.int j b))=some w/\VR U v.t v.x w:=
  λv w hk ha hv=>⟨v,ofV w,hk,by rw[aFO rfl rfl,ha];rfl,hv⟩
 cases op with
 |shl=>
  obtain⟨hb,hk⟩:=cN h;exact go _ _ hk (n_shl (by simpa using hb)) (dW _ _)
 |shr=>
  obtain⟨hb,hk⟩:=cN h;exact go _ _ hk (n_shr (by simpa using hb)) (dW _ _)
 |_=>cases h
def jO{op:BinOp}{t:TypeId}{x y:Operand}{s u:List UInt8}{v:Value}(h:aR P (Op.stringOp op ⟨s.toArray⟩ ⟨u.toArray⟩)=some v)(hv:aO v=true)(ly:op= .eql∨op= .neq∨op= .lss∨op= .leq∨op= .gtr∨op= .geq∨op= .add):
    iJ P op t x y (dX s) (dX u)=some v:=by
 have e:aR P (do eqGuard op t x y (dX s) (dX u);binOp op t (dX s) (dX u))=some v:=by
  rcases ly with rfl|rfl|rfl|rfl|rfl|rfl|rfl<;>
   simp only[dX,aA,eqGuard,bnT,Bool.not_false,Bool.false_eq_true,if_false,if_true,aB,obS,binOp,h]
 unfold iJ aY;rw[show(aO (dX s)&&aO (dX u))=true from rfl,cdt,e]
 simp only[hv,cdt]
def strT_ok{op:BinOp}{t:TypeId}{x y:Operand}{a b:List UInt8}{K:V U->Option W}(h:strT U op a b K=some r):
    ∃v w,K v=some r/\nU P op t x y (.str a) (.str b)=some w/\VR U v.t v.x w:=by
 have go: ∀(v:V U) (w:Value),K v=some r->iJ P op t x y (dX a) (dX b)=some w->VR U v.t v.x (ofV w)->∃v w,K v=some r/\nU P op t x y (.str a) (.str b)=some w/\VR U v.t v.x w:=
  λv w hk ha hv=>⟨v,ofV w,hk,by rw[pbin_str,ha];rfl,hv⟩
 have hl: ∀s:List UInt8,(⟨s.toArray⟩:ByteArray).toList=s:=λs=>by rw[ByteArray.toList_mk]
 cases op with
 |eql=>exact go _ _ h (jO (v:= .bool (decide (a=b))) (by simp only[Op.stringOp,hl,bq];rfl) rfl (by simp)) (cU _)
 |neq=>exact go _ _ h (jO (v:= .bool (!decide (a=b))) (by simp only[Op.stringOp,hl,bq];rfl) rfl (by simp)) (cU _)
 |lss=>exact go _ _ h (jO (v:= .bool (Op.bytesLess a b)) (by simp only[Op.stringOp,hl,bq];rfl) rfl (by simp)) (cU _)
 |leq=>exact go _ _ h (jO (v:= .bool (Op.bytesLess a b||decide (a=b))) (by simp only[Op.stringOp,hl,bq];rfl) rfl (by simp)) (cU _)
 |gtr=>exact go _ _ h (jO (v:= .bool (!(Op.bytesLess a b||decide (a=b)))) (by simp only[Op.stringOp,hl,bq];rfl) rfl (by simp)) (cU _)
 |geq=>exact go _ _ h (jO (v:= .bool (!Op.bytesLess a b)) (by simp only[Op.stringOp,hl,bq];rfl) rfl (by simp)) (cU _)
 |add=>
  obtain⟨hb,hk⟩:=cN h;rw[Nat.ble_eq]at hb;refine go _ _ hk (jO (v:= .string (⟨a.toArray⟩++⟨b.toArray⟩)) ?_ rfl (by simp)) ?_
  ·simp only[Op.stringOp];rw[if_neg]
   ·rfl
   ·show¬((((⟨a.toArray⟩:ByteArray).data.size+(⟨b.toArray⟩:ByteArray).data.size:Nat):Int)>9223372036854775807);simp only[List.size_toArray];omega
  ·show VR U .str _ (.str (((⟨a.toArray⟩:ByteArray)++⟨b.toArray⟩).data.toList));rw[ByteArray.data_append];simp only[Array.toList_append];exact aCC _
 |_=>cases h
def binT_ok(hU:fV U)(hT:zD P U T){op:BinOp}{t:TypeId}{x y:Operand}{a b:SV U.D}{p p':PV}{K:V U->Option W}(h:binT U op (T.T.ty t) a b K=some r)(ra:svR U c a p)(rb:svR U c b p'):
    ∃v w,K v=some r/\nU P op t x y p p'=some w/\VR U v.t v.x w:=by
 unfold binT at h;split at h
 ·rename_i k n j m;rw[fD ra,fD rb];cases hs:aKU op with
  |true=>rw[hs]at h;exact shT_ok h
  |false=>
   rw[hs]at h;simp only[cdf]at h;cases hj:decide (k=j)with
   |false=>rw[hj]at h;cases h
   |true=>
    rw[hj]at h;have:=of_decide_eq_true hj;subst this;exact intT_ok h
 ·rename_i n m;rw[of_bool ra,of_bool rb];split at h
  ·rename_i _ ht;have hu:P.underlying t=some .bool:=hT.un t .bool ht;exact⟨_,_,h,by rw[aFO rfl rfl,n_eqb hu];rfl,cU _⟩
  ·rename_i _ ht;have hu:P.underlying t=some .bool:=hT.un t .bool ht;exact⟨_,_,h,by rw[aFO rfl rfl,n_neb hu];rfl,cU _⟩
  ·cases h
 ·rw[sS ra,sS rb];exact strT_ok h
 ·rename_i n x1 m y1;split at h
  ·rename_i i ht;split at h
   ·rename_i f x2 y2 hf h1 h2;have e1:=kT h1;have e2:=kT h2;have ra':VR U (.rc i) x2 p:=by have:=ra;unfold svR at this;rw[e1]at this;exact this
    have rb':VR U (.rc i) y2 p':=by have:=rb;unfold svR at this;rw[e2]at this;exact this
    obtain⟨cs,rfl,hc⟩:=aKD ra';obtain⟨ds,rfl,hd⟩:=aKD rb';have js: ∀{cs:List PV} {x:U.D i},wks cs=U.en i x->cs=U.en i x:=by
     intro cs x hx;have h3:=hU.eqc i f x hf;rw[<-hx]at h3;rw[<-hx];clear hx;induction cs with
     |nil=>rfl
     |cons c cs ih=>
      simp only[wks,alC,bjE]at h3;rw[wks,<-ih h3.2];congr 1;have h4:=h3.1;cases hc:wk c<;>rw[hc]at h4<;>first|exact wk_v hc|exact aE6 hc|cases h4
    have he:=hT.eq t i f ht hf x2 y2 x y;rw[<-js hc,<-js hd]at he;split at h
    ·exact⟨_,_,h,he.1,cU _⟩
    ·exact⟨_,_,h,he.2,cU _⟩
    ·cases h
   ·cases h
  ·cases h
 ·rename_i e l;have hp:p'= .nil:=rb;subst hp;obtain⟨_,hl⟩:=rH ra;have key: ∀(op:BinOp),l.isEmpty=false->(∃e',T.T.ty t=some (.sl e'))->nU P op t x y p .nil=pnil op p:=by
   intro op bu ⟨e',ht⟩;obtain⟨fb,hu,_⟩:=hT.un t _ ht;rcases hl with⟨rfl,_⟩|⟨_,rfl⟩
   ·cases bu
   ·simp only[nU,toV,vG,hu]
  have cr:l.isEmpty=false->∃z es,p= .sl z es:=λbu=>by
   rcases hl with⟨rfl,_⟩|⟨_,h1⟩
   ·cases bu
   ·exact⟨_,_,h1⟩
  split at h
  ·rename_i ht;obtain⟨bu,hk⟩:=cN h;simp only[Bool.not_eq_true']at bu;obtain⟨z,es,rfl⟩:=cr bu;exact⟨_,_,hk,by rw[key _ bu ⟨_,ht⟩];rfl,cU _⟩
  ·rename_i ht;obtain⟨bu,hk⟩:=cN h;simp only[Bool.not_eq_true']at bu;obtain⟨z,es,rfl⟩:=cr bu;exact⟨_,_,hk,by rw[key _ bu ⟨_,ht⟩];rfl,cU _⟩
  ·cases h
 ·cases h
end
end Go.TV
namespace Go.TV
open Go.AI Go.PI
section
variable{P:Program}{U:jP}{T:TP U.D}{c:Cx}{W:Type}{r:W}
def unT_ok{op:UnOp}{a:SV U.D}{p:PV}{K:V U->Option W}(h:unT U op a K=some r)(ra:svR U c a p): ∃v w,K v=some r/\pun P op p=some w/\VR U v.t v.x w:=by
 unfold unT at h;split at h
 ·rw[of_bool ra];exact⟨_,_,h,rfl,cU _⟩
 ·rename_i k n;rw[fD ra];refine⟨_,.v (.int k (k.wrap (0-n))),h,?_,dW _ _⟩;cases k<;>rfl
 ·cases h
def aCj: ∀{l:List Int} {s:List UInt8},aCk l=some s->fO (l.map λn=>PV.v (.int .u8 n))=some s
 |[],s,h=>by simp only[aCk,ojE]at h;subst h;rfl
 |n::l,s,h=>by
  unfold aCk at h;split at h
  ·rename_i s' hs;cases h;simp only[mpC,fO,aCj hs,omS]
  ·cases h
def convT_ok(hT:zD P U T){sq:Bool}{s d:TypeId}{a:SV U.D}{p:PV}{K:V U->Option W}(h:convT U sq (T.T.ty s) (T.T.ty d) a K=some r)(ra:svR U c a p):
    ∃v w,K v=some r/\VR U v.t v.x w/\(vJ P s d p=some w∨(sq=true/\vJ P s d p=none/\wX P s d p=some w)):=by
 unfold convT at h;split at h
 ·rename_i k1 j k n hs hd;rw[fD ra];have h1:P.underlying s=some (.int k1):=hT.un s _ hs;have h2:P.underlying d=some (.int j):=hT.un d _ hd;refine⟨_,.v (.int j (j.wrap n)),h,dW _ _,.inl ?_⟩;have:=n_conv (k:=k) (a:=n) h1 h2;simp only[aconv,aE,cdt]at this;simp only[vJ,vG,aE,cdt,this];rfl
 ·rename_i x hs hd;rw[sS ra];have h1:P.underlying s=some .string:=hT.un s _ hs;have h2:P.underlying d=some .string:=hT.un d _ hd;refine⟨_,.str x,h,aCC _,.inl ?_⟩;simp only[vJ,vG,aY,convert,aA,aF,h1,h2,obS,aB,aO,cdt];rfl
 ·rename_i l hs hd;cases sq with
  |false=>cases h
  |true=>
   obtain⟨x,hx,hk⟩:=jF h;obtain⟨e,h1,he,_⟩:=hT.un s _ hs;have h2:P.underlying d=some .string:=hT.un d _ hd;have h3:P.underlying e=some (.int .u8):=hT.un e _ he;obtain⟨rv,hl⟩:=rH ra;refine⟨_,.str x,hk,aCC _,.inr ⟨rfl,?_,?_⟩⟩
   ·have:vG p=none:=by
     rcases hl with⟨_,rfl|rfl|rfl⟩|⟨_,rfl⟩<;>rfl
    simp only[vJ,this]
   ·have gh:mO 1 p=some (l.map λn=>PV.v (.int .u8 n)):=rv
    simp only[wX,h1,h2,h3,gh,aCj hx,omS]
 ·cases h
def pickT_ok{w:Bool}{a b:X U}{p q:PV}{o1 o2:Bool}{K:X U->Option W}(h:pickT U w a b K=some r)(ra:slR U c a (p,o1))(rb:slR U c b (q,o2)):
    ∃x,K x=some r/\slR U c x (bif w then p else q,false):=by
 unfold pickT at h;split at h
 ·rename_i t x u y ea eb;split at h
  ·rename_i y' hy;have e:=kT hy;have h1:=ra.1;have h2:=rb.1;rw[ea]at h1;rw[eb,e]at h2;refine⟨_,h,?_,aJ _ _⟩;cases w with
   |true=>exact h1
   |false=>exact h2
  ·cases h
 ·rcases aAH h with⟨rfl,hk⟩|⟨rfl,hk⟩
  ·exact⟨_,hk,oF ra⟩
  ·exact⟨_,hk,oF rb⟩
def lenT_ok(hT:zD P U T){t:TypeId}{x:SV U.D}{p:PV}{K:X U->Option W}(h:lenT U (T.T.ty t) x K=some r)(ra:svR U c x p):
    ∃y w,K y=some r/\aIX P t p=some w/\slR U c y (w,false):=by
 unfold lenT at h;split at h
 ·rename_i e e' l ht;cases he:e.beq e' with
  |false=>rw[he]at h;cases h
  |true=>
   rw[he]at h;obtain⟨fb,hu,_⟩:=hT.un t _ ht;obtain⟨_,hl⟩:=rH ra;refine⟨_,i64 (l.length:Int),h,?_,dW _ _,aJ _ _⟩;simp only[aIX,hu];rcases hl with⟨rfl,rfl|rfl|rfl⟩|⟨_,rfl⟩<;>simp
 ·rename_i l ht;have hu:P.underlying t=some .string:=hT.un t _ ht;rw[sS ra];refine⟨_,i64 (l.length:Int),h,?_,dW _ _,aJ _ _⟩;simp only[aIX,hu]
 ·rename_i e ht;have hp:p= .nil:=ra;subst hp;obtain⟨fb,hu,_⟩:=hT.un t _ ht;exact⟨_,i64 0,h,by simp only[aIX,hu],dW _ _,aJ _ _⟩
 ·cases h
def mmT_ok{mx:Bool}{ts:Array TypeId}{ty:TypeId}{a b:SV U.D}{p q:PV}{K:X U->Option W}(h:mmT U mx a b K=some r)(ra:svR U c a p)(rb:svR U c b q):
    ∃y w,K y=some r/\jC P mx ts ty [p,q]=some w/\slR U c y (w,false):=by
 unfold mmT at h;split at h
 ·rename_i x y;rw[fD ra,fD rb];refine⟨_,_,h,?_,dW _ _,aJ _ _⟩;cases mx with
  |true=>
   simp only[jC,toVl,vG,aE,cdt,aY,Builtin.max_,List.foldlM_cons,List.foldlM_nil,Builtin.max2,aA,aB,obS,aO];by_cases fx:x<y
   ·simp[fx];rfl
   ·simp[fx];rfl
  |false=>
   simp only[jC,toVl,vG,aE,cdt,cdf,aY,Builtin.min_,List.foldlM_cons,List.foldlM_nil,Builtin.min2,aA,aB,obS,aO];by_cases fx:y<x
   ·simp[fx];rfl
   ·simp[fx];rfl
 ·cases h
def jE{x:Option (SV U.D)}{y:Option PV}{i:Option Int}(h:optI U x=some i)(hr: ∀a,x=some a->∃b,y=some b/\svR U c a b)(hn:x=none->y=none):
    (i=none/\y=none)∨∃n k,i=some n/\y=some (.v (.int k n)):=by
 unfold optI at h;split at h
 ·cases h;exact .inl ⟨rfl,hn rfl⟩
 ·rename_i k n;cases h;obtain⟨b,h1,h2⟩:=hr _ rfl;exact .inr ⟨n,k,rfl,by rw[h1,fD h2]⟩
 ·cases h
def fC{S:TS U.D}{S':PS}(F:frR U c S S')(x:Option Operand):(∀a,(x.map λx=>(evT U S x).1)=some a->∃b,x.map (pev S')=some b/\svR U c a b)/\((x.map λx=>(evT U S x).1)=none->x.map (pev S')=none):=by
 cases x with
 |none=>exact⟨λa h=>(by cases h),λ_=>rfl⟩
 |some x=>exact⟨λa h=>by cases h;exact⟨_,rfl,(bA F x).1⟩,λh=>by cases h⟩
def zP{N:Type}{l s:List N}{lo hi:Int}(h:slc l lo hi=some s):0<=lo/\lo<=hi/\hi<=(l.length:Int)/\s=(l.take hi.toNat).drop lo.toNat:=by
 unfold slc at h;cases hb:decide (0<=lo)&&decide (lo<=hi)&&decide (hi<=(l.length:Int))with
 |false=>rw[hb]at h;cases h
 |true=>
  rw[hb]at h;simp only[cdt,ojE]at h;simp only[bjE,djE]at hb;exact⟨hb.1.1,hb.1.2,hb.2,h.symm⟩
def aDF(s:List UInt8)(l h:Nat):((⟨s.toArray⟩:ByteArray).extract l h).data.toList=(s.take h).drop l:=by
 rw[ByteArray.data_extract];simp only[Array.toList_extract,List.extract_eq_take_drop];rw[List.drop_take]
def slT_ok(hT:zD P U T){S:TS U.D}{S':PS}(F:frR U c S S'){p:PSt}{t:TypeId}{x:SV U.D}{a:PV}{lo hi mx:Option Operand}{K:X U->Option W}(h:slT U S (T.T.ty t) x lo hi mx K=some r)(ra:svR U c x a):
    ∃y w own,K y=some r/\gX P p t a (lo.map (pev S')) (hi.map (pev S')) (mx.map (pev S'))=some (w,own)/\slR U c y (w,own):=by
 unfold slT at h;split at h
 ·rename_i s l hh ht hl jy hm;have h1:=jE hl (fC F lo).1 (fC F lo).2;have h2:=jE jy (fC F hi).1 (fC F hi).2;have h3:=jE hm (fC F mx).1 (fC F mx).2;obtain⟨q,hq,hk⟩:=jF h;obtain⟨b1,b2,b3,rfl⟩:=zP hq;have hu:P.underlying t=some .string:=hT.un t _ ht;rw[sS ra];rcases h3 with⟨_,h3⟩|⟨_,_,h3,_⟩
  ·refine⟨_,.str ((s.take (hh.getD (s.length:Int)).toNat).drop (l.getD 0).toNat),false,hk,?_,aCC _,aJ _ _⟩;have key: ∀(lv hv:Option Value),(lv=none/\l=none∨∃n k,l=some n/\lv=some (.int k n))->(hv=none/\hh=none∨∃n k,hh=some n/\hv=some (.int k n))->
          aY P (Instr.sliceAt t (.string ⟨s.toArray⟩) lv hv none)=some (.string ((⟨s.toArray⟩:ByteArray).extract (l.getD 0).toNat (hh.getD (s.length:Int)).toNat)):=by
    intro lv hv hlv hhv;have co:(⟨s.toArray⟩:ByteArray).size=s.length:=by show s.toArray.size=_;simp
    have e:aR P (Instr.sliceBounds false s.length s.length lv hv none)=some ((l.getD 0).toNat,(hh.getD (s.length:Int)).toNat,s.length):=by
     rcases hlv with⟨rfl,rfl⟩|⟨n,k,rfl,rfl⟩<;>rcases hhv with⟨rfl,rfl⟩|⟨m,j,rfl,rfl⟩
     ·simp[Instr.sliceBounds,aA,aB]
     ·simp only[Option.getD_none,Option.getD_some]at b1 b2 b3;simp[Instr.sliceBounds,Instr.sliceBound,asIntOf,aA,aB,b2,b3]
     ·simp only[Option.getD_none,Option.getD_some]at b1 b2 b3;simp[Instr.sliceBounds,Instr.sliceBound,asIntOf,aA,aB,b1,b2]
     ·simp only[Option.getD_some]at b1 b2 b3;have b0:0<=m:=by omega
      have b4:(m.toNat:Int)=m:=by omega
      simp[Instr.sliceBounds,Instr.sliceBound,asIntOf,aA,aB,b0,b1,b2,b3,b4]
    simp only[aY,Instr.sliceAt,Instr.slice,aA,aF,hu,obS,Option.isSome_none,Bool.false_eq_true,if_false,aB,co,e,aO,aE,cdt]
   have hv1: ∃lv,optV (lo.map (pev S'))=some lv/\(lv=none/\l=none∨∃n k,l=some n/\lv=some (.int k n)):=by
    rcases h1 with⟨rfl,e⟩|⟨n,k,rfl,e⟩
    ·exact⟨none,by rw[e];rfl,.inl ⟨rfl,rfl⟩⟩
    ·exact⟨some (.int k n),by rw[e];rfl,.inr ⟨n,k,rfl,rfl⟩⟩
   have hv2: ∃hv,optV (hi.map (pev S'))=some hv/\(hv=none/\hh=none∨∃n k,hh=some n/\hv=some (.int k n)):=by
    rcases h2 with⟨rfl,e⟩|⟨n,k,rfl,e⟩
    ·exact⟨none,by rw[e];rfl,.inl ⟨rfl,rfl⟩⟩
    ·exact⟨some (.int k n),by rw[e];rfl,.inr ⟨n,k,rfl,rfl⟩⟩
   obtain⟨lv,e1,g1⟩:=hv1;obtain⟨hv,e2,g2⟩:=hv2;simp only[gX,hu,e1,e2,h3,key lv hv g1 g2,omS,ofV,aDF]
  ·cases h3
 ·rename_i e e' s l hh ht hl jy hm;have h1:=jE hl (fC F lo).1 (fC F lo).2;have h2:=jE jy (fC F hi).1 (fC F hi).2;have h3:=jE hm (fC F mx).1 (fC F mx).2;cases he:e.beq e' with
  |false=>rw[he]at h;cases h
  |true=>
   rw[he]at h;have:=Ty.beq_eq he;subst this;obtain⟨q,hq,hk⟩:=jF h;obtain⟨b1,b2,b3,rfl⟩:=zP hq;obtain⟨fb,hu,gp,_⟩:=hT.un t _ ht;have co:=hT.sz fb e gp;have i1:jT (lo.map (pev S'))=some l:=by rcases h1 with⟨rfl,e⟩|⟨n,k,rfl,e⟩<;>rw[e]<;>rfl
   have i2:jT (hi.map (pev S'))=some hh:=by rcases h2 with⟨rfl,e⟩|⟨n,k,rfl,e⟩<;>rw[e]<;>rfl
   have i3:jT (mx.map (pev S'))=some none:=by rcases h3 with⟨_,e⟩|⟨n,k,e,_⟩;rw[e];rfl;cases e
   obtain⟨_,qx⟩:=rH ra;refine⟨_,dN (szT U e) (((s.map (enV U e)).take (hh.getD (s.length:Int)).toNat).drop (l.getD 0).toNat),false,hk,?_,aCD _ _ rfl (by rw[List.map_drop,List.map_take]),aJ _ _⟩
   rcases qx with⟨rfl,h4⟩|⟨_,rfl⟩
   ·have b2:l.getD 0<=hh.getD 0:=b2;have b3:hh.getD 0<=0:=b3;have c1:(decide (0<=l.getD 0)&&decide (l.getD 0<=hh.getD 0)&&decide (hh.getD 0<=0))=true:=by
     simp only[bjE,djE];exact⟨⟨b1,b2⟩,b3⟩
    rcases h4 with rfl|rfl|rfl
    ·simp only[gX,hu,co,i1,i2,i3,c1,cdt];simp[dN]
    ·simp only[gX,hu,co,i1,i2,i3,c1,cdt];simp[dN]
    ·simp only[gX,hu,co,i1,i2,i3,Nat.beq_refl,Bool.true_and];rw[show(decide (0<=l.getD 0)&&decide (l.getD 0<=hh.getD ((([]:List PV).length:Nat):Int))&&decide (hh.getD ((([]:List PV).length:Nat):Int)<=((([]:List PV).length:Nat):Int)))=true from c1];simp[dN]
   ·have c1:(Nat.beq (szT U e) (szT U e)&&decide (0<=l.getD 0)&&decide (l.getD 0<=hh.getD (s.length:Int))&&decide (hh.getD (s.length:Int)<=(s.length:Int)))=true:=by
     simp only[Nat.beq_refl,Bool.true_and,bjE,djE];exact⟨⟨b1,b2⟩,b3⟩
    simp only[gX,hu,co,i1,i2,i3,List.length_map];rw[c1];rfl
 ·rename_i e e' s l hh m ht hl jy hm;have h1:=jE hl (fC F lo).1 (fC F lo).2;have h2:=jE jy (fC F hi).1 (fC F hi).2;have h3:=jE hm (fC F mx).1 (fC F mx).2;cases he:e.beq e' with
  |false=>rw[he]at h;cases h
  |true=>
   rw[he]at h;have:=Ty.beq_eq he;subst this;rw[cdt]at h;obtain⟨fb,hu,gp,_⟩:=hT.un t _ ht;have co:=hT.sz fb e gp;have i1:jT (lo.map (pev S'))=some l:=by rcases h1 with⟨rfl,e⟩|⟨n,k,rfl,e⟩<;>rw[e]<;>rfl
   have i2:jT (hi.map (pev S'))=some (some hh):=by rcases h2 with⟨e,_⟩|⟨n,k,e0,e⟩;cases e;rw[e];cases e0;rfl
   have i3:jT (mx.map (pev S'))=some (some m):=by rcases h3 with⟨e,_⟩|⟨n,k,e0,e⟩;cases e;rw[e];cases e0;rfl
   obtain⟨_,qx⟩:=rH ra;cases hk0:isK0 mx with
   |true=>
    rw[hk0,cdt]at h;have hc:=(cN h).1
    replace h:=(cN h).2
    simp only[bjE,djE,List.isEmpty_iff]at hc;obtain⟨⟨⟨rfl,hl0⟩,rfl⟩,rfl⟩:=hc;refine⟨_,.emp,true,h,?_,aCD (U:=U) e [] (es:=[]) rfl rfl,?_⟩
    ·rcases qx with⟨_,h4⟩|⟨h4,_⟩
     ·rcases h4 with rfl|rfl|rfl
      all_goals simp[gX,hu,co,i1,i2,i3,hl0]
     ·exact absurd rfl h4
    ·intro o s' qf;simp only[List.mem_singleton,pjE]at qf;exact .inr ⟨qf.1,rfl,rfl,λ_=>rfl⟩
   |false=>
   rw[hk0,cdf]at h;obtain⟨hc,h⟩:=cN h;simp only[bjE,djE]at hc;obtain⟨q,hq,hk⟩:=jF h;obtain⟨b1,b2,b3,rfl⟩:=zP hq;rcases qx with⟨rfl,_⟩|⟨_,rfl⟩
   ·simp only[lnN]at b3;omega
   ·refine⟨_,dN (szT U e) (((s.map (enV U e)).take hh.toNat).drop (l.getD 0).toNat),true,hk,?_,aCD _ _ rfl (by rw[List.map_drop,List.map_take]),?_⟩
    ·have c1:(Nat.beq (szT U e) (szT U e)&&decide (0<=l.getD 0)&&decide (l.getD 0<(some hh).getD (s.length:Int))&&decide ((some hh).getD (s.length:Int)<=(s.length:Int))&&(some hh).isSome&&decide ((some hh).getD (s.length:Int)=m))=true:=by
      simp only[Nat.beq_refl,Bool.true_and,bjE,djE,Option.getD_some,Option.isSome_some,and_true];exact⟨⟨⟨b1,hc.2⟩,b3⟩,hc.1⟩
     simp only[gX,hu,co,i1,i2,i3,List.length_map];rw[c1];rfl
    ·intro o s' qf;simp only[List.mem_singleton,pjE]at qf;refine .inr ⟨qf.1,?_,rfl,λ_=>?_⟩
     ·have:=cI (szT U e) (((s.map (enV U e)).take hh.toNat).drop (l.getD 0).toNat);cases hc:dN (szT U e) (((s.map (enV U e)).take hh.toNat).drop (l.getD 0).toNat)<;>first|rfl|(rw[hc]at this;cases this)
     ·exact xI (cI _ _)
 ·cases h
end
end Go.TV
namespace Go.TV
open Go.AI Go.PI
section
variable{P:Program}{U:jP}{T:TP U.D}{c:Cx}{W:Type}{r:W}(hU:fV U)(hT:zD P U T)
def aF3{o n:Nat}: ∀{rs:Rts} {x:Nat×Bool},x∈cutR o n rs->(x.1+o,x.2)∈rs/\x.1<n
 |[],x,h=>by cases h
 |y::rs,x,h=>by
  unfold cutR at h;cases hb:Nat.ble o y.1&&Nat.blt y.1 (o+n)with
  |false=>
   rw[hb]at h;obtain⟨h1,h2⟩:=aF3 h;exact⟨mtE _ h1,h2⟩
  |true=>
   rw[hb]at h;simp only[bjE,Nat.ble_eq,iN,djE]at hb;rcases List.mem_cons.1 h with rfl|h
   ·refine⟨?_,by simp only;omega⟩
    have:y.1-o+o=y.1:=by omega
    simp only[this];exact mhE ..
   ·obtain⟨h1,h2⟩:=aF3 h;exact⟨mtE _ h1,h2⟩
def wF{id:TypeId}{n f:Nat}{w:Ty}(hT:zD P U T)(ht:stTy T.T id=some (.rc n))(hw:(U.fs n)[f]?=some w):
    ∃fs fd,P.underlying id=some (.struct fs)/\fs[f]?=some fd/\T.T.ty fd.type=some w/\fd.offset=mD U n f:=by
 obtain⟨ht,ha⟩:=aJt ht;obtain⟨fs,hu,co,hf⟩:=hT.un id _ ht ha;have bi:f<(U.fs n).length:=by
  rcases Nat.lt_or_ge f (U.fs n).length with h|h
  ·exact h
  ·rw[List.getElem?_eq_none h]at hw;cases hw
 have gf:f<fs.size:=by rw[co];exact bi
 have ro:fs[f]?=some fs[f]:=Array.getElem?_eq_getElem gf;obtain⟨h1,h2⟩:=hf f _ ro;exact⟨fs,fs[f],hu,ro,by rw[h1,hw],h2⟩
def rtR_part{rs:Rts}{cs:List PV}{o n:Nat}{ow:Bool}{q:PV}(h:rtR rs (.agg cs) ow)(hq:q.cells=(cs.drop o).take n):rtR (cutR o n rs) q false:=λi s hi=>by
 obtain⟨h1,h2⟩:=aF3 hi;rcases h _ _ h1 with⟨_,h3⟩|⟨_,h3,_⟩
 ·have h4:q.cells[i]?=some .nil:=by
   rw[hq,List.getElem?_take,if_pos h2,List.getElem?_drop,Nat.add_comm];exact h3
  cases gz:isAgg q with
  |true=>exact .inl ⟨rfl,h4⟩
  |false=>
   have:q.cells=[q]:=jM λds e=>by rw[e]at gz;cases gz
   rw[this]at h4;cases i with
   |zero=>
    simp only[gcZ,ojE]at h4;subst h4;exact .inr ⟨rfl,rfl,rfl,λ_=>rfl⟩
   |succ i=>simp at h4
 ·cases h3
include hU hT
def field_ok{t:TypeId}{n f:Nat}{v w:V U}{rs:Rts}{p:PV}{ow:Bool}(ht:stTy T.T t=some (.rc n))(hv:v.t.beq (.rc n)=true)(hw:fldT U v f=some w)(ra:slR U c (.val v,rs) (p,ow)):
    ∃q,aBo P t p f=some q/\slR U c (.val w,cutR (mD U n f) (szT U w.t) rs) (q,false):=by
 obtain⟨t',x⟩:=v;have:=Ty.beq_eq hv;subst this;obtain⟨cs,rfl,hcs⟩:=aKD ra.1;have hsr:SR (U:=U) (.rc n) x cs:=(VR.sr ra.1);have pu:(U.un n x)[f]?=some w:=hw;obtain⟨fs,fd,hu,ro,ff,jn⟩:=wF hT ht (aBM hU pu);obtain⟨q,h1,h2,h3,h4⟩:=sP hU hT ff (hsr.fld hU pu);refine⟨q,?_,h2,rtR_part ra.2 h3⟩;simp only[aBo,hu,ro,jn];exact h1
def jL{t:TypeId}{n f:Nat}(ht:stTy T.T t=some (.rc n))(hf:f<(U.fs n).length):
    (∀id off,dZ P t (.ptr id off) f=some (.ptr id (off+mD U n f)))/\(∀es i off,dZ P t (.pin es i off) f=some (.pin es i (off+mD U n f))):=by
 obtain⟨w,hw⟩: ∃w,(U.fs n)[f]?=some w:=⟨_,geG hf⟩;obtain⟨fs,fd,hu,ro,ff,jn⟩:=wF hT ht hw;have hz:Nat.beq (szT U w) 0=false:=by
  rw[cG,dfN];have:=lQ hU w;omega
 constructor
 ·intro id off;simp only[dZ,hu,ro,hT.sz _ _ ff,hz,cdf,jn]
 ·intro es i off;simp only[dZ,hu,ro,hT.sz _ _ ff,hz,cdf,jn]
def aBR{t:TypeId}{n f:Nat}{v w:V U}{p:PV}(ht:stTy T.T t=some (.rc n))(hv:v.t.beq (.rc n)=true)(hw:fldT U v f=some w)(ra:svR U c (.ep v) p):
    ∃q,dZ P t p f=some q/\svR U c (.ep w) q:=by
 obtain⟨es,i,off,e,rfl,he,hcs⟩:=ra;obtain⟨t',x⟩:=v;have:=Ty.beq_eq hv;subst this;have pu:(U.un n x)[f]?=some w:=hw;have bi:f<(U.fs n).length:=by
  have:=aBM hU pu;rcases Nat.lt_or_ge f (U.fs n).length with h|h
  ·exact h
  ·rw[List.getElem?_eq_none h]at this;cases this
 refine⟨_,(jL hU hT ht bi).2 _ _ _,_,_,_,_,rfl,he,?_⟩;have hfc:=tF hU pu;have sf:(e.cells.drop off).take (U.sz n)=U.en n x:=hcs;rw[<-hfc,<-sf];have hle:mD U n f+szT U w.t<=U.sz n:=by
  have h1:((U.en n x).drop (mD U n f)).take (szT U w.t)=(enV U w.t w.x).cells:=hfc;have h2:=congrArg List.length h1;rw[List.length_take,List.length_drop,hU.len,fE hU]at h2;have:=lQ hU w.t;omega
 rw[List.drop_take,List.drop_drop,List.take_take,Nat.min_eq_left (by omega)]
omit hU hT in
def pC(te:Ty): ∀j:Nat,cY U (List.replicate j te)=j*szT U te
 |0=>by simp[cY]
 |j+1=>by
  rw[List.replicate_succ,Nat.succ_mul];simp only[cY];rw[pC te j];omega
def aBE{t:TypeId}{n j:Nat}{v w:V U}{p:PV}{k:IntKind}(ht:T.T.ty t=some (.rc n))(ha:T.T.arr t=true)(hv:v.t.beq (.rc n)=true)(hw:fldT U v j=some w)(ra:svR U c (.ep v) p):
    ∃q,cZ P t p (.v (.int k (j:Int)))=some q/\svR U c (.ep w) q:=by
 obtain⟨es,i,off,e,rfl,he,hcs⟩:=ra;obtain⟨t',x⟩:=v;have:=Ty.beq_eq hv;subst this;have pu:(U.un n x)[j]?=some w:=hw;have bi:j<(U.fs n).length:=by
  have:=aBM hU pu;rcases Nat.lt_or_ge j (U.fs n).length with h|h
  ·exact h
  ·rw[List.getElem?_eq_none h]at this;cases this
 obtain⟨len,el,te,hu,hz,hf⟩:=hT.arr t n ht ha;have hj:j<len:=by rw[hf,List.length_replicate]at bi;exact bi
 have hin:bC (j:Int) len=true:=by simp only[bC,bjE,djE];omega
 have ho:mD U n j=j*szT U te:=by rw[mD,hf,List.take_replicate,Nat.min_eq_left (by omega)];exact pC _ _
 refine⟨.pin es i (off+Int.toNat (j:Int)*szT U te),by simp only[cZ,hu,hz,hin,cdt],_,_,_,_,rfl,he,?_⟩
 have hfc:=tF hU pu;have sf:(e.cells.drop off).take (U.sz n)=U.en n x:=hcs;rw[<-hfc,<-sf];have hle:mD U n j+szT U w.t<=U.sz n:=by
  have h1:((U.en n x).drop (mD U n j)).take (szT U w.t)=(enV U w.t w.x).cells:=hfc;have h2:=congrArg List.length h1;rw[List.length_take,List.length_drop,hU.len,fE hU]at h2;have:=lQ hU w.t;omega
 rw[List.drop_take,List.drop_drop,List.take_take,Nat.min_eq_left (by omega),Int.toNat_natCast,ho]
omit hU hT in
def rY{N:Type}{l:List N}{n:Int}{y:N}(h:idx l n=some y):0<=n/\l[n.toNat]?=some y/\n.toNat<l.length:=by
 unfold idx at h;cases hb:decide (0<=n)with
 |false=>rw[hb]at h;cases h
 |true=>
  rw[hb]at h;refine⟨of_decide_eq_true hb,h,?_⟩;rcases Nat.lt_or_ge n.toNat l.length with h1|h1
  ·exact h1
  ·rw[cdt,List.getElem?_eq_none h1]at h;cases h
def aBD{t:TypeId}{e e':Ty}{l:List (Den U.D e')}{y:Den U.D e'}{k:IntKind}{n:Int}{p:PV}(ht:T.T.ty t=some (.sl e))(he:e.beq e'=true)(hy:idx l n=some y)(ra:svR U c (.val ⟨.sl e',l⟩) p):
    ∃q,cZ P t p (.v (.int k n))=some q/\svR U c (.ep ⟨e',y⟩) q:=by
 have:=Ty.beq_eq he;subst this;obtain⟨h0,h1,h2⟩:=rY hy;obtain⟨fb,hu,gp,_⟩:=hT.un t _ ht;obtain⟨_,hl⟩:=rH ra;rcases hl with⟨hl,_⟩|⟨_,rfl⟩
 ·have hl:l=[]:=hl;subst hl;simp at h2
 ·refine⟨.pin (l.map (enV U e)) n.toNat 0,?_,_,_,_,_,rfl,by rw[List.getElem?_map,h1];rfl,?_⟩
  ·have c1:(Nat.beq (szT U e) (szT U e)&&bC n (l.map (enV U e)).length)=true:=by
    simp only[Nat.beq_refl,Bool.true_and,bC,List.length_map,bjE,djE];exact⟨h0,by omega⟩
   simp only[cZ,hu,hT.sz _ _ gp,c1,cdt]
  ·rw[List.drop_zero,List.take_of_length_le (by rw[fE hU];exact nlR _)]
omit hU in
def index_ok{t:TypeId}{s:List UInt8}{b:UInt8}{k:IntKind}{n:Int}{p:PV}(ht:T.T.ty t=some .str)(hy:idx s n=some b)(ra:svR U c (.val ⟨.str,s⟩) p):
    wW P t p (.v (.int k n))=some (.v (.int .u8 (b.toNat:Int))):=by
 obtain⟨h0,h1,h2⟩:=rY hy;have hu:P.underlying t=some .string:=hT.un t _ ht;rw[sS ra];have co:(⟨s.toArray⟩:ByteArray)[n.toNat]?=some b:=by
  have h3:s[n.toNat]'h2=b:=by rw[geG h2]at h1;exact Option.some.inj h1
  show(if h:n.toNat<(⟨s.toArray⟩:ByteArray).size then some _ else none)=_
  rw[dif_pos (show n.toNat<(⟨s.toArray⟩:ByteArray).size by show n.toNat<s.toArray.size;simpa using h2)]
  congr 1
 simp only[wW,hu,vG,aE,cdt,aY,Instr.index,asIntOf,aA,aB,obS,aF,h0,if_true,co,aO];rfl
end
end Go.TV
namespace Go.TV
open Go.AI Go.PI
section
variable{P:Program}{U:jP}{T:TP U.D}{c:Cx}{W:Type}{r:W}
def aFJ: ∀(x a b e:List PV),b.length=x.length->aH5 (a++b++e) a.length x=a++x++e
 |[],a,b,e,h=>by
  have:b=[]:=List.length_eq_zero_iff.1 h;subst this;simp[aH5]
 |y::x,a,b,e,h=>by
  cases b with
  |nil=>simp at h
  |cons z b=>
   have h1:(a++(z::b)++e).set a.length y=(a++ [y])++b++e:=by
    rw[apA,List.set_append_right _ _ (nlR _)];simp
   have h2:=aFJ x (a++ [y]) b e (by simpa using h)
   rw[aH5,h1];simp only[lnA,lcS,lnN]at h2;rw[h2];simp
def aKf: ∀(ss:List (List PV)) (i:Nat) (s x:List PV),ss[i]?=some s->s.length=x.length->aH5 ss.flatten (ss.take i).flatten.length x=(ss.set i x).flatten:=by
 intro ss i s x h hl;have h1:i<ss.length:=by
  rcases Nat.lt_or_ge i ss.length with h1|h1
  ·exact h1
  ·rw[List.getElem?_eq_none h1]at h;cases h
 have hs:ss[i]=s:=by rw[geG h1]at h;exact Option.some.inj h
 have e1:ss.flatten=(ss.take i).flatten++s++(ss.drop (i+1)).flatten:=by
  have h3:ss=ss.take i++(ss[i]::ss.drop (i+1)):=by rw[<-List.drop_eq_getElem_cons h1,List.take_append_drop]
  conv=>lhs;rw[h3]
  rw[List.flatten_append,List.flatten_cons,hs,apA]
 have e2:(ss.set i x).flatten=(ss.take i).flatten++x++(ss.drop (i+1)).flatten:=by
  rw[List.set_eq_take_append_cons_drop,if_pos h1,List.flatten_append,List.flatten_cons,apA]
 rw[e1,e2];exact aFJ x _ s _ hl
def aIV(U:jP):List (V U×Bool)->List (List PV)->Prop
 |[],[]=>True
 |y::l,s::ss=>(SR y.1.t y.1.x s/\(y.2=true->∀o b,(o,b)∈aAl U y.1.t->s[o]?=some .nil))/\aIV U l ss
 |_,_=>False
def aFj: ∀{l:List (V U×Bool)} {ss:List (List PV)} {i:Nat} {y:V U×Bool},aIV U l ss->l[i]?=some y->∃s,ss[i]?=some s/\SR y.1.t y.1.x s
 |[],[],i,y,_,h=>by simp at h
 |z::l,s::ss,0,y,h,e=>by simp only[gcZ,ojE]at e;subst e;exact⟨s,rfl,h.1.1⟩
 |z::l,s::ss,i+1,y,h,e=>by rw[gcS]at e;obtain⟨s',h1,h2⟩:=aFj h.2 e;exact⟨s',by rw[gcS];exact h1,h2⟩
 |[],_::_,_,_,h,_=>h.elim
 |_::_,[],_,_,h,_=>h.elim
def aFi: ∀{l:List (V U×Bool)} {ss:List (List PV)} {i:Nat} {y:V U×Bool} {s:List PV},aIV U l ss->(SR y.1.t y.1.x s/\(y.2=true->∀o b,(o,b)∈aAl U y.1.t->s[o]?=some .nil))->aIV U (setF U l i y) (ss.set i s)
 |[],[],i,y,s,h,_=>by simp[setF,aIV]
 |z::l,s'::ss,0,y,s,h,e=>⟨e,h.2⟩
 |z::l,s'::ss,i+1,y,s,h,e=>⟨h.1,aFi h.2 e⟩
 |[],_::_,_,_,_,h,_=>h.elim
 |_::_,[],_,_,_,h,_=>h.elim
def wG: ∀{l:List (V U×Bool)} {i:Nat} {y z:V U×Bool},l[i]?=some z->y.1.t=z.1.t->(setF U l i y).map (λx=>x.1.t)=l.map λx=>x.1.t
 |[],i,y,z,h,_=>by simp at h
 |w::l,0,y,z,h,e=>by simp only[gcZ,ojE]at h;subst h;simp[setF,e]
 |w::l,i+1,y,z,h,e=>by rw[gcS]at h;simp only[setF,mpC,wG h e]
def aKm: ∀(ts:List Ty) (i o:Nat) (t:Ty),ts[i]?=some t->(plcT U ts o)[i]?=some (o+cY U (ts.take i),szT U t)
 |[],i,o,t,h=>by simp at h
 |u::ts,0,o,t,h=>by simp only[gcZ,ojE]at h;subst h;simp[plcT,cY]
 |u::ts,i+1,o,t,h=>by
  rw[gcS]at h;rw[plcT,gcS,aKm ts i _ t h,List.take_succ_cons,cY,Nat.add_assoc]
variable(hU:fV U)(hT:zD P U T)
include hU
def aI4(t:Ty):wks (zcT U t)=(enV U t (nD U t)).cells:=by
 cases t with
 |rc n=>exact hU.zc n
 |int k=>rfl
 |bool=>rfl
 |str=>rfl
 |sl t=>rfl
omit hU in
def zc1_noE(ts:List Ty): ∀c∈ts.flatMap zc1,∀z es,c≠ .sl z es:=by
 intro c hc z es e;rw[List.mem_flatMap]at hc;obtain⟨t,_,h⟩:=hc;cases t<;>simp[zc1,e]at h
def aI5(t:Ty):SR t (nD U t) (zcT U t):=⟨aI4 hU t,λj z hj=>(zc1_noE _ _ (List.mem_of_getElem? hj) z [] rfl).elim⟩
def aE5(t:Ty): ∀o b,(o,b)∈aAl U t->(zcT U t)[o]?=some .nil:=by
 intro o b h;cases t with
 |rc n=>
  have h1:=List.all_eq_true.1 (hU.nz n) _ h;unfold nilAt at h1;split at h1
  ·rename_i e;exact e
  ·cases h1
 |sl t=>
  simp only[aAl,List.mem_singleton,pjE]at h;rw[h.1];rfl
 |_=>cases h
def aE4: ∀(ts:List Ty),aIV U (wA U ts) (ts.map (zcT U))
 |[]=>trivial
 |t::ts=>⟨⟨aI5 hU t,λ_=>aE5 hU t⟩,aE4 ts⟩
omit hU in
def aE2: ∀(ts:List Ty),(wA U ts).map (λx=>x.1.t)=ts
 |[]=>rfl
 |t::ts=>by rw[wA,mpC,aE2 ts]
def aI3(n:Nat):((U.fs n).map (zcT U)).flatten=zcT U (.rc n):=by
 show _=(U.lt n).flatMap zc1;rw[hU.lt n];induction U.fs n with
 |nil=>rfl
 |cons t ts ih=>rw[mpC,List.flatten_cons,ih,fmC,List.flatMap_append];rfl
def pD: ∀{l:List (V U×Bool)} {ss:List (List PV)},aIV U l ss->∀i,((ss.take i).flatten).length=cY U ((l.map λx=>x.1.t).take i)
 |[],[],_,i=>by simp[cY]
 |y::l,s::ss,h,0=>by simp[cY]
 |y::l,s::ss,h,i+1=>by
  rw[List.take_succ_cons,List.flatten_cons,lnA,pD h.2 i,h.1.1.len hU,mpC,List.take_succ_cons];rfl
 |[],_::_,h,_=>h.elim
 |_::_,[],h,_=>h.elim
def aGA{S:TS U.D}{S':PS}(F:frR U c S S'){ts:List Ty}{place:Nat->Option (Nat×Nat)}(hp: ∀i t,ts[i]?=some t->place i=some (cY U (ts.take i),szT U t)):
    ∀(parts:List (Nat×Operand)) (l l':List (V U×Bool)) (ss:List (List PV)),aIV U l ss->l.map (λx=>x.1.t)=ts->bldT U S l parts=some l'->
      ∃ss',aAc place ss.flatten (parts.map λ(i,x)=>(i,pev S' x))=some ss'.flatten/\aIV U l' ss'/\l'.map (λx=>x.1.t)=ts
 |[],l,l',ss,hs,ht,h=>by
  simp only[bldT,ojE]at h;subst h;exact⟨ss,rfl,hs,ht⟩
 |(i,x)::rest,l,l',ss,hs,ht,h=>by
  unfold bldT at h;split at h
  ·rename_i y hy;split at h
   ·rename_i v hv;obtain⟨gn,kq⟩:=hY hU hv (bA F x).1;obtain⟨s,hsi,hsr⟩:=aFj hs hy;have hsr':=VR.sr kq;have hlen:s.length=(pev S' x).cells.length:=by rw[hsr.len hU,hsr'.len hU,gn]
    have hti:ts[i]?=some y.1.t:=by rw[<-ht,List.getElem?_map,hy];rfl
    have jn:(ss.take i).flatten.length=cY U (ts.take i):=by rw[pD hU hs,ht]
    have jh:aIV U (setF U l i (v,match(evT U S x).1 with| .nl=>true|_=>false)) (ss.set i (pev S' x).cells):=by
     refine aFi hs ⟨hsr',λhn o b ho=>?_⟩
     split at hn
     ·rename_i e;have h1:=(bA F x).1;rw[e]at h1 hv;have hp:pev S' x= .nil:=h1;simp only[asV]at hv;split at hv
      ·cases hv;simp only[aAl,List.mem_singleton,pjE]at ho;rw[hp,ho.1];rfl
      ·cases hv
     ·cases hn
    obtain⟨ss',g1,g2,g3⟩:=aGA F hp rest _ l' _ jh (by rw[wG hy gn];exact ht) h
    refine⟨ss',?_,g2,g3⟩;rw[mpC];simp only[aAc,hp i _ hti];have hle:cY U (ts.take i)+szT U y.1.t<=ss.flatten.length:=by
     have h1:=pD hU hs (i+1);have h2:(ss.take (i+1)).flatten.length<=ss.flatten.length:=by
      conv=>rhs;rw[<-List.take_append_drop (i+1) ss]
      rw[List.flatten_append,lnA];omega
     have h3:cY U (ts.take (i+1))=cY U (ts.take i)+szT U y.1.t:=by
      have bi:i<ts.length:=by
       rcases Nat.lt_or_ge i ts.length with h|h
       ·exact h
       ·rw[List.getElem?_eq_none h]at hti;cases hti
      rw[List.take_succ_eq_append_getElem bi,aBe];have:ts[i]=y.1.t:=by rw[geG bi]at hti;exact Option.some.inj hti
      rw[this];simp[cY]
     rw[ht]at h1;omega
    have c1:(Nat.beq (pev S' x).cells.length (szT U y.1.t)&&Nat.ble (cY U (ts.take i)+szT U y.1.t) ss.flatten.length&&(pev S' x).cells.all PV.one)=true:=by
     rw[hsr'.one hU,<-hlen,hsr.len hU,Nat.beq_refl,Bool.true_and,bnA,Nat.ble_eq];exact hle
    rw[c1,cdt,<-jn,aKf ss i s _ hsi hlen];exact g1
   ·cases h
  ·cases h
def seg_wk: ∀{l:List (V U×Bool)} {ss:List (List PV)},aIV U l ss->wks ss.flatten=qV (fstL l)/\zOK U ((l.map λx=>x.1.t).flatMap (fS U)) ss.flatten
 |[],[],_=>⟨rfl,zOK_nil _⟩
 |y::l,s::ss,h=>by
  obtain⟨h1,h2⟩:=seg_wk h.2;refine⟨?_,?_⟩
  ·rw[List.flatten_cons,kZ,h1,h.1.1.wk,fstL,eK]
  ·rw[List.flatten_cons,mpC,fmC];exact aHS (by rw[pP hU,h.1.1.len hU]) h.1.1.z h2
 |[],_::_,h=>h.elim
 |_::_,[],h=>h.elim
omit hU in
def memsh{o:Nat}: ∀{rs:Rts} {x:Nat×Bool},x∈shR o rs->∃j,x.1=j+o/\(j,x.2)∈rs
 |[],x,h=>by cases h
 |y::rs,x,h=>by
  unfold shR at h;rcases List.mem_cons.1 h with rfl|h
  ·exact⟨y.1,rfl,mhE ..⟩
  ·obtain⟨j,h1,h2⟩:=memsh h;exact⟨j,h1,mtE _ h2⟩
def aJA: ∀{l:List (V U×Bool)} {ss:List (List PV)} {o:Nat},aIV U l ss->∀i b,(i,b)∈nilF U l o->∃j,i=j+o/\ss.flatten[j]?=some .nil
 |[],[],o,_,i,b,h=>by cases h
 |y::l,s::ss,o,hs,i,b,h=>by
  unfold nilF at h;rcases List.mem_append.1 h with h1|h1
  ·split at h1
   ·rename_i hy;obtain⟨j,e1,e2⟩:=memsh h1;have:=hs.1.2 hy j b e2;have bi:j<s.length:=by
     rcases Nat.lt_or_ge j s.length with h2|h2
     ·exact h2
     ·rw[List.getElem?_eq_none h2]at this;cases this
    exact⟨j,e1,by rw[List.flatten_cons,List.getElem?_append_left bi];exact this⟩
   ·cases h1
  ·obtain⟨j,e1,e2⟩:=aJA hs.2 i b h1;refine⟨s.length+j,by rw[hs.1.1.len hU];omega,?_⟩
   rw[List.flatten_cons,List.getElem?_append_right (by omega),Nat.add_sub_cancel_left];exact e2
 |[],_::_,_,h,_,_,_=>h.elim
 |_::_,[],_,h,_,_,_=>h.elim
include hT
def build_ok{S:TS U.D}{S':PS}(F:frR U c S S'){t:TypeId}{n:Nat}{parts:List (Nat×Operand)}{l:List (V U×Bool)}{x:U.D n}(ht:T.T.ty t=some (.rc n))(hl:bldT U S (wA U (U.fs n)) parts=some l)(hx:U.of n (fstL l)=some x):
    ∃w,sO P t (parts.map λ(i,x)=>(i,pev S' x))=some w/\slR U c (.val ⟨.rc n,x⟩,nilF U l 0) (w,false):=by
 obtain⟨place,qq,hpb⟩: ∃place:Nat->Option (Nat×Nat),(∀i t',(U.fs n)[i]?=some t'->place i=some (cY U ((U.fs n).take i),szT U t'))/\∀ps,sO P t ps=(aAc place (zcT U (.rc n)) ps).map .agg:=by
  cases so:T.T.arr t with
  |false=>
   obtain⟨fs,pl,hu,dd,hpp⟩:=hT.bd t n ht so;refine⟨λi=>pl[i]?,λi t' hi=>?_,λps=>by simp only[sO,hT.zc t _ ht,hu,dd]⟩
   have:=aKm (U:=U) (U.fs n) i 0 t' hi;rw[<-hpp,Array.getElem?_toList,Nat.zero_add]at this;exact this
  |true=>
   obtain⟨len,e,te,hu,hz,hf⟩:=hT.arr t n ht so;refine⟨λi=>some (i*szT U te,szT U te),λi t' hi=>?_,λps=>by simp only[sO,hT.zc t _ ht,hu,hz]⟩
   rw[hf,List.getElem?_replicate]at hi;split at hi
   ·rename_i hi2;obtain rfl:=Option.some.inj hi;rw[hf,List.take_replicate,Nat.min_eq_left (by omega),pC]
   ·cases hi
 obtain⟨ss',g1,g2,g3⟩:=aGA hU F qq parts _ _ _ (aE4 hU (U.fs n)) (aE2 _) hl;rw[aI3 hU n]at g1;obtain⟨g4,g5⟩:=seg_wk hU g2;have py:=hU.un_of n _ x hx;refine⟨.agg ss'.flatten,?_,⟨?_,?_⟩,?_⟩
 ·rw[hpb,g1,omS]
 ·show PV.agg (wks ss'.flatten)= .agg (U.en n x);rw[g4,hU.en n x,py];rfl
 ·show zOK U (U.lt n) ss'.flatten;rw[hU.lt n,<-g3];exact g5
 ·intro i b hi;obtain⟨j,e1,e2⟩:=aJA hU g2 i b hi;exact .inl ⟨rfl,by rw[e1];exact e2⟩
omit hT hU in
def aI7{c:PV}(h:gd (wk c)=true):c.pur=true:=by
 cases c with
 |agg cs=>simp[wk,gd]at h
 |tup cs=>simp[wk,gd]at h
 |und=>simp[wk,gd]at h
 |_=>first|rfl|simp[wk,gd]at h
omit hT in
def nH{t:Ty}{x:Den U.D t}{p:PV}(h:VR U t x p):PI.shape (oY t) (szT U t) p=true:=by
 have hs:=VR.sr h;have hp: ∀c∈p.cells,c.pur=true:=λc hc=>aI7 (hs.gd hU hc)
 cases hr:oY t with
 |true=>
  cases t with
  |rc n=>
   obtain⟨cs,rfl,_⟩:=aKD h;simp only[PI.shape,Bool.true_and,bjE,cG,djE,List.all_eq_true];exact⟨hs.len hU,hp⟩
  |_=>cases hr
 |false=>
  have ha:isAgg p=false:=iY (v:=⟨t,x⟩) h hr;have hc:p.cells=[p]:=jM λds e=>by rw[e]at ha;cases ha
  have hz:szT U t=1:=by cases t<;>first|rfl|cases hr
  have:=hp p (by rw[hc];exact List.mem_singleton.2 rfl)
  rw[hz];cases p<;>first|(cases ha;done)|simpa [PI.shape]using this
omit hU hT in
def aFh{N:Type}: ∀(l:List N) (i:Nat) (x:N),setE l i x=l.set i x
 |[],_,_=>by cases ‹Nat› <;>rfl
 |y::l,0,x=>rfl
 |y::l,i+1,x=>by rw[setE,aFh l i x];rfl
omit hT in
def bsl_ok{S:TS U.D}{S':PS}(F:frR U c S S'){e:Ty}: ∀(parts:List (Nat×Operand)) (l l':List (Den U.D e)),bslT U S e l parts=some l'->
    jA (oY e) (szT U e) (l.map (enV U e)) (parts.map λ(i,x)=>(i,pev S' x))=some (l'.map (enV U e))
 |[],l,l',h=>by simp only[bslT,ojE]at h;subst h;rfl
 |(i,x)::rest,l,l',h=>by
  unfold bslT at h;split at h
  ·rename_i v hv;split at h
   ·rename_i w hw;cases hb:Nat.blt i l.length with
    |false=>rw[hb]at h;cases h
    |true=>
     rw[hb]at h;obtain⟨gn,kq⟩:=hY hU hv (bA F x).1;have e1:=kT hw;have hvr':VR U e w (pev S' x):=by
      have:VR U (⟨v.t,v.x⟩:TV U.D).t (⟨v.t,v.x⟩:TV U.D).x (pev S' x):=kq;rw[e1]at this;exact this
     have g:=bsl_ok F rest _ _ h;rw[mpC];simp only[jA,List.length_map,hb,nH hU hvr',Bool.and_self,cdt];rw[hvr'.wk,<-List.map_set,<-aFh];exact g
   ·cases h
  ·cases h
omit hU hT in
def aFq{N:Type}(f:N->PV)(x:N)(y:PV)(h:y=f x): ∀n,jS y n=(aCX x n).map f
 |0=>rfl
 |n+1=>by rw[jS,aCX,mpC,aFq f x y h n,h]
def aAN{S:TS U.D}{S':PS}(F:frR U c S S'){p:PSt}{o:Oper}{t:TypeId}{e:Ty}{len:Nat}{parts:Array (Nat×Operand)}{l:List (Den U.D e)}(ho:o.op= .buildSlice t len parts)(ht:T.T.ty t=some (.sl e))(hb:Nat.ble (len*szT U e) 1000000=true)(hl:bslT U S e (aCX (nD U e) len) parts.toList=some l):
    ∃w,dB P p S' o=some (w,true,p)/\slR U c (.val ⟨.sl e,l⟩,[(0,true)]) (w,true):=by
 obtain⟨fb,hu,gp,_⟩:=hT.un t _ ht;refine⟨dN (szT U e) (l.map (enV U e)),?_,aCD _ _ rfl rfl,?_⟩
 ·have nc:(zcT U e).length=szT U e:=(aI5 hU e).len hU;have c1:(Nat.ble (len*szT U e) 1000000&&Nat.beq (zcT U e).length (szT U e)&&Nat.ble 1 (szT U e)&&(oY e||Nat.beq (szT U e) 1))=true:=by
   rw[hb,nc,Nat.beq_refl];have h1:Nat.ble 1 (szT U e)=true:=by rw[Nat.ble_eq];exact lQ hU e
   rw[h1];cases e<;>rfl
  have hz:wk (bif oY e then .agg (zcT U e)else(zcT U e).headD .und)=enV U e (nD U e):=by
   have:=aI4 hU e;cases e with
   |rc n=>simp only[oY,cdt,wk,this];rfl
   |_=>rfl
  have hg:=bsl_ok hU F parts.toList _ _ hl;rw[<-aFq (enV U e) (nD U e) _ hz]at hg;simp only[dB,ho,hu,hT.sz _ _ gp,hT.ag _ _ gp,hT.zc _ _ gp,c1,cdt,hg]
 ·intro i s hi;simp only[List.mem_singleton,pjE]at hi;refine .inr ⟨hi.1,?_,rfl,λ_=>xI (cI _ _)⟩
  have:=cI (szT U e) (l.map (enV U e));cases hc:dN (szT U e) (l.map (enV U e))<;>first|rfl|(rw[hc]at this;cases this)
end
end Go.TV
