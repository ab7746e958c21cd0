import Derived.Test.YtdjaoblfbbcpdaaGreatDoorKb
import Derived.Deep.Upon
set_option linter.unusedVariables false
set_option linter.unusedSimpArgs false
set_option linter.constructorNameAsVariable false
set_option linter.defProp false
namespace Go.AI
def Tr.get_nil{N:Type}(n:Nat):(Tr.nil:Tr N).get n=none:=rfl
def cR(a b:Nat):Nat.beq a b=decide (a=b):=by
 cases h:Nat.beq a b with
 |true=>simp[aE h]
 |false=>simp[Nat.ne_of_beq_eq_false h]
def BF(a b:Nat):Nat.ble a b=decide (a<=b):=by
 cases h:Nat.ble a b with
 |true=>simp[bK h]
 |false=>symm;rw[bC];intro hl;rw[Nat.ble_eq_true_of_le hl]at h;cases h
def gW(a b:Nat):Nat.blt a b=decide (a<b):=by
 simp[Nat.blt,BF,Nat.succ_le_iff]
def Tr.get_node{N:Type}(v:Option N)(l r:Tr N)(n:Nat):(Tr.node v l r).get n=if n=0 then v else if n%2=1 then l.get (n/2)else r.get (n/2-1):=by
 simp only[Tr.get,cR,Bool.cond_decide]
def Tr.get_setF{N:Type}: ∀(f:Nat) (t:Tr N) (n m:Nat) (x:N),n<f->(Tr.setF f t n x).get m=if m=n then some x else t.get m:=by
 intro f;induction f with
 |zero=>intro t n m x h;omega
 |succ f ih=>
  intro t n m x h;cases t with
  |nil=>
   simp only[Tr.setF,cR,Bool.cond_decide];split
   .rename_i hn;subst hn;simp only[Tr.get_node,Tr.get_nil];split<;>simp
   .split
    .simp only[Tr.get_node,Tr.get_nil];split
     .rw[bH (by omega)]
     .split
      .rw[ih _ _ _ _ (by omega),Tr.get_nil]
       by_cases e:m=n
       .subst e;simp
       .rw[bH e,bH (by omega)]
      .rw[bH (by omega)]
    .simp only[Tr.get_node,Tr.get_nil];split
     .rw[bH (by omega)]
     .split
      .rw[bH (by omega)]
      .rw[ih _ _ _ _ (by omega),Tr.get_nil]
       by_cases e:m=n
       .subst e;simp
       .rw[bH e,bH (by omega)]
  |node v l r=>
   simp only[Tr.setF,cR,Bool.cond_decide];split
   .rename_i hn;subst hn;simp only[Tr.get_node];split<;>simp_all
   .split
    .simp only[Tr.get_node];split
     .rw[bH (by omega)]
     .split
      .rw[ih _ _ _ _ (by omega)]
       by_cases e:m=n
       .subst e;simp
       .rw[bH e,bH (by omega)]
      .rw[bH (by omega)]
    .simp only[Tr.get_node];split
     .rw[bH (by omega)]
     .split
      .rw[bH (by omega)]
      .rw[ih _ _ _ _ (by omega)]
       by_cases e:m=n
       .subst e;simp
       .rw[bH e,bH (by omega)]
def Tr.get_set{N:Type}(t:Tr N)(n m:Nat)(x:N):(t.set n x).get m=if m=n then some x else t.get m:=
 Tr.get_setF _ _ _ _ _ (Nat.lt_succ_self n)
def iN{N:Type}{P:Program}{s:Sem N}{a:N}(h:cI P s=some a)(w:World):s.run P w= .ok a w:=by
 induction s with
 |pure b=>simp only[cI,aA]at h;subst h;rfl
 |program k ih=>simp only[cI]at h;exact ih _ h
 |mark m k ih=>simp only[cI]at h;exact ih h
 |_=>simp[cI]at h
def bL{N W:Type}{P:Program}(s:Sem N)(k:N->Sem W):cI P (s>>=k)=(cI P s).bind λa=>cI P (k a):=by
 induction s with
 |pure b=>rfl
 |program k ih=>exact ih _
 |mark m k ih=>exact ih
 |_=>rfl
def bQ{N:Type}{P:Program}(a:N):cI P (pure a:Sem N)=some a:=rfl
structure Place where
 b:Nat
 o:Nat
 e:Nat
 z:Nat
abbrev Mp:=Nat->Option Place
inductive VR(Y:Mp):Value->Value->Prop where
 |same (v:Value) (h:bN v=true):VR Y v v
 |ptr (id off:Nat) (p:Place) (h:Y id=some p):VR Y (.pointer (some ⟨id,off,none⟩)) (.pointer (some ⟨p.b,p.o+off,none⟩))
 |slc (id off len c cap:Nat) (p:Place) (h:Y id=some p) (hc:c=len->cap=len) (hl:len<=cap) (he:p.o+off+cap*p.z<=p.e∨p.z=0):
      VR Y (.slice (some ⟨id,off,none⟩) len c) (.slice (some ⟨p.b,p.o+off,none⟩) len cap)
 |emp (a:Addr) (s cap:Nat) (h:s=1->cap=0):VR Y (.slice (some ⟨0,0,some s⟩) 0 0) (.slice (some a) 0 cap)
 |mp (id:Nat) (p:Place) (h:Y id=some p):VR Y (.map (some id)) (.map (some p.b))
 |fn (f:Fn) (xs ys us vs:Array Value) (hl:xs.toList.length=us.toList.length) (h: ∀(i:Nat) (x u:Value),xs.toList[i]?=some x->us.toList[i]?=some u->VR Y x u)
      (fa:ys.toList.length=vs.toList.length) (h': ∀(i:Nat) (x u:Value),ys.toList[i]?=some x->vs.toList[i]?=some u->VR Y x u):VR Y (.func f xs ys) (.func f us vs)
 |iface (t:TypeId) (x u:Value) (h:VR Y x u):VR Y (.iface t x) (.iface t u)
 |agg (xs us:Array Value) (hl:xs.toList.length=us.toList.length) (h: ∀(i:Nat) (x u:Value),xs.toList[i]?=some x->us.toList[i]?=some u->VR Y x u):VR Y (.agg xs) (.agg us)
 |tuple (xs us:Array Value) (hl:xs.toList.length=us.toList.length) (h: ∀(i:Nat) (x u:Value),xs.toList[i]?=some x->us.toList[i]?=some u->VR Y x u):VR Y (.tuple xs) (.tuple us)
def VRL(Y:Mp)(xs us:List Value):Prop:=xs.length=us.length/\∀(i:Nat) (x u:Value),xs[i]?=some x->us[i]?=some u->VR Y x u
def Ext(n:Nat)(Y Y':Mp):Prop:=(∀id p,Y id=some p->Y' id=some p)/\∀id,id<n->Y' id=Y id
def Ext.refl(n:Nat)(Y:Mp):Ext n Y Y:=⟨λ_ _ h=>h,λ_ _=>rfl⟩
def Ext.trans{n n':Nat}{Y Y' Y'':Mp}(h:Ext n Y Y')(h':Ext n' Y' Y'')(hn:n<=n'):Ext n Y Y'':=
 ⟨λid p e=>h'.1 id p (h.1 id p e),λid hi=>(h'.2 id (by omega)).trans (h.2 id hi)⟩
def Ext.mono{n n':Nat}{Y Y':Mp}(h:Ext n Y Y')(hn:n'<=n):Ext n' Y Y':=⟨h.1,λid hi=>h.2 id (by omega)⟩
def VR.mono'{Y Y':Mp}(h: ∀id p,Y id=some p->Y' id=some p){v u:Value}(r:VR Y v u):VR Y' v u:=by
 induction r with
 |same v hv=>exact .same v hv
 |ptr id off p hp=>exact .ptr id off p (h _ _ hp)
 |slc id off len c cap p hp hc hl he=>exact .slc id off len c cap p (h _ _ hp) hc hl he
 |emp a s cap h=>exact .emp a s cap h
 |mp id p hp=>exact .mp id p (h _ _ hp)
 |fn f xs ys us vs hl _ fa _ ih wj=>exact .fn f xs ys us vs hl ih fa wj
 |iface t x u _ ih=>exact .iface t x u ih
 |agg xs us hl _ ih=>exact .agg xs us hl ih
 |tuple xs us hl _ ih=>exact .tuple xs us hl ih
def VRL.mono'{Y Y':Mp}(h: ∀id p,Y id=some p->Y' id=some p){xs us:List Value}(r:VRL Y xs us):VRL Y' xs us:=
 ⟨r.1,λi x u hx hu=>(r.2 i x u hx hu).mono' h⟩
def VR.mono{n:Nat}{Y Y':Mp}(h:Ext n Y Y'){v u:Value}(r:VR Y v u):VR Y' v u:=r.mono' h.1
def VRL.mono{n:Nat}{Y Y':Mp}(h:Ext n Y Y'){xs us:List Value}(r:VRL Y xs us):VRL Y' xs us:=r.mono' h.1
section
variable{Y:Mp}
def VR.eq0{v u:Value}(r:VR Y v u)(h:bN v=true):u=v:=by
 cases r<;>first|rfl|simp[bN]at h
def VRL.nil:VRL Y [] []:=⟨rfl,λi x u h=>by simp at h⟩
def VRL.cons{x u:Value}{xs us:List Value}(h:VR Y x u)(r:VRL Y xs us):VRL Y (x::xs) (u::us):=by
 refine⟨by simp[r.1],λi y v hy hv=>?_⟩
 cases i with
 |zero=>simp at hy hv;subst hy;subst hv;exact h
 |succ i=>simp at hy hv;exact r.2 i y v hy hv
def VRL.cons_inv{x:Value}{xs us:List Value}(r:VRL Y (x::xs) us): ∃u vs,us=u::vs/\VR Y x u/\VRL Y xs vs:=by
 cases us with
 |nil=>have:=r.1;simp at this
 |cons u vs=>exact⟨u,vs,rfl,r.2 0 x u (by simp) (by simp),by simpa using r.1,λi y v hy hv=>r.2 (i+1) y v (by simpa using hy) (by simpa using hv)⟩
def VRL.nil_inv{us:List Value}(r:VRL Y [] us):us=[]:=by
 have:=r.1;simpa using this.symm
def VRL.get{xs us:List Value}(r:VRL Y xs us){i:Nat}{x:Value}(h:xs[i]?=some x): ∃u,us[i]?=some u/\VR Y x u:=by
 have hi:i<xs.length:=by
  rcases Nat.lt_or_ge i xs.length with h'|h'
  .exact h'
  .simp[List.getElem?_eq_none h']at h
 have:us[i]?=some (us[i]'(r.1▸hi)):=aV _;exact⟨_,this,r.2 i x _ h this⟩
def VRL.append{xs us ys vs:List Value}(r:VRL Y xs us)(s:VRL Y ys vs):VRL Y (xs++ys) (us++vs):=by
 induction xs generalizing us with
 |nil=>rw[r.nil_inv];exact s
 |cons x xs ih=>obtain⟨u,jo,rfl,h,r'⟩:=r.cons_inv;exact .cons h (ih r')
def VRL.eq0{xs us:List Value}(r:VRL Y xs us)(h:xs.all bN=true):us=xs:=by
 induction xs generalizing us with
 |nil=>exact r.nil_inv
 |cons x xs ih=>
  obtain⟨u,jo,rfl,hx,r'⟩:=r.cons_inv;simp only[aP,aC]at h;rw[hx.eq0 h.1,ih r' h.2]
def VRL.same{xs:List Value}(h:xs.all bN=true):VRL Y xs xs:=by
 induction xs with
 |nil=>exact .nil
 |cons x xs ih=>
  simp only[aP,aC]at h;exact .cons (.same x h.1) (ih h.2)
def VR.agg_inv{xs:Array Value}{u:Value}(r:VR Y (.agg xs) u): ∃us,u= .agg us/\VRL Y xs.toList us.toList:=by
 cases r with
 |same _ h=>simp[bN]at h
 |agg _ us hl h=>exact⟨us,rfl,hl,h⟩
def VR.tuple_inv{xs:Array Value}{u:Value}(r:VR Y (.tuple xs) u): ∃us,u= .tuple us/\VRL Y xs.toList us.toList:=by
 cases r with
 |same _ h=>simp[bN]at h
 |tuple _ us hl h=>exact⟨us,rfl,hl,h⟩
def VR.mkAgg{xs us:List Value}(r:VRL Y xs us):VR Y (.agg xs.toArray) (.agg us.toArray):= .agg _ _ (by simpa using r.1) (by simpa using r.2)
def VR.mkAgg'{xs us:Array Value}(r:VRL Y xs.toList us.toList):VR Y (.agg xs) (.agg us):= .agg _ _ r.1 r.2
def VR.mkTuple{xs us:List Value}(r:VRL Y xs us):VR Y (.tuple xs.toArray) (.tuple us.toArray):= .tuple _ _ (by simpa using r.1) (by simpa using r.2)
def VR.eq1{v u:Value}(r:VR Y v u)(h:cK v=true):u=v:=by
 cases v with
 |agg cs=>
  obtain⟨us,rfl,hl⟩:=r.agg_inv;have:=hl.eq0 (by simpa [cK]using h)
  rw[Array.toList_inj.1 this]
 |_=>exact r.eq0 (by simpa [cK]using h)
def VR.same1{v:Value}(h:cK v=true):VR Y v v:=by
 cases v with
 |agg cs=>exact .mkAgg' (.same (by simpa [cK]using h))
 |_=>exact .same _ (by simpa [cK]using h)
def VR.undef:VR Y Go.undef Go.undef:= .tuple _ _ rfl (λi x u h=>by simp at h)
def VR.cells{v u:Value}(r:VR Y v u):VRL Y v.cells.toList u.cells.toList:=by
 cases r with
 |same v h=>
  have hc:v.cells= #[v]:=by cases v<;>first|rfl|simp[bN]at h
  rw[hc];exact .same (by simpa using h)
 |agg xs us hl h=>exact⟨hl,h⟩
 |ptr id off p h=>exact .cons (.ptr id off p h) .nil
 |slc id off len c cap p h hc hl he=>exact .cons (.slc id off len c cap p h hc hl he) .nil
 |emp a s cap h=>exact .cons (.emp a s cap h) .nil
 |mp id p h=>exact .cons (.mp id p h) .nil
 |fn f xs ys us vs hl h fa h'=>exact .cons (.fn f xs ys us vs hl h fa h') .nil
 |iface t x u h=>exact .cons (.iface t x u h) .nil
 |tuple xs us hl h=>exact .cons (.tuple xs us hl h) .nil
def VR.one_eq{v u:Value}(r:VR Y v u):one u=one v:=by
 cases r<;>rfl
def VRL.one_eq{xs us:List Value}(r:VRL Y xs us):us.all one=xs.all one:=by
 induction xs generalizing us with
 |nil=>rw[r.nil_inv]
 |cons x xs ih=>obtain⟨u,jo,rfl,h,r'⟩:=r.cons_inv;simp[h.one_eq,ih r']
def VRL.drop{xs us:List Value}(r:VRL Y xs us)(n:Nat):VRL Y (xs.drop n) (us.drop n):=
 ⟨by simp[r.1],λi x u hx hu=>r.2 (n+i) x u (by simpa using hx) (by simpa using hu)⟩
def VRL.take{xs us:List Value}(r:VRL Y xs us)(n:Nat):VRL Y (xs.take n) (us.take n):=by
 refine⟨by simp[r.1],λi x u hx hu=>?_⟩
 rw[List.getElem?_take]at hx hu;split at hx
 .rename_i hi;rw[bI hi]at hu;exact r.2 i x u hx hu
 .cases hx
def VRL.set{xs us:List Value}(r:VRL Y xs us){x u:Value}(h:VR Y x u)(n:Nat):VRL Y (xs.set n x) (us.set n u):=by
 refine⟨by simp[r.1],λi y v hy hv=>?_⟩
 rw[List.getElem?_set]at hy hv;split at hy
 .rename_i e;rw[bI e]at hv;split at hy
  .split at hv
   .simp at hy hv;subst hy;subst hv;exact h
   .cases hv
  .cases hy
 .rename_i e;rw[bH e]at hv;exact r.2 i y v hy hv
def VRL.toArray_cells{xs us:List Value}(r:VRL Y xs us):VRL Y xs.toArray.toList us.toArray.toList:=by simpa using r
end
def Off(p:Place)(lo hi:Nat)(q:Place)(mq kq:Nat):Prop:=p.b=q.b->∀x,lo<=x->x<hi->mq<=x->x<kq->False
structure W0 extends World where
 O:Nat->Option Obj
def W0.of(w:World):W0:={toWorld:=w,O:=λ_=>none}
instance:Coe W0 World:=⟨W0.toWorld⟩
instance:Coe World W0:=⟨W0.of⟩
structure RowAt(w0:W0)(Y:Mp)(w:World)(p:Place)(cs:List Value)(m:pM):Prop where
 row: ∃C t fr,w.heap[p.b]?=some (.cells C t fr)/\(∀(i:Nat) (v:Value),cs[i]?=some v->∃u,C[p.o+i]?=some u/\VR Y v u)/\(m.tip=true->p.e<=C.size)
 wr:m.wr=true->w0.heap.size<=p.b
 tip:m.tip=true->p.o+cs.length<=p.e
 z:p.z=m.z
 fz:m.wr=true->∀C t fr,w.heap[p.b]?=some (.cells C t fr)->fr=(0,0)
structure MapAt(w0:W0)(Y:Mp)(w:World)(p:Place)(es:List (Value×Value)):Prop where
 map: ∃ES clock,w.heap[p.b]?=some (.map ES clock)/\VRL Y (es.map (·.1)) (ES.toList.map (·.key))/\VRL Y (es.map (·.2)) (ES.toList.map (·.val))
 wr:w0.heap.size<=p.b
def jP(m n:pM):Prop:= ∃g v v',m.grp=some (g,v)/\n.grp=some (g,v')
structure Kept(w0 w:World):Prop where
 os:w.os=w0.os
 output:w.output=w0.output
 size:w0.heap.size<=w.heap.size
 old: ∀k,k<w0.heap.size->w.heap[k]?=w0.heap[k]?
def Kept.frozen{w0 w:World}(h:Kept w0 w){a:Addr}(ha:a.block<w0.heap.size):w.frozen? a=w0.frozen? a:=by
 simp only[World.frozen?,h.old _ ha]
def Kept.keptBut{w0 w:World}(h:Kept w0 w):w0.keptBut w (λ_=>False):=by
 refine⟨h.os,h.output,λi hi=>?_⟩
 rw[h.old i hi];cases w0.heap[i]? with
 |none=>trivial
 |some o=>cases o<;>first|exact⟨rfl,rfl,rfl,λ_ _=>rfl⟩|exact .inr ⟨rfl,rfl⟩|rfl
def Kept.refl(w:World):Kept w w:=⟨rfl,rfl,aS _,λ_ _=>rfl⟩
structure KeptO(w0:W0)(Y:Mp)(w:World):Prop extends Kept w0.toWorld w where
 oth: ∀k o,w0.O k=some o->w.heap[k]?=some o/\∀id p,Y id=some p->p.b≠k
 bnd: ∀id p,Y id=some p->p.b<w.heap.size
def KeptO.refl{Y:Mp}{w:World}(h: ∀id p,Y id=some p->p.b<w.heap.size):KeptO (W0.of w) Y w:=⟨Kept.refl w,(λk o h=>(by cases h)),h⟩
structure Sim(w0:W0)(P:Program)(Y:Mp)(H:St)(w:World):Prop where
 kept:KeptO w0 Y w
 dom: ∀id,H.next<=id->Y id=none
 glob: ∀g,g<P.globals.size->∃p,Y g=some p/\p.b=g/\p.o=0
 row: ∀id p cs m,Y id=some p->H.get id=some (.cells cs m)->H.good m=true->RowAt w0 Y w p cs m
 map: ∀id p es,Y id=some p->H.get id=some (.map es)->MapAt w0 Y w p es
 off: ∀i j p q cs ds m n,i≠j->Y i=some p->Y j=some q->H.get i=some (.cells cs m)->H.get j=some (.cells ds n)->H.good m=true->H.good n=true->
  m.wr=true->¬jP m n->Off p p.o (p.o+cs.length) q q.o (q.o+ds.length)
 tip: ∀i j p q cs ds m n,i≠j->Y i=some p->Y j=some q->H.get i=some (.cells cs m)->H.get j=some (.cells ds n)->H.good m=true->H.good n=true->
  m.tip=true->Off p (p.o+cs.length) p.e q q.o (q.o+ds.length)/\(n.tip=true->Off p (p.o+cs.length) p.e q (q.o+ds.length) q.e)
 maps: ∀i j p q es fs,i≠j->Y i=some p->Y j=some q->H.get i=some (.map es)->H.get j=some (.map fs)->p.b≠q.b
 vers: ∀id cs m g v,H.get id=some (.cells cs m)->m.grp=some (g,v)->v<=H.ver g
 lim: ∀i j p q cs ds m n,i≠j->Y i=some p->Y j=some q->H.get i=some (.cells cs m)->H.get j=some (.cells ds n)->H.good m=true->H.good n=true->
  m.tip=true->Off p (p.o+m.lim) (p.o+cs.length) q q.o (q.o+ds.length)
def Off.symm{p q:Place}{a b c d:Nat}(h:Off p a b q c d):Off q c d p a b:=λe x h1 h2 h3 h4=>h e.symm x h3 h4 h1 h2
def St.get_put(H:St)(id k:Nat)(o:AObj):(H.put id o).get k=if k=id then some o else H.get k:=Tr.get_set _ _ _ _
def St.get_bump(H:St)(g v k:Nat):(H.bump g v).get k=H.get k:=rfl
def St.ver_bump(H:St)(g v k:Nat):(H.bump g v).ver k=if k=g then v else H.ver k:=by
 simp only[St.ver,St.bump,Tr.get_set];split<;>rfl
def St.good_iff(H:St)(m:pM):H.good m=true↔∀g v,m.grp=some (g,v)->H.ver g=v:=by
 unfold St.good;cases hm:m.grp with
 |none=>simp
 |some x=>obtain⟨g,v⟩:=x;simp[cR]
def St.row_some{H:St}{id:Nat}{cs:List Value}{m:pM}(h:H.row id=some (cs,m)):H.get id=some (.cells cs m)/\H.good m=true:=by
 unfold St.row at h;split at h
 .rename_i de m' hg;cases hb:H.good m' with
  |true=>simp only[hb,aI,aA,aB]at h;obtain⟨rfl,rfl⟩:=h;exact⟨hg,hb⟩
  |false=>simp[hb]at h
 .cases h
end Go.AI
namespace Go.PI
open Go.AI
abbrev Nu:=Nat->Option (Option Nat)
inductive K where
 |slot (t:Nat)
 |cell (id off:Nat)
 |out
 |hand
 |arg (i:Nat)
 deriving DecidableEq
abbrev Ga:=Nat->Option K
def eY(es:List PV):List PV:=es.flatMap PV.cells
def Fz(J:Nu)(H:St)(id:Nat)(cs:List Value)(m:pM):Prop:=H.row id=some (cs,m)/\∀k,J k≠some (some id)
inductive R(J:Nu)(H:St):PV->Value->Prop where
 |und (u:Value):R J H .und u
 |v (x:Value) (h:bN x=true):R J H (.v x) x
 |str (s:ByteArray):R J H (.str s.data.toList) (.string s)
 |agg (xs:List PV) (us:Array Value) (hl:xs.length=us.toList.length) (h: ∀(i:Nat) (x:PV) (u:Value),xs[i]?=some x->us.toList[i]?=some u->R J H x u):R J H (.agg xs) (.agg us)
 |tup (xs:List PV) (us:Array Value) (hl:xs.length=us.toList.length) (h: ∀(i:Nat) (x:PV) (u:Value),xs[i]?=some x->us.toList[i]?=some u->R J H x u):R J H (.tup xs) (.tuple us)
 |nil:R J H .nil (.slice none 0 0)
 |emp0:R J H .emp (.slice none 0 0)
 |emp1 (id off c:Nat) (rcs:List Value) (m:pM) (hr:Fz J H id rcs m):R J H .emp (.slice (some ⟨id,off,none⟩) 0 c)
 |emp2 (b o s c:Nat):R J H .emp (.slice (some ⟨b,o,some s⟩) 0 c)
 |sl (z:Nat) (es:List PV) (id off c:Nat) (rcs:List Value) (m:pM) (hz:1<=z) (hs: ∀e∈es,e.cells.length=z/\e.cells.all PV.pur=true) (hr:Fz J H id rcs m) (hm:m.z=z)
      (hb:off+es.length*z<=rcs.length) (h: ∀(i:Nat) (x:PV) (u:Value),(eY es)[i]?=some x->rcs[off+i]?=some u->R J H x u):
      R J H (.sl z es) (.slice (some ⟨id,off,none⟩) es.length c)
 |pin (z:Nat) (es:List PV) (i off id base:Nat) (rcs:List Value) (m:pM) (hs: ∀e∈es,e.cells.length=z/\e.cells.all PV.pur=true) (hr:Fz J H id rcs m)
      (hb:base+es.length*z<=rcs.length) (h: ∀(i:Nat) (x:PV) (u:Value),(eY es)[i]?=some x->rcs[base+i]?=some u->R J H x u):
      R J H (.pin es i off) (.pointer (some ⟨id,base+i*z+off,none⟩))
 |ptr (id off a:Nat) (h:J id=some (some a)):R J H (.ptr id off) (.pointer (some ⟨a,off,none⟩))
 |ptr0 (id off a:Nat) (h:J id=some none):R J H (.ptr id off) (.pointer (some ⟨a,off,none⟩))
 |rs (id off len c a:Nat) (h:J id=some (some a)):R J H (.rs id off len) (.slice (some ⟨a,off,none⟩) len c)
 |rs0 (id off len c a:Nat) (h:J id=some none):R J H (.rs id off len) (.slice (some ⟨a,off,none⟩) len c)
 |fn (f:Nat) (xs ys:List PV) (us vs:Array Value) (hl:xs.length=us.toList.length) (h: ∀(i:Nat) (x:PV) (u:Value),xs[i]?=some x->us.toList[i]?=some u->R J H x u)
      (fa:ys.length=vs.toList.length) (h': ∀(i:Nat) (x:PV) (u:Value),ys[i]?=some x->vs.toList[i]?=some u->R J H x u):R J H (.fn f xs ys) (.func (.func f) us vs)
def RL(J:Nu)(H:St)(xs:List PV)(us:List Value):Prop:=xs.length=us.length/\∀(i:Nat) (x:PV) (u:Value),xs[i]?=some x->us[i]?=some u->R J H x u
inductive Ow(J:Nu)(I:Ga)(H:St)(k:K):PV->Value->Prop where
 |nil (x:PV):Ow J I H k x (.slice none 0 0)
 |exact(x:PV) (id off len:Nat) (rcs:List Value) (m:pM) (hr:Fz J H id rcs m):Ow J I H k x (.slice (some ⟨id,off,none⟩) len len)
 |zer (x:PV) (b o:Nat):Ow J I H k x (.slice (some ⟨b,o,some 1⟩) 0 0)
 |tip (z:Nat) (es:List PV) (id off c:Nat) (rcs:List Value) (m:pM) (hr:Fz J H id rcs m) (ht:m.tip=true) (hw:m.wr=true) (hg:m.grp.isSome=true)
      (hb:off+es.length*m.z=rcs.length) (hk:I id=some k):Ow J I H k (.sl z es) (.slice (some ⟨id,off,none⟩) es.length c)
 |tup (x:PV) (xs:List PV) (u:Value) (us:List Value) (hx:x.one=true) (h:Ow J I H k x u):Ow J I H k (.tup (x::xs)) (.tuple ⟨u::us⟩)
structure Keep(J:Nu)(I:Ga)(H H':St):Prop where
 vers:H'.vers=H.vers
 next:H.next<=H'.next
 dom: ∀a,H'.get a=none->H.get a=none
 row: ∀a,(∀k,J k≠some (some a))->∀cs m,H.get a=some (.cells cs m)->∃b,H'.get a=some (.cells cs {m with tip:=b})/\(m.tip=false->b=false)/\(I a=some .out->b=m.tip)
def Mon(H:St)(J J':Nu):Prop:=(∀id x,J id=some x->J' id=some x∨J' id=some none)/\(∀id a,J' id=some (some a)->J id=some (some a)∨H.get a=none)
def Mon.refl(H:St)(J:Nu):Mon H J J:=⟨λ_ _ h=> .inl h,λ_ _ h=> .inl h⟩
def Mon.trans{H H':St}{J J' J'':Nu}(h:Mon H J J')(h':Mon H' J' J'')(hd: ∀a,H'.get a=none->H.get a=none):Mon H J J'':=by
 refine⟨λid x e=>?_,λid a e=>?_⟩
 .rcases h.1 id x e with h1|h1
  .exact h'.1 id x h1
  .rcases h'.1 id none h1 with h2|h2<;>exact .inr h2
 .rcases h'.2 id a e with h1|h1
  .rcases h.2 id a h1 with h2|h2
   .exact .inl h2
   .exact .inr h2
  .exact .inr (hd a h1)
def oN{H H':St}(h:H'.vers=H.vers)(m:pM):H'.good m=H.good m:=by
 simp only[St.good,St.ver,h]
def row_of_get{H:St}{id:Nat}{cs:List Value}{m:pM}(h:H.get id=some (.cells cs m))(hg:H.good m=true):H.row id=some (cs,m):=by
 simp only[St.row,h,hg,aI]
def eO{H:St}{id:Nat}{cs:List Value}{m:pM}(h:H.row id=some (cs,m)):H.get id=some (.cells cs m)/\H.good m=true:=by
 unfold St.row at h;split at h
 .rename_i de m' e;cases hg:H.good m' with
  |true=>rw[hg,aI]at h;simp only[aA,aB]at h;obtain⟨rfl,rfl⟩:=h;exact⟨e,hg⟩
  |false=>rw[hg,aJ]at h;cases h
 .cases h
def Keep.refl(J:Nu)(I:Ga)(H:St):Keep J I H H:=⟨rfl,aS _,λ_ h=>h,λa _ cs m h=>⟨m.tip,by rw[h],id,λ_=>rfl⟩⟩
def Fz.keep{J J':Nu}{I:Ga}{H H':St}{id:Nat}{cs:List Value}{m:pM}(h:Fz J H id cs m)(k:Keep J I H H')(hm:Mon H J J'):
    ∃b,Fz J' H' id cs {m with tip:=b}:=by
 obtain⟨hr,hn⟩:=h;obtain⟨hg,bf⟩:=eO hr;obtain⟨b,hb,_⟩:=k.row id hn cs m hg;refine⟨b,row_of_get hb ?_,λj hj=>?_⟩
 .rw[oN k.vers];exact bf
 .rcases hm.2 j id hj with h1|h1
  .exact hn j h1
  .rw[h1]at hg;cases hg
def R.keep{J J':Nu}{I:Ga}{H H':St}(k:Keep J I H H')(hm:Mon H J J'){x:PV}{u:Value}(r:R J H x u):R J' H' x u:=by
 induction r with
 |und u=>exact .und u
 |v x h=>exact .v x h
 |str s=>exact .str s
 |agg xs us hl _ ih=>exact .agg xs us hl ih
 |tup xs us hl _ ih=>exact .tup xs us hl ih
 |nil=>exact .nil
 |emp0=>exact .emp0
 |emp1 id off c rcs m hr=>obtain⟨b,hf⟩:=hr.keep k hm;exact .emp1 id off c rcs _ hf
 |emp2 b o s c=>exact .emp2 b o s c
 |sl z es id off c rcs m hz hs hr lq hb _ ih=>
  obtain⟨b,hf⟩:=hr.keep k hm;exact .sl z es id off c rcs _ hz hs hf lq hb ih
 |pin z es i off id base rcs m hs hr hb _ ih=>
  obtain⟨b,hf⟩:=hr.keep k hm;exact .pin z es i off id base rcs _ hs hf hb ih
 |ptr id off a h=>
  rcases hm.1 id _ h with h1|h1
  .exact .ptr id off a h1
  .exact .ptr0 id off a h1
 |ptr0 id off a h=>
  rcases hm.1 id _ h with h2|h2<;>exact .ptr0 id off a h2
 |rs id off len c a h=>
  rcases hm.1 id _ h with h1|h1
  .exact .rs id off len c a h1
  .exact .rs0 id off len c a h1
 |rs0 id off len c a h=>
  rcases hm.1 id _ h with h2|h2<;>exact .rs0 id off len c a h2
 |fn f xs ys us vs hl _ fa _ ih wj=>exact .fn f xs ys us vs hl ih fa wj
def Ow.keep{J J':Nu}{I I1 I':Ga}{H H':St}{k k':K}{x:PV}{u:Value}(o:Ow J I H k x u)(kp:Keep J I1 H H')(hm:Mon H J J')
    (h: ∀i,I i=some k->H.get i≠none->I1 i=some .out/\I' i=some k'):Ow J' I' H' k' x u:=by
 induction o with
 |nil x=>exact .nil x
 |exact x id off len rcs m hr=>obtain⟨b,hf⟩:=hr.keep kp hm;exact .exact x id off len rcs _ hf
 |zer x b o=>exact .zer x b o
 |tup x xs u us hx _ ih=>exact .tup x xs u us hx ih
 |tip z es id off c rcs m hr ht hw hg hb hk=>
  obtain⟨hr0,hn⟩:=hr;obtain⟨bc,bf⟩:=eO hr0;obtain⟨h1,h2⟩:=h id hk (by rw[bc];simp)
  obtain⟨b,bu,_,hb2⟩:=kp.row id hn rcs m bc;have hbt:=hb2 h1;subst hbt;refine .tip z es id off c rcs m ⟨row_of_get bu (by rw[oN kp.vers];exact bf),λj hj=>?_⟩ ht hw hg hb h2
  rcases hm.2 j id hj with h3|h3
  .exact hn j h3
  .rw[h3]at bc;cases bc
def mv(k k':K)(I:Ga):Ga:=λi=>if I i=some k then some k' else I i
def Ow.mv{J:Nu}{I:Ga}{H:St}{k k':K}{x:PV}{u:Value}(o:Ow J I H k x u):Ow J (mv k k' I) H k' x u:=by
 induction o with
 |nil x=>exact .nil x
 |exact x id off len rcs m hr=>exact .exact x id off len rcs m hr
 |zer x b o=>exact .zer x b o
 |tup x xs u us hx _ ih=>exact .tup x xs u us hx ih
 |tip z es id off c rcs m hr ht hw hg hb hk=>exact .tip z es id off c rcs m hr ht hw hg hb (by simp[PI.mv,hk])
def Ow.mv_ne{J:Nu}{I:Ga}{H:St}{k k' j:K}{x:PV}{u:Value}(o:Ow J I H j x u)(h:j≠k):Ow J (PI.mv k k' I) H j x u:=by
 induction o with
 |nil x=>exact .nil x
 |exact x id off len rcs m hr=>exact .exact x id off len rcs m hr
 |zer x b o=>exact .zer x b o
 |tup x xs u us hx _ ih=>exact .tup x xs u us hx ih
 |tip z es id off c rcs m hr ht hw hg hb hk=>exact .tip z es id off c rcs m hr ht hw hg hb (by simp[PI.mv,hk,h])
def Ow.weak{J:Nu}{I I':Ga}{H:St}{k k':K}{x:PV}{u:Value}(o:Ow J I H k x u)(h: ∀i,I i=some k->I' i=some k'):Ow J I' H k' x u:=by
 induction o with
 |nil x=>exact .nil x
 |exact x id off len rcs m hr=>exact .exact x id off len rcs m hr
 |zer x b o=>exact .zer x b o
 |tup x xs u us hx _ ih=>exact .tup x xs u us hx ih
 |tip z es id off c rcs m hr ht hw hg hb hk=>exact .tip z es id off c rcs m hr ht hw hg hb (h id hk)
def Ow.slice{J:Nu}{I:Ga}{H:St}{k:K}{x:PV}{u:Value}(o:Ow J I H k x u)(h:x.cells.all PV.one=true):gO u=true:=by
 cases o with
 |tup x xs u us _ _=>simp[PV.cells,PV.one]at h
 |_=>rfl
def ObjR(J:Nu)(I:Ga)(H:St)(id:Nat):kK->Prop
 | .box cs=> ∃a us,J id=some (some a)/\H.get a=some (.cells us boxMeta)/\us.length=cs.length/\
      ∀(i:Nat) (x:PV) (b:Bool) (u:Value),cs[i]?=some (x,b)->us[i]?=some u->R J H x u/\x.one=true/\(b=true->Ow J I H (.cell id i) x u)
 | .row z _ cs=> ∃a us,J id=some (some a)/\H.get a=some (.cells us (eE z))/\us.length=cs.length/\cs.all PV.one=true/\
      ∀(i:Nat) (x:PV) (u:Value),cs[i]?=some x->us[i]?=some u->R J H x u
 | .map _=>False
 | .gone=>J id=some none
structure Mem(J:Nu)(I:Ga)(p:PSt)(H:St):Prop where
 le: ∀id x,J id=some x->id<p.next
 lt: ∀id a,J id=some (some a)->a<H.next
 inj: ∀i j a,J i=some (some a)->J j=some (some a)->i=j
 live: ∀id a,J id=some (some a)->∃o,p.get id=some o
 get: ∀id o,p.get id=some o->ObjR J I H id o
 free: ∀a,H.next<=a->H.get a=none
 ver: ∀g,H.ver g=0
def FR(J:Nu)(I:Ga)(H:St)(S:PS)(A:Slots):Prop:=
 ∀t,R J H (S.at t).1 (A.at t)/\((S.at t).2=true->Ow J I H (.slot t) (S.at t).1 (A.at t))
section
variable{J:Nu}{H:St}
def RL.nil:RL J H [] []:=⟨rfl,λi x u h=>by simp at h⟩
def RL.cons{x:PV}{u:Value}{xs:List PV}{us:List Value}(h:R J H x u)(r:RL J H xs us):RL J H (x::xs) (u::us):=by
 refine⟨by simp[r.1],λi y v hy hv=>?_⟩
 cases i with
 |zero=>simp at hy hv;subst hy;subst hv;exact h
 |succ i=>simp at hy hv;exact r.2 i y v hy hv
def RL.cons_inv{x:PV}{xs:List PV}{us:List Value}(r:RL J H (x::xs) us): ∃u vs,us=u::vs/\R J H x u/\RL J H xs vs:=by
 cases us with
 |nil=>have:=r.1;simp at this
 |cons u vs=>exact⟨u,vs,rfl,r.2 0 x u (by simp) (by simp),by simpa using r.1,λi y v hy hv=>r.2 (i+1) y v (by simpa using hy) (by simpa using hv)⟩
def RL.nil_inv{us:List Value}(r:RL J H [] us):us=[]:=by have:=r.1;simpa using this.symm
def RL.append{xs ys:List PV}{us vs:List Value}(r:RL J H xs us)(s:RL J H ys vs):RL J H (xs++ys) (us++vs):=by
 induction xs generalizing us with
 |nil=>rw[r.nil_inv];exact s
 |cons x xs ih=>obtain⟨u,jo,rfl,h,r'⟩:=r.cons_inv;exact .cons h (ih r')
def RL.drop{xs:List PV}{us:List Value}(r:RL J H xs us)(n:Nat):RL J H (xs.drop n) (us.drop n):=
 ⟨by simp[r.1],λi x u hx hu=>r.2 (n+i) x u (by simpa using hx) (by simpa using hu)⟩
def RL.take{xs:List PV}{us:List Value}(r:RL J H xs us)(n:Nat):RL J H (xs.take n) (us.take n):=by
 refine⟨by simp[r.1],λi x u hx hu=>?_⟩
 rw[List.getElem?_take]at hx hu;split at hx
 .rename_i hi;rw[bI hi]at hu;exact r.2 i x u hx hu
 .cases hx
def RL.get{xs:List PV}{us:List Value}(r:RL J H xs us){i:Nat}{x:PV}(h:xs[i]?=some x): ∃u,us[i]?=some u/\R J H x u:=by
 have hi:i<xs.length:=by
  rcases Nat.lt_or_ge i xs.length with h'|h'
  .exact h'
  .simp[List.getElem?_eq_none h']at h
 have:us[i]?=some (us[i]'(r.1▸hi)):=aV _;exact⟨_,this,r.2 i x _ h this⟩
def RL.set{xs:List PV}{us:List Value}(r:RL J H xs us){x:PV}{u:Value}(h:R J H x u)(n:Nat):RL J H (xs.set n x) (us.set n u):=by
 refine⟨by simp[r.1],λi y v hy hv=>?_⟩
 rw[List.getElem?_set]at hy hv;split at hy
 .rename_i e;rw[bI e]at hv;split at hy
  .split at hv
   .simp at hy hv;subst hy;subst hv;exact h
   .cases hv
  .cases hy
 .rename_i e;rw[bH e]at hv;exact r.2 i y v hy hv
def RL.keep{J':Nu}{I:Ga}{H':St}(k:Keep J I H H')(hm:Mon H J J'){xs:List PV}{us:List Value}(r:RL J H xs us):RL J' H' xs us:=
 ⟨r.1,λi x u hx hu=>(r.2 i x u hx hu).keep k hm⟩
def R.agg_inv{xs:List PV}{u:Value}(r:R J H (.agg xs) u): ∃us,u= .agg us/\RL J H xs us.toList:=by
 cases r with
 |agg _ us hl h=>exact⟨us,rfl,hl,h⟩
def R.tup_inv{xs:List PV}{u:Value}(r:R J H (.tup xs) u): ∃us,u= .tuple us/\RL J H xs us.toList:=by
 cases r with
 |tup _ us hl h=>exact⟨us,rfl,hl,h⟩
def R.mkAgg{xs:List PV}{us:List Value}(r:RL J H xs us):R J H (.agg xs) (.agg us.toArray):= .agg _ _ (by simpa using r.1) (by simpa using r.2)
def R.mkAgg'{xs:List PV}{us:Array Value}(r:RL J H xs us.toList):R J H (.agg xs) (.agg us):= .agg _ _ r.1 r.2
def R.mkTup{xs:List PV}{us:List Value}(r:RL J H xs us):R J H (.tup xs) (.tuple us.toArray):= .tup _ _ (by simpa using r.1) (by simpa using r.2)
def R.one{x:PV}{u:Value}(r:R J H x u)(h:x.one=true):one u=true:=by
 cases r<;>first|rfl|assumption|(simp[PV.one]at h)|skip
 rename_i hp;cases u<;>first|rfl|simp[bN]at hp
def RL.one{xs:List PV}{us:List Value}(r:RL J H xs us)(h:xs.all PV.one=true):us.all AI.one=true:=by
 induction xs generalizing us with
 |nil=>rw[r.nil_inv];rfl
 |cons x xs ih=>
  obtain⟨u,jo,rfl,hx,r'⟩:=r.cons_inv;simp only[aP,aC]at h⊢;exact⟨hx.one h.1,ih r' h.2⟩
def BS{x:PV}(h:x.one=true):x.cells=[x]:=by cases x<;>first|rfl|simp[PV.one]at h
def Q7{u:Value}(h:AI.one u=true):u.cells= #[u]:=by cases u<;>first|rfl|simp[AI.one]at h
def R.cells{x:PV}{u:Value}(r:R J H x u)(h:x.cells.all PV.one=true):RL J H x.cells u.cells.toList:=by
 cases x with
 |agg cs=>obtain⟨us,rfl,hl⟩:=r.agg_inv;exact hl
 |_=>
  first
  |(rw[Q7 (r.one (by simpa [PV.cells]using h))];exact .cons r .nil)
mutual
def R.wk: ∀{x:PV} {u:Value},R J H x u->R J H (wk x) u
 | .agg cs,u,r=>by
  obtain⟨us,rfl,hl⟩:=r.agg_inv;exact .mkAgg' (RL.wks hl)
 | .tup cs,u,r=>by
  obtain⟨us,rfl,hl⟩:=r.tup_inv;exact .tup _ _ (RL.wks hl).1 (RL.wks hl).2
 | .nil,u,r=>by cases r;exact .emp0
 | .sl z [],u,r=>by
  cases r with
  |sl _ _ id off c rcs m hz hs hr hm hb hh=>exact .emp1 _ _ _ _ _ hr
 | .sl z (e::es),u,r=>r
 | .v _,u,r=>r
 | .str _,u,r=>r
 | .emp,u,r=>r
 | .pin ..,u,r=>r
 | .ptr ..,u,r=>r
 | .rs ..,u,r=>r
 | .mp _,u,r=>r
 | .fn ..,u,r=>r
 | .und,u,r=>r
def RL.wks: ∀{xs:List PV} {us:List Value},RL J H xs us->RL J H (wks xs) us
 |[],us,r=>r
 |x::xs,us,r=>by
  obtain⟨u,jo,rfl,hx,r'⟩:=r.cons_inv;exact .cons (R.wk hx) (RL.wks r')
end
end
end Go.PI
namespace Go.PI
open Go.AI
section
variable{P:Program}{J:Nu}{I:Ga}{H:St}{S:PS}{A:Slots}
def R.ofV0{x:Value}(h:bN x=true):R J H (Bo x) x:=by
 cases x with
 |string s=>exact .str s
 |slice a l c=>
  cases a with
  |none=>simp only[bN,aC]at h;have h1:=aE h.1;have h2:=aE h.2;subst h1;subst h2;exact .nil
  |some a=>simp[bN]at h
 |agg cs=>simp[bN]at h
 |tuple cs=>simp[bN]at h
 |_=>exact .v _ h
def RL.ofVs{xs:List Value}(h:xs.all bN=true):RL J H (ofVs xs) xs:=by
 induction xs with
 |nil=>exact .nil
 |cons x xs ih=>
  simp only[aP,aC]at h;exact .cons (.ofV0 h.1) (ih h.2)
def R.ofV1{x:Value}(h:cK x=true):R J H (Bo x) x:=by
 cases x with
 |agg cs=>exact .mkAgg' (.ofVs h)
 |_=>exact .ofV0 h
def PA{xs:List Value}(h:xs.all bN=true):(ofVs xs).all PV.one=true:=by
 induction xs with
 |nil=>rfl
 |cons x xs ih=>
  simp only[aP,aC]at h;simp only[PI.ofVs,aP,aC];refine⟨?_,ih h.2⟩;have h1:=h.1;cases x with
  |slice a l c=>cases a<;>first|rfl|simp[bN]at h1
  |_=>first|rfl|simp[bN]at h1
def uS(xs:List Value):(ofVs xs).length=xs.length:=by
 induction xs with
 |nil=>rfl
 |cons x xs ih=>simp[PI.ofVs,ih]
def pP{x:PV}{w u:Value}(h:pY x=some w)(r:R J H x u):u=w/\bN w=true:=by
 cases r<;>simp only[pY]at h<;>try cases h
 .rename_i hp;rw[hp]at h;simp only[aI,aA]at h;subst h;exact⟨rfl,hp⟩
 .exact⟨rfl,rfl⟩
def aJY{xs:List PV}{ws us:List Value}(h:Rc xs=some ws)(r:RL J H xs us):us=ws/\ws.all bN=true:=by
 induction xs generalizing ws us with
 |nil=>simp only[Rc,aA]at h;subst h;exact⟨r.nil_inv,rfl⟩
 |cons x xs ih=>
  obtain⟨u,jo,rfl,hx,r'⟩:=r.cons_inv;simp only[Rc]at h;split at h
  .rename_i a l h1 h2;simp only[aA]at h;subst h;obtain⟨rfl,hp⟩:=pP h1 hx;obtain⟨rfl,hq⟩:=ih h2 r';exact⟨rfl,by simp[hp,hq]⟩
  .cases h
def aJZ{xs:List PV}{ws us:List Value}(h:Rd xs=some ws)(r:RL J H xs us):us=ws/\ws.all bN=true:=by
 induction xs generalizing ws us with
 |nil=>simp only[Rd,aA]at h;subst h;exact⟨r.nil_inv,rfl⟩
 |cons x xs ih=>
  obtain⟨u,jo,rfl,hx,r'⟩:=r.cons_inv;simp only[Rd]at h;split at h
  .rename_i a l h1 h2;simp only[aA]at h;subst h;obtain⟨rfl,hp⟩:=pP h1 hx;obtain⟨rfl,hq⟩:=ih h2 r';exact⟨rfl,by simp[hp,hq]⟩
  .cases h
def HO{x:PV}{w u:Value}(h:aBc x=some w)(r:R J H x u):u=w/\cK w=true:=by
 cases x with
 |agg cs=>
  obtain⟨us,rfl,hl⟩:=r.agg_inv;simp only[aBc,aF]at h;obtain⟨l,h1,rfl⟩:=h;obtain⟨h2,h3⟩:=aJY h1 hl;refine⟨by rw[<-h2],by simpa [cK]using h3⟩
 |_=>
  simp only[aBc]at h;obtain⟨h1,h2⟩:=pP h r;refine⟨h1,?_⟩;cases w with
  |agg cs=>simp[bN]at h2
  |_=>exact h2
def jO{s:Sem Value}{w:Value}(h:cQ P s=some w):cK w=true:=by
 unfold cQ at h;split at h
 .rename_i v e;cases hp:cK v with
  |true=>rw[hp,aI]at h;simp only[aA]at h;subst h;exact hp
  |false=>rw[hp,aJ]at h;cases h
 .cases h
def cX(F:FR J I H S A){x:Operand}(hx:cG P x=true):R J H (cP S x) (ev A x):=by
 cases x with
 |tmp t=>exact(F t).1
 |const v=>exact .ofV1 hx
 |global g=>exact .und _
 |func f=>exact .fn f [] [] #[] #[] rfl (λi x u h=>by simp at h) rfl (λi x u h=>by simp at h)
def Ax(F:FR J I H S A){xs:List Operand}(hx:xs.all (cG P)=true):RL J H (xs.map (cP S)) (xs.map (ev A)):=by
 induction xs with
 |nil=>exact .nil
 |cons x xs ih=>
  simp only[aP,aC]at hx;exact .cons (cX F hx.1) (ih hx.2)
def Pf{t:TypeId}{cs:List PV}{us:Array Value}{off:Nat}{v:PV}(r:RL J H cs us.toList)(h:qZ P t cs off=some v): ∃u,Bi P t us off=some u/\R J H v u:=by
 unfold qZ at h;unfold Bi;split at h
 .rename_i e;rw[e];split at h
  .rename_i n en;simp only[en];cases hb:Nat.beq ((cs.drop off).take n).length n with
   |false=>rw[hb,aJ]at h;cases h
   |true=>
    rw[hb,aI]at h;simp only[aA]at h;subst h;refine⟨_,rfl,.mkAgg' ?_⟩;have:=(r.drop off).take n;simpa [Array.toList_extract,List.extract_eq_take_drop]using this
  .cases h
 .rename_i e;rw[e];obtain⟨u,hu,hr⟩:=r.get h;exact⟨u,by simpa using hu,hr⟩
 .cases h
def zJ{t:TypeId}{cs:List PV}{us:List Value}{off base:Nat}{v:PV}(hb:base+cs.length<=us.length)
    (r: ∀(i:Nat) (x:PV) (u:Value),cs[i]?=some x->us[base+i]?=some u->R J H x u) (h:qZ P t cs off=some v):
    ∃u,(match jS P t with
      |some true=>match gU P t with
        |some n=>(cut us (base+off) n).map λl=>Value.agg l.toArray
        |none=>none
      |some false=>us[base+off]?
      |none=>none)=some u/\R J H v u:=by
 unfold qZ at h;split at h
 .rename_i e;rw[e];split at h
  .rename_i n en;simp only[en];cases bu:Nat.beq ((cs.drop off).take n).length n with
   |false=>rw[bu,aJ]at h;cases h
   |true=>
    rw[bu,aI]at h;simp only[aA]at h;subst h;have hn:=aE bu;simp only[List.length_take,List.length_drop]at hn;have hl:((us.drop (base+off)).take n).length=n:=by simp only[List.length_take,List.length_drop];omega
    refine⟨.agg ((us.drop (base+off)).take n).toArray,?_,.mkAgg ⟨?_,?_⟩⟩
    .simp only[cut,cR,hl,decide_true,aI,aK]
    .simp only[List.length_take,List.length_drop];omega
    .intro i x u hx hu;rw[List.getElem?_take]at hx hu;split at hx
     .rename_i hi;rw[bI hi]at hu;rw[List.getElem?_drop]at hx hu;exact r (off+i) x u hx (by rw[<-Nat.add_assoc];exact hu)
     .cases hx
  .cases h
 .rename_i e;rw[e];have hi:off<cs.length:=by
   rcases Nat.lt_or_ge off cs.length with h'|h'
   .exact h'
   .simp[List.getElem?_eq_none h']at h
  have hu:us[base+off]?=some (us[base+off]'(by omega)):=aV _
  exact⟨_,hu,r off v _ h hu⟩
 .cases h
def iD{z:Nat}{es:List PV}(hs: ∀e∈es,e.cells.length=z):(eY es).length=es.length*z:=by
 induction es with
 |nil=>simp[eY]
 |cons e es ih=>
  have:=ih (λx hx=>hs x (aG _ hx))
  simp only[eY,aN,aZ,aM]at this⊢;rw[hs e (by simp),this,Nat.add_mul];omega
def aER{z:Nat}{es:List PV}(hs: ∀e∈es,e.cells.length=z){i j:Nat}{e:PV}(he:es[i]?=some e)(hj:j<z):(eY es)[i*z+j]?=e.cells[j]?:=by
 induction es generalizing i with
 |nil=>simp at he
 |cons x es ih=>
  simp only[eY,aN];have hx:=hs x (by simp)
  cases i with
  |zero=>
   simp only[aU,aA]at he;subst he;rw[Nat.zero_mul,Nat.zero_add,List.getElem?_append_left (by omega)]
  |succ i=>
   simp only[aT]at he;have:=ih (λy hy=>hs y (aG _ hy)) he
   rw[List.getElem?_append_right (by rw[hx,Nat.succ_mul];omega),hx]
   rw[show(i+1)*z+j-z=i*z+j by rw[Nat.succ_mul];omega]
   exact this
def iH{N:Type}{l:List N}{i:Nat}{x:N}(h:l[i]?=some x):x∈l:=List.mem_of_getElem? h
def D3{I:Ga}{p:PSt}(M:Mem J I p H){t:TypeId}{a v:PV}{w:Value}(r:R J H a w)(h:jW P p t a=some v): ∃u,nE P H t w=some u/\R J H v u:=by
 cases a<;>simp only[jW]at h<;>try cases h
 .rename_i es i off;cases r with
  |pin z _ _ _ id base rcs m hs hr hb hh=>
  split at h
  .rename_i e he;have hz:=(hs e (iH he)).1;have hs:=λe he=>(hs e he).1
   have hi:i<es.length:=by
    rcases Nat.lt_or_ge i es.length with h'|h'
    .exact h'
    .simp[List.getElem?_eq_none h']at he
   have hiz:i*z+z<=es.length*z:=by rw[<-Nat.succ_mul];exact Nat.mul_le_mul_right _ hi
   have:=zJ (J:=J) (H:=H) (us:=rcs) (base:=base+i*z) (by rw[hz];omega) (λj x u hx hu=>by
    have hj:j<z:=by
     rcases Nat.lt_or_ge j e.cells.length with h'|h'
     .omega
     .simp[List.getElem?_eq_none h']at hx
    exact hh (i*z+j) x u (by rw[aER hs he hj];exact hx) (by rw[<-Nat.add_assoc];exact hu)) h
   obtain⟨u,hu,ca⟩:=this;refine⟨u,?_,ca⟩;simp only[nE,hr.1];exact hu
  .cases h
 .rename_i id off;cases r with
  |ptr _ _ a hν=>
   split at h
   .rename_i cs hg;obtain⟨a',us,h1,h2,h3,h4⟩:=M.get id _ hg;rw[hν]at h1;simp only[aA]at h1;subst h1;have:=zJ (J:=J) (H:=H) (us:=us) (base:=0) (by simp[h3]) (λj x u hx hu=>by
     rw[List.getElem?_map]at hx;cases hc:cs[j]? with
     |none=>rw[hc]at hx;cases hx
     |some c=>
      rw[hc]at hx;simp only[aK,aA]at hx;subst hx;exact(h4 j c.1 c.2 u hc (by simpa using hu)).1) h
    obtain⟨u,hu,ca⟩:=this;refine⟨u,?_,ca⟩;simp only[nE,row_of_get h2 rfl];simp only[Nat.zero_add]at hu;exact hu
   .rename_i z ag cs hg;obtain⟨a',us,h1,h2,h3,h5,h4⟩:=M.get id _ hg;rw[hν]at h1;simp only[aA]at h1;subst h1;have:=zJ (J:=J) (H:=H) (us:=us) (base:=0) (by simp[h3]) (λj x u hx hu=>h4 j x u hx (by simpa using hu)) h
    obtain⟨u,hu,ca⟩:=this;refine⟨u,?_,ca⟩;simp only[nE,row_of_get h2 rfl];simp only[Nat.zero_add]at hu;exact hu
   .cases h
  |ptr0 _ _ _ hν=>
   split at h
   .rename_i cs hg;obtain⟨a',us,h1,_⟩:=M.get id _ hg;rw[hν]at h1;cases h1
   .rename_i z ag cs hg;obtain⟨a',us,h1,_⟩:=M.get id _ hg;rw[hν]at h1;cases h1
   .cases h
end
end Go.PI
namespace Go.PI
open Go.AI
section
variable{P:Program}{J:Nu}{I:Ga}{H:St}{S:PS}{A:Slots}
def aAi{t:TypeId}{v x:PV}{u:Value}{f:Nat}(r:R J H v u)(h:D6 P t v f=some x): ∃w,Fc P t u f=some w/\R J H x w:=by
 unfold D6 at h;unfold Fc;split at h
 .rename_i fs e;rw[e];split at h
  .rename_i fd e2;simp only[e2];split at h
   .rename_i cs;obtain⟨us,rfl,hl⟩:=r.agg_inv;exact Pf hl h
   .cases h
  .cases h
 .cases h
def FW{t:TypeId}{v x:PV}{u:Value}{f:Nat}(r:R J H v u)(h:iF P t v f=some x): ∃w,pD P t u f=some w/\R J H x w:=by
 unfold iF at h;unfold pD;split at h
 .rename_i fs e;rw[e];split at h
  .rename_i fd e2;simp only[e2];split at h
   .rename_i n e3;simp only[e3];cases hb:Nat.beq n 0 with
    |true=>rw[hb,aI]at h;cases h
    |false=>
     rw[hb,aJ]at h;split at h
     .simp only[aA]at h;subst h;cases r with
      |ptr id off a hν=>simp only[hb,aJ];exact⟨_,rfl,.ptr _ _ _ hν⟩
      |ptr0 id off a hν=>simp only[hb,aJ];exact⟨_,rfl,.ptr0 _ _ _ hν⟩
     .rename_i es i off;simp only[aA]at h;subst h;cases r with
      |pin z _ _ _ id base rcs m hs hr hb2 hh=>simp only[hb,aJ];exact⟨_,rfl,by rw[Nat.add_assoc];exact .pin z es i _ id base rcs m hs hr hb2 hh⟩
     .cases h
   .cases h
  .cases h
 .cases h
def FV{t:TypeId}{v x i:PV}{u w:Value}(r:R J H v u)(ri:R J H i w)(h:gD P t v i=some x): ∃y,jM P t u w=some y/\R J H x y:=by
 unfold gD at h;split at h
 .rename_i k n;have hw:w= .int k n:=by cases ri;rfl
  subst hw;simp only[jM];split at h
  .rename_i e he;simp only[he];split at h
   .rename_i z hz;split at h
    .rename_i z' es;cases r with
     |sl _ _ id off c rcs m h1 hs hr hm hb hh=>
      simp only[hz];cases hc:Nat.beq z z'&&cV n es.length with
      |false=>rw[hc,aJ]at h;cases h
      |true=>
       rw[hc,aI]at h;simp only[aA]at h;subst h;simp only[aC]at hc;have gt:=aE hc.1;subst gt;rw[hc.2,aI];refine⟨_,rfl,?_⟩;have:=R.pin (J:=J) (H:=H) z es n.toNat 0 id off rcs m hs hr hb hh;simpa using this
    .rename_i id off len;cases hc:cV n len with
     |false=>rw[hc,aJ]at h;cases h
     |true=>
      rw[hc,aI]at h;simp only[aA]at h;subst h;cases r with
      |rs _ _ _ c a hν=>simp only[hz,hc,aI];exact⟨_,rfl,.ptr _ _ _ hν⟩
      |rs0 _ _ _ c a hν=>simp only[hz,hc,aI];exact⟨_,rfl,.ptr0 _ _ _ hν⟩
    .cases h
   .cases h
  .rename_i len e he;simp only[he];split at h
   .rename_i z hz;split at h
    .rename_i id off;cases hc:cV n len with
     |false=>rw[hc,aJ]at h;cases h
     |true=>
      rw[hc,aI]at h;simp only[aA]at h;subst h;cases r with
      |ptr _ _ a hν=>simp only[hz,hc,aI];exact⟨_,rfl,.ptr _ _ _ hν⟩
      |ptr0 _ _ a hν=>simp only[hz,hc,aI];exact⟨_,rfl,.ptr0 _ _ _ hν⟩
    .rename_i es j off;cases hc:cV n len with
     |false=>rw[hc,aJ]at h;cases h
     |true=>
      rw[hc,aI]at h;simp only[aA]at h;subst h;cases r with
      |pin z0 _ _ _ id base rcs m hs hr hb2 hh=>simp only[hz,hc,aI];exact⟨_,rfl,by rw[Nat.add_assoc];exact .pin z0 es j _ id base rcs m hs hr hb2 hh⟩
    .cases h
   .cases h
  .cases h
 .cases h
def D4{w:Value}(h:bN w=true):cK w=true:=by cases w<;>first|exact h|simp[bN]at h
def aAg{t:TypeId}{v x i:PV}{u w:Value}(r:R J H v u)(ri:R J H i w)(h:BA P t v i=some x): ∃y,Fb P t u w=some y/\R J H x y:=by
 unfold BA at h;unfold Fb;split at h
 .rename_i e;rw[e];split at h
  .rename_i a b ha hb;obtain⟨rfl,wz⟩:=pP ha r;obtain⟨rfl,hpb⟩:=pP hb ri;simp only[aF]at h;obtain⟨y,hy,rfl⟩:=h;exact⟨y,by simp only[wz,hpb,Bool.and_self,aI];exact hy,.ofV1 (jO hy)⟩
  .cases h
 .rename_i len e he;rw[he];split at h
  .rename_i k n cs;have hw:w= .int k n:=by cases ri;rfl
   subst hw;obtain⟨us,rfl,hl⟩:=r.agg_inv;split at h
   .rename_i z hz;cases hc:cV n len with
    |false=>rw[hc,aJ]at h;cases h
    |true=>
     rw[hc,aI]at h;simp only[hz,hc,aI];exact Pf hl h
   .cases h
  .cases h
 .cases h
def aKF{op:BinOp}{t:TypeId}{x y:Operand}{a b v:PV}(ra:R J H a (ev A x))(rb:R J H b (ev A y))(h:lA P op t x y a b=some v):
    ∃w,(bif cK (ev A x)&&cK (ev A y)then cQ P (do eqGuard op t x y (ev A x) (ev A y);binOp op t (ev A x) (ev A y))
      else match P.underlying t with
        |some (.slice _)=>SY op (ev A x) (ev A y)
        |_=>none)=some w/\R J H v w:=by
 unfold lA at h;split at h
 .rename_i u w hu hw;obtain⟨h1,hp1⟩:=HO hu ra;obtain⟨h2,hp2⟩:=HO hw rb;simp only[aF]at h;obtain⟨y',hy,rfl⟩:=h;rw[h1,h2,hp1,hp2];exact⟨y',by simpa using hy,.ofV1 (jO hy)⟩
 .split at h
  .rename_i e he _;unfold aWP at h;split at h
   .generalize ev A x=u1 at*;generalize ev A y=u2 at*;cases ra;cases rb;rw[he];simp only[cK,bN,Bool.false_and,aJ];cases op<;>simp only[aA,reduceCtorEq]at h<;>subst h<;>exact⟨_,rfl,.v _ rfl⟩
   .cases h
  .cases h
def aWN{op:UnOp}{a v:PV}{u:Value}(r:R J H a u)(h:a5O P op a=some v): ∃w,(bif bN u then cQ P (Op.unary op u)else none)=some w/\R J H v w:=by
 unfold a5O at h;split at h
 .rename_i u' hu;obtain⟨rfl,hp⟩:=pP hu r;simp only[aF]at h;obtain⟨y,hy,rfl⟩:=h;exact⟨y,by rw[hp];exact hy,.ofV1 (jO hy)⟩
 .cases h
def aDr{s d:TypeId}{a v:PV}{u:Value}(r:R J H a u)(h:yM P s d a=some v): ∃w,(bif bN u then cQ P (convert s d u)else none)=some w/\R J H v w:=by
 unfold yM at h;split at h
 .rename_i u' hu;obtain⟨rfl,hp⟩:=pP hu r;simp only[aF]at h;obtain⟨y,hy,rfl⟩:=h;exact⟨y,by rw[hp];exact hy,.ofV1 (jO hy)⟩
 .cases h
def PY(place:Nat): ∀(c:List PV) (c':List Value) (k:Nat) (A:List PV) (A':Array Value),RL J H c c'->RL J H A A'.toList->
    RL J H (Bx A (place+k) c) ((c'.zipIdx k).foldl (λ(cs:Array Value) x=>cs.setIfInBounds (place+x.2) x.1) A').toList:=by
 intro c;induction c with
 |nil=>intro c' k A A' h hA;rw[h.nil_inv];exact hA
 |cons x c ih=>
  intro c' k A A' h hA;obtain⟨u,us,rfl,hx,hr⟩:=h.cons_inv;simp only[List.zipIdx_cons,List.foldl_cons,Bx];have:=ih us (k+1) (A.set (place+k) x) (A'.setIfInBounds (place+k) u) hr (by rw[Array.toList_setIfInBounds];exact hA.set hx _)
  exact this
def PRs(J:Nu)(H:St)(ps:List (Nat×PV))(qs:List (Nat×Value)):Prop:=ps.map (·.1)=qs.map (·.1)/\RL J H (ps.map (·.2)) (qs.map (·.2))
def PRs.of(F:FR J I H S A){parts:List (Nat×Operand)}(h:(parts.map (·.2)).all (cG P)=true):
    PRs J H (parts.map λ(i,x)=>(i,cP S x)) (parts.map λ(i,x)=>(i,ev A x)):=by
 refine⟨by simp[Function.comp_def],?_⟩
 have:=Ax (P:=P) F h;simpa [Function.comp_def]using this
def Pg(place:Nat->Option (Nat×Nat)): ∀(ps:List (Nat×PV)) (qs:List (Nat×Value)) (B:List PV) (B':Array Value) (r:List PV),PRs J H ps qs->RL J H B B'.toList->Aw place B ps=some r->
    ∃r',Instr.fill place B' qs=some r'/\RL J H r r'.toList:=by
 intro ps;induction ps with
 |nil=>
  intro qs B B' r hp hB h;have:qs=[]:=by have:=hp.1;simpa using this.symm
  subst this;simp only[Aw,aA]at h;subst h;exact⟨B',rfl,hB⟩
 |cons q ps ih=>
  intro qs B B' r hp hB h;obtain⟨i,x⟩:=q;cases qs with
  |nil=>have:=hp.1;simp at this
  |cons q' qs=>
   obtain⟨i',u⟩:=q';have h1:=hp.1;simp only[aO,List.cons.injEq]at h1;obtain⟨rfl,h1⟩:=h1;have h2:=hp.2;simp only[aO]at h2;obtain⟨u',jo,he,hx,hr⟩:=h2.cons_inv;simp only[List.cons.injEq]at he;obtain⟨rfl,rfl⟩:=he;simp only[Aw]at h;simp only[Instr.fill];split at h
   .cases h
   .rename_i off size e;simp only[e];cases hc:Nat.beq x.cells.length size&&Nat.ble (off+size) B.length&&x.cells.all PV.one with
    |false=>rw[hc,aJ]at h;cases h
    |true=>
     rw[hc,aI]at h;simp only[aC]at hc;have hcs:=hx.cells hc.2;have ci:=aE hc.1.1;have hle:=bK hc.1.2;have gi:u.cells.size=size:=by have:=hcs.1;simp at this;omega
     have hBl:B.length=B'.size:=by have:=hB.1;simpa using this
     rw[bH (by simp[gi];omega)]
     refine ih qs _ _ r ⟨h1,hr⟩ ?_ h;have:=PY (J:=J) (H:=H) off x.cells u.cells.toList 0 B B' hcs hB;rw[<-Array.foldl_toList,Array.toList_zipIdx];exact this
def rV{t:TypeId}{z:List PV}(h:zeroCells P t=some z): ∃w,cI P (zeroValue t)=some w/\w.cells.toList.all bN=true/\z=ofVs w.cells.toList:=by
 unfold zeroCells at h;split at h
 .rename_i w e;cases hc:w.cells.toList.all bN with
  |false=>rw[hc,aJ]at h;cases h
  |true=>rw[hc,aI]at h;simp only[aA]at h;exact⟨w,e,hc,h.symm⟩
 .cases h
def aAk{t:TypeId}{ps:List (Nat×PV)}{qs:Array (Nat×Value)}{v:PV}(hp:PRs J H ps qs.toList)(h:zL P t ps=some v): ∃w,Fe P t qs=some w/\R J H v w:=by
 unfold zL at h;split at h
 .rename_i z hz;obtain⟨w,hw,dm,rfl⟩:=rV hz;unfold Fe;simp only[hw,dm,aI];split at h
  .rename_i fs e;simp only[e];split at h
   .rename_i pl e2;simp only[e2];simp only[aF]at h;obtain⟨cs,hf,rfl⟩:=h;obtain⟨de,gn,hr⟩:=Pg _ _ _ _ _ _ hp (.ofVs dm) hf;exact⟨_,by rw[gn];rfl,.mkAgg' hr⟩
   .cases h
  .rename_i n e he;simp only[he];split at h
   .rename_i s e2;simp only[e2];simp only[aF]at h;obtain⟨cs,hf,rfl⟩:=h;obtain⟨de,gn,hr⟩:=Pg _ _ _ _ _ _ hp (.ofVs dm) hf;exact⟨_,by rw[gn];rfl,.mkAgg' hr⟩
   .cases h
  .cases h
 .cases h
def aKB{t:TypeId}{v x:PV}{u:Value}(r:R J H v u)(h:CP P t v=some x): ∃w,aFT P t u=some w/\R J H x w:=by
 unfold CP at h;unfold aFT;split at h
 .rename_i e he;simp only[he];split at h<;>(try cases h)<;>(cases r<;>exact⟨_,rfl,.v _ rfl⟩)
 .rename_i he;simp only[he];split at h<;>(try cases h)
  cases r with
  |str s=>refine⟨_,rfl,?_⟩;simp only[i64,goInt,Array.length_toList];exact .v _ rfl
 .rename_i n e he;simp only[he];cases h;exact⟨_,rfl,.v _ rfl⟩
 .cases h
def DZ{mx:Bool}{ts:Array TypeId}{ty:TypeId}{as:List PV}{us:Array Value}{x:PV}(r:RL J H as us.toList)(h:oJ P mx ts ty as=some x):
    ∃w,(bif us.toList.all bN then cQ P (bif mx then Builtin.max_ ts ty us else Builtin.min_ ts ty us)else none)=some w/\R J H x w:=by
 unfold oJ at h;split at h
 .rename_i l hl;obtain⟨h1,h2⟩:=aJZ hl r;simp only[aF]at h;obtain⟨y,hy,rfl⟩:=h;refine⟨y,?_,.ofV1 (jO hy)⟩;rw[h1,h2,aI,<-hy];rw[show us=l.toArray by rw[<-h1]]
 .cases h
end
end Go.PI
namespace Go.PI
open Go.AI
def qJ(S:PS)(t k:Nat)(x:PV×Bool):PS.at (PS.set S t x) k=if k=t then x else S.at k:=by
 simp only[PS.at,PS.set,cR,Bool.cond_decide]
def Dg(A:Slots)(t k:Nat)(x:Value):Slots.at (Tr.set A t x) k=if k=t then x else A.at k:=by
 simp only[Slots.at,Tr.get_set];split<;>rfl
def G2(I I':Ga):Prop:= ∀i,(I i=some .out->I' i=some .out)/\∀id off,I i=some (.cell id off)->I' i=some (.cell id off)
def G2.refl(I:Ga):G2 I I:=λi=>⟨id,λ_ _=>id⟩
def G2.trans{I I' I'':Ga}(h:G2 I I')(h':G2 I' I''):G2 I I'':=λi=>⟨λe=>(h' i).1 ((h i).1 e),λid off e=>(h' i).2 id off ((h i).2 id off e)⟩
def G2.mv{I:Ga}{k k':K}(h:k≠ .out)(h': ∀id off,k≠ .cell id off):G2 I (PI.mv k k' I):=by
 intro i;refine⟨λe=>?_,λid off e=>?_⟩<;>simp only[PI.mv,e]
 .rw[bH (by simpa using Ne.symm h)]
 .rw[bH (by simpa using Ne.symm (h' id off))]
section
variable{P:Program}{J:Nu}{I:Ga}{H:St}{S:PS}{A:Slots}
def ObjR.g2{I':Ga}{id:Nat}{o:kK}(h:ObjR J I H id o)(g: ∀i off,I i=some (.cell id off)->I' i=some (.cell id off)):ObjR J I' H id o:=by
 cases o with
 |box cs=>
  obtain⟨a,us,h1,h2,h3,h4⟩:=h;refine⟨a,us,h1,h2,h3,λi x b u hx hu=>?_⟩
  obtain⟨h5,h6,h7⟩:=h4 i x b u hx hu;exact⟨h5,h6,λhb=>(h7 hb).weak λj hj=>g j i hj⟩
 |_=>exact h
def Mem.g2{I':Ga}{p:PSt}(M:Mem J I p H)(g:G2 I I'):Mem J I' p H:=
 ⟨M.le,M.lt,M.inj,M.live,λid o h=>(M.get id o h).g2 λi off e=>(g i).2 id off e,M.free,M.ver⟩
def FR.put(F:FR J I H S A){v:PV}{u:Value}{own:Bool}(r:R J H v u)(ho:own=true->Ow J I H .hand v u)(d:Option Tmp):
    ∃I',FR J I' H (S.put d v own) (A.store d u)/\G2 I I':=by
 cases d with
 |none=>exact⟨I,F,.refl I⟩
 |some d=>
  refine⟨PI.mv .hand (.slot d) I,λt=>?_,.mv (by simp) (by simp)⟩
  simp only[PS.put,Slots.store,qJ,Dg];by_cases e:t=d
  .subst e;simp only[if_true];exact⟨r,λh=>(ho h).mv⟩
  .simp only[bH e];exact⟨(F t).1,λh=>((F t).2 h).mv_ne (by simp)⟩
def FR.keeps(F:FR J I H S A)(ts:List Nat):FR J I H (keeps S ts) A:=by
 induction ts with
 |nil=>intro k;exact⟨.und _,λh=>by cases h⟩
 |cons t ts ih=>
  intro k;simp only[PI.keeps,qJ];split
  .rename_i e;subst e;exact F k
  .exact ih k
def PH(F:FR J I H S A)(x:Operand)(hx:cG P x=true): ∃I',FR J I' H (mX S x) A/\(iG S x=true->Ow J I' H .hand (cP S x) (ev A x))/\G2 I I'/\∀i k,I i=some (.arg k)->I' i=some (.arg k):=by
 cases x with
 |tmp t=>
  have hF:=F t;simp only[mX,iG,cP,ev];refine⟨PI.mv (.slot t) .hand I,λk=>?_,λh=>?_,.mv (by simp) (by simp),λi k hi=>by simp[PI.mv,hi]⟩
  .rw[qJ];split
   .rename_i hk;subst hk;exact⟨hF.1,λh=>by cases h⟩
   .rename_i hk;exact⟨(F k).1,λh=>((F k).2 h).mv_ne (by simpa using hk)⟩
  .simp only[Bool.or_eq_true]at h;rcases h with h|h
   .exact(hF.2 h).mv
   .have hr:=hF.1;generalize (S.at t).1=v at hr h;generalize A.at t=u at hr;cases v<;>simp only[kM]at h<;>try cases h
    cases hr;exact .nil _
 |const v=>
  refine⟨I,F,λh=>?_,.refl I,λ_ _ h=>h⟩
  cases v with
  |slice a l c=>
   cases a with
   |none=>
    simp only[cG,cK,bN,aC]at hx;have h1:=aE hx.1;have h2:=aE hx.2;subst h1;subst h2;exact .nil _
   |some a=>simp only[iG]at h;cases h
  |_=>simp only[iG]at h;cases h
 |global g=>exact⟨I,F,λh=>(by cases h),.refl I,λ_ _ h=>h⟩
 |func f=>exact⟨I,F,λh=>(by cases h),.refl I,λ_ _ h=>h⟩
def wI(F:FR J I H S A)(x:Operand)(hx:cG P x=true): ∃I',FR J I' H (mX S x) A/\(iG S x=true->Ow J I' H .hand (cP S x) (ev A x))/\G2 I I':=by
 obtain⟨I',h1,h2,h3,_⟩:=PH F x hx;exact⟨I',h1,h2,h3⟩
def uR{P:Program}{a:Array Operand}(h:a.all (cG P)=true):a.toList.all (cG P)=true:=by simpa using h
def Pe(F:FR J I H S A){o:Oper}(ho:o.op.operands.all (cG P)=true){v:PV}{take own:Bool}{S':PS}(h:dX P take S o=some (v,own,S')):
    ∃u I',lL P (ev A) o=some u/\R J H v u/\FR J I' H S' A/\(own=true->Ow J I' H .hand v u)/\G2 I I':=by
 have fin: ∀{x:Option PV},x.map (λv=>(v,false,S))=some (v,own,S')->∀{y:Option Value},(∀v',x=some v'->∃u,y=some u/\R J H v' u)->
      ∃u I',y=some u/\R J H v u/\FR J I' H S' A/\(own=true->Ow J I' H .hand v u)/\G2 I I':=by
  intro x hx y hy;simp only[aF,aB]at hx;obtain⟨v',h1,rfl,rfl,rfl⟩:=hx;obtain⟨u,h2,h3⟩:=hy v' h1;exact⟨u,I,h2,h3,F,λh=>(by cases h),.refl I⟩
 replace ho:=uR ho
 obtain⟨dst,op,ty,pos,af,g⟩:=o;cases op with
 |move x=>
  simp only[Op.operands,aP,List.all_nil,bE]at ho;cases take with
  |true=>
   simp only[dX,aI,aA,aB]at h;obtain⟨rfl,rfl,rfl⟩:=h;obtain⟨I',h1,h2,h3⟩:=wI F x ho;exact⟨_,I',rfl,cX F ho,h1,h2,h3⟩
  |false=>
   simp only[dX,aJ,aA,aB]at h;obtain⟨rfl,rfl,rfl⟩:=h;exact⟨_,I,rfl,cX F ho,F,λh=>(by cases h),.refl I⟩
 |assign x=>
  simp only[Op.operands,aP,List.all_nil,bE]at ho;cases take with
  |true=>
   simp only[dX,aI,aA,aB]at h;obtain⟨rfl,rfl,rfl⟩:=h;obtain⟨I',h1,h2,h3⟩:=wI F x ho;exact⟨_,I',rfl,cX F ho,h1,h2,h3⟩
  |false=>
   simp only[dX,aJ,aA,aB]at h;obtain⟨rfl,rfl,rfl⟩:=h;exact⟨_,I,rfl,cX F ho,F,λh=>(by cases h),.refl I⟩
 |pick c a b=>
  simp only[Op.operands,aP,List.all_nil,bE,aC]at ho;have hc:=cX F ho.1;simp only[dX]at h;simp only[lL];split at h
  .rename_i e2;rw[e2]at hc;simp only[aA,aB]at h;obtain⟨rfl,rfl,rfl⟩:=h;generalize ev A c=w at hc;cases hc;exact⟨_,I,rfl,cX F ho.2.1,F,λh=>(by cases h),.refl I⟩
  .rename_i e2;rw[e2]at hc;simp only[aA,aB]at h;obtain⟨rfl,rfl,rfl⟩:=h;generalize ev A c=w at hc;cases hc;exact⟨_,I,rfl,cX F ho.2.2,F,λh=>(by cases h),.refl I⟩
  .cases h
 |build t parts=>
  simp only[dX]at h;refine fin h λv' hv=>aAk ?_ hv
  have:=PRs.of (P:=P) F (parts:=parts.toList) (by simpa [Op.operands]using ho)
  simpa using this
 |nilCheck x=>
  simp only[Op.operands,aP,List.all_nil,bE]at ho;have hx:=cX F ho;simp only[dX]at h;simp only[lL];split at h
  .rename_i id off e2;rw[e2]at hx;simp only[aA,aB]at h;obtain⟨rfl,rfl,rfl⟩:=h;generalize ev A x=w at hx⊢;cases hx with
   |ptr _ _ a hν=>exact⟨_,I,rfl,.ptr _ _ _ hν,F,λh=>(by cases h),.refl I⟩
   |ptr0 _ _ a hν=>exact⟨_,I,rfl,.ptr0 _ _ _ hν,F,λh=>(by cases h),.refl I⟩
  .rename_i es i off e2;rw[e2]at hx;simp only[aA,aB]at h;obtain⟨rfl,rfl,rfl⟩:=h;generalize ev A x=w at hx⊢;cases hx with
   |pin z _ _ _ id base rcs m hs hr hb2 hh=>exact⟨_,I,rfl,.pin z es i _ id base rcs m hs hr hb2 hh,F,λh=>(by cases h),.refl I⟩
  .cases h
 |binOp op t x y ty=>
  simp only[dX]at h;simp only[Op.operands,aP,List.all_nil,bE,aC]at ho;exact fin h λv' hv=>aKF (cX F ho.1) (cX F ho.2) hv
 |unOp op t x=>
  simp only[dX]at h;simp only[Op.operands,aP,List.all_nil,bE]at ho;exact fin h λv' hv=>aWN (cX F ho) hv
 |convert s d x=>
  simp only[dX]at h;simp only[Op.operands,aP,List.all_nil,bE]at ho;exact fin h λv' hv=>aDr (cX F ho) hv
 |makeFunc fn first captured=>
  simp only[Op.operands,Array.toList_append,List.all_append,aC]at ho;cases fn with
  |func f=>
   simp only[dX,aA,aB]at h;obtain⟨rfl,rfl,rfl⟩:=h;have h1:=(Ax F ho.1).wks;have h2:=(Ax F ho.2).wks;refine⟨_,I,rfl,.fn f _ _ _ _ ?_ ?_ ?_ ?_,F,λh=>(by cases h),.refl I⟩
   .simpa using h1.1
   .simpa using h1.2
   .simpa using h2.1
   .simpa using h2.2
  |_=>simp only[dX]at h;cases h
 |fieldAddr s x f=>
  simp only[dX]at h;simp only[Op.operands,aP,List.all_nil,bE]at ho;exact fin h λv' hv=>FW (cX F ho) hv
 |field s x f=>
  simp only[dX]at h;simp only[Op.operands,aP,List.all_nil,bE]at ho;exact fin h λv' hv=>aAi (cX F ho) hv
 |indexAddr t x i=>
  simp only[dX]at h;simp only[Op.operands,aP,List.all_nil,bE,aC]at ho;exact fin h λv' hv=>FV (cX F ho.1) (cX F ho.2) hv
 |index t x i=>
  simp only[dX]at h;simp only[Op.operands,aP,List.all_nil,bE,aC]at ho;exact fin h λv' hv=>aAg (cX F ho.1) (cX F ho.2) hv
 |extract t i=>
  simp only[Op.operands,aP,List.all_nil,bE]at ho;have hx:=cX F ho;simp only[dX]at h;simp only[lL];split at h
  .rename_i vs e2;rw[e2]at hx;obtain⟨us,hu,hl⟩:=hx.tup_inv;cases mu:(take&&Nat.beq i 0)with
   |false=>
    rw[mu,aJ]at h;simp only[hu];refine fin h λv' hv=>?_
    obtain⟨u,h1,h2⟩:=hl.get hv;exact⟨u,by simpa using h1,h2⟩
   |true=>
    rw[mu,aI]at h;simp only[aC,Nat.beq_eq]at mu;obtain⟨_,rfl⟩:=mu;simp only[aF,aB]at h;obtain⟨v',hv,rfl,rfl,rfl⟩:=h;obtain⟨u,h1,h2⟩:=hl.get hv;obtain⟨I',f1,f2,f3⟩:=wI F t ho;refine⟨u,I',by rw[hu];simpa using h1,h2,f1,λhw=>?_,f3⟩
    have:=f2 hw;rw[e2,hu]at this;cases this with
    |tup x xs u' jo _ hh=>
     simp only[aU,aA]at hv;subst hv;have h1':u'=u:=by simpa using h1
     subst h1';exact hh
  .cases h
 |call c=>
  obtain⟨callee,args,argTypes⟩:=c;simp only[Op.operands,Call.operands,Array.toList_append,List.all_append,aC]at ho;simp only[lL];cases callee with
  |builtin b=>
   cases b with
   |len=>
    simp only[dX]at h;simp only[rS];split at h
    .rename_i t x ht hx;simp only[ht,hx];have hxo:cG P x=true:=by
      have:x∈args.toList:=by
       have:=Array.mem_of_getElem? hx;simpa using this
      exact(bJ.1 ho.2) x this
     exact fin h λv' hv=>aKB (cX F hxo) hv
    .cases h
   |min=>
    simp only[dX]at h;simp only[rS];have:=Ax F ho.2;exact fin h λv' hv=>DZ (mx:=false) (by simpa using this) hv
   |max=>
    simp only[dX]at h;simp only[rS];have:=Ax F ho.2;exact fin h λv' hv=>DZ (mx:=true) (by simpa using this) hv
   |_=>simp only[dX]at h;cases h
  |_=>simp only[dX]at h;cases h
 |_=>simp only[dX]at h;cases h
end
end Go.PI
namespace Go.PI
open Go.AI
def GoOut(H:St)(I I':Ga):Prop:= ∀i,H.get i≠none->I i=some .out->I' i=some .out
def GoOut.refl(H:St)(I:Ga):GoOut H I I:=λ_ _ h=>h
def GoOut.trans{H H':St}{I I' I'':Ga}(h:GoOut H I I')(h':GoOut H' I' I'')(hd: ∀a,H'.get a=none->H.get a=none):GoOut H I I'':=λi e hi=>h' i (λe'=>e (hd i e')) (h i e hi)
def G2.out{H:St}{I I':Ga}(g:G2 I I'):GoOut H I I':=λi _ h=>(g i).1 h
def lF{p:PSt}{id:Nat}{o:kK}(h:id<p.next)(k:Nat):(p.upd id o).get k=if k=id then some o else p.get k:=by
 simp only[PSt.get,PSt.upd,Tr.get_set,gW,Bool.cond_decide];by_cases e:k=id
 .subst e;simp[h]
 .simp[e]
def iT{p:PSt}{id:Nat}{o:kK}(h:p.get id=some o):id<p.next:=by
 simp only[PSt.get,gW,Bool.cond_decide]at h;by_cases e:id<p.next
 .exact e
 .simp[e]at h
def LK{p q:Prop}[Decidable p][Decidable q](h: ¬(p/\q)):(decide p&&decide q)=false:=by
 by_cases hp:p<;>by_cases hq:q<;>simp_all
section
variable{P:Program}{J:Nu}{I:Ga}{H:St}{S:PS}{A:Slots}
def JM{z:Nat}{es:List PV}{id off c:Nat}(r:R J H (.sl z es) (.slice (some ⟨id,off,none⟩) es.length c)):R J H (eB z es) (.slice (some ⟨id,off,none⟩) es.length c):=by
 cases es with
 |nil=>cases r with|sl _ _ _ _ _ rcs m hz hs hr hm hb hh=>exact .emp1 _ _ _ _ _ hr
 |cons e es=>exact r
def GM{z:Nat}: ∀{es:List PV} (hs: ∀e∈es,e.cells.length=z) (l:Nat),eY (es.drop l)=(eY es).drop (l*z):=by
 intro es;induction es with
 |nil=>intro hs l;simp[eY]
 |cons e es ih=>
  intro hs l;cases l with
  |zero=>simp
  |succ l=>
   have:=ih (λx hx=>hs x (aG _ hx)) l
   simp only[List.drop_succ_cons,this];simp only[eY,aN];have he:=hs e (by simp)
   have h1:e.cells.drop ((l+1)*z)=[]:=List.drop_eq_nil_of_le (by rw[he,Nat.succ_mul];omega)
   have h2:(l+1)*z-z=l*z:=by rw[Nat.succ_mul];omega
   rw[List.drop_append,h1,he,h2,aW]
def GL{z:Nat}: ∀{es:List PV} (hs: ∀e∈es,e.cells.length=z) (l:Nat),eY (es.take l)=(eY es).take (l*z):=by
 intro es;induction es with
 |nil=>intro hs l;simp[eY]
 |cons e es ih=>
  intro hs l;cases l with
  |zero=>simp[eY]
  |succ l=>
   have:=ih (λx hx=>hs x (aG _ hx)) l
   simp only[eY,List.take_succ_cons,aN]at this⊢;have he:=hs e (by simp)
   have h1:e.cells.take ((l+1)*z)=e.cells:=List.take_of_length_le (by rw[he,Nat.succ_mul];omega)
   have h2:(l+1)*z-z=l*z:=by rw[Nat.succ_mul];omega
   rw[this,List.take_append,h1,he,h2]
def R.sub{z:Nat}{es:List PV}{id off n c:Nat}(r:R J H (.sl z es) (.slice (some ⟨id,off,none⟩) n c)){l h:Nat}(h1:l<=h)(h2:h<=es.length)(c':Nat):
    R J H (eB z ((es.take h).drop l)) (.slice (some ⟨id,off+l*z,none⟩) (h-l) c'):=by
 cases r with
 |sl _ _ _ _ _ rcs m hz hs hr hm hb hh=>
  have hlen:((es.take h).drop l).length=h-l:=by simp;omega
  have hle:(h-l)*z+l*z<=es.length*z:=by rw[<-Nat.add_mul];exact Nat.mul_le_mul_right _ (by omega)
  rw[<-hlen];refine JM (.sl z _ id _ c' rcs m hz (λe he=>hs e (List.mem_of_mem_take (List.mem_of_mem_drop he))) hr hm (by rw[hlen];omega) λi x u hx hu=>?_)
  have ja: ∀e∈es.take h,e.cells.length=z:=λe he=>(hs e (List.mem_of_mem_take he)).1
  rw[GM ja,GL (λe he=>(hs e he).1),List.getElem?_drop,List.getElem?_take]at hx
  split at hx
  .exact hh (l*z+i) x u hx (by rw[<-Nat.add_assoc];exact hu)
  .cases hx
def OR(J:Nu)(H:St)(xs:Option PV)(us:Option Value):Prop:=match xs,us with|some x,some u=>R J H x u|none,none=>True|_,_=>False
def Xb{xs:Option PV}{us:Option Value}{l:Option Value}(h:RR xs=some l)(hr:OR J H xs us):
    us=l/\bN (us.getD (.bool true))=true:=by
 cases xs with
 |none=>
  cases us with
  |none=>simp only[RR,aA]at h;exact⟨h,rfl⟩
  |some u=>exact False.elim hr
 |some x=>
  cases us with
  |none=>exact False.elim hr
  |some u=>
   simp only[RR]at h;split at h
   .rename_i v hv;simp only[aA]at h;subst h;obtain⟨rfl,hp⟩:=pP hv hr;exact⟨rfl,hp⟩
   .cases h
def BE{xs:Option PV}{us:Option Value}{l:Option Int}(h:nU xs=some l)(hr:OR J H xs us):
    nZ us=some l:=by
 cases xs with
 |none=>
  cases us with
  |none=>simp only[nU,aA]at h;subst h;rfl
  |some u=>exact False.elim hr
 |some x=>
  cases us with
  |none=>exact False.elim hr
  |some u=>
   simp only[nU]at h;split at h
   .rename_i e;cases e
   .rename_i k n e;cases e;cases hr;simp only[aA]at h;subst h;rfl
   .cases h
def OR.of(F:FR J I H S A){x:Option Operand}(h: ∀y,x=some y->cG P y=true):OR J H (x.map (cP S)) (x.map (ev A)):=by
 cases x with
 |none=>trivial
 |some y=>exact cX F (h y rfl)
def aAc{p:PSt}(M:Mem J I p H){t:TypeId}{v w:PV}{u:Value}{lo hi mx:Option PV}{mq kq mx':Option Value}{own:Bool}(r:R J H v u)
    (rl:OR J H lo mq) (rh:OR J H hi kq) (rm:OR J H mx mx') (h:kZ P p t v lo hi mx=some (w,own)):
    ∃y,vP P H t u mq kq mx'=some y/\R J H w y/\(own=true->Ow J I H .hand w y):=by
 unfold kZ at h;unfold vP;split at h
 .rename_i e;rw[e];split at h
  .rename_i s l hh _ _ hl kr;cases r with
   |str ba=>
   obtain⟨rfl,dm⟩:=Xb hl rl;obtain⟨rfl,hph⟩:=Xb kr rh;cases mx' with
   |some _=>exact False.elim rm
   |none=>
    simp only[aF,aB]at h;obtain⟨y,hy,rfl,rfl⟩:=h;refine⟨y,?_,.ofV1 (jO hy),λh=>(by cases h)⟩
    simp only[Option.isNone_none,dm,hph,Bool.and_self,aI];exact hy
  .cases h
 .rename_i e he;rw[he];split at h
  .rename_i z l hh m hz hl kr hm;have el:=BE hl rl;have eh:=BE kr rh;have em:=BE hm rm;split at h
   .rename_i id off len;split at h
    .rename_i z' ag cs hg;obtain⟨a,us,h1,h2,_⟩:=M.get id _ hg;cases r with
     |rs0 _ _ _ c a' hν=>rw[hν]at h1;cases h1
     |rs _ _ _ c a' hν=>
      rw[hν]at h1;simp only[aA]at h1;subst h1;cases hc:Nat.beq z z'&&decide (0<=l.getD 0)&&decide (l.getD 0<hh.getD (len:Int))&&decide (hh.getD (len:Int)<=(len:Int))with
      |false=>rw[hc,aJ]at h;cases h
      |true=>
       rw[hc,aI]at h;simp only[aA,aB]at h;obtain⟨rfl,rfl⟩:=h;simp only[aC,aD]at hc;obtain⟨⟨⟨gt,hl0⟩,hlh⟩,so⟩:=hc;have gt:=aE gt;subst gt;have mw:qD H a' z=true:=by
        simp only[qD,row_of_get h2 rfl,cR];simp[eE]
       simp only[hz,el,eh,em,BK,Bool.and_false,Bool.false_and,aJ,mw,aI];rw[show(decide (0<=l.getD 0)&&decide (l.getD 0<=hh.getD (len:Int))&&decide (hh.getD (len:Int)<=(len:Int)))=true by simp;omega]
       simp only[aI,cR];have key: ∀c',R J H (.rs id (off+(l.getD 0).toNat*z) ((hh.getD (len:Int)).toNat-(l.getD 0).toNat)) (.slice (some ⟨a',off+(l.getD 0).toNat*z,none⟩) ((hh.getD (len:Int)).toNat-(l.getD 0).toNat) c'):=λc'=> .rs _ _ _ _ _ hν
       by_cases hA:c=len/\(hh.getD (len:Int)).toNat=len
       .rw[show(decide (c=len)&&decide ((hh.getD (len:Int)).toNat=len))=true by simp[hA.1,hA.2]]
        rw[show decide ((l.getD 0).toNat=len)=false by simp;omega]
        simp only[aI,aJ];refine⟨_,rfl,?_,λh=>(by cases h)⟩
        have:=key (len-(l.getD 0).toNat);rw[hA.2]at this⊢;exact this
       .rw[show(decide (c=len)&&decide ((hh.getD (len:Int)).toNat=len))=false by exact LK hA]
        simp only[aJ];by_cases hB:(hh.getD (len:Int)).toNat=len/\(l.getD 0).toNat=0
        .rw[show(decide ((hh.getD (len:Int)).toNat=len)&&decide ((l.getD 0).toNat=0))=true by simp[hB.1,hB.2]]
         simp only[aI];refine⟨_,rfl,?_,λh=>(by cases h)⟩
         have:=key c;rw[hB.1,hB.2]at this⊢;simpa using this
        .rw[show(decide ((hh.getD (len:Int)).toNat=len)&&decide ((l.getD 0).toNat=0))=false by exact LK hB]
         rw[show decide (l.getD 0<(len:Int))=true by simp;omega]
         simp only[aJ,aI];exact⟨_,rfl,key _,λh=>(by cases h)⟩
    .cases h
   .rename_i z' es;cases r with
    |sl _ _ id off c rcs mm hz1 hs hr hm1 hb hhr=>
     cases hc:Nat.beq z z'&&decide (0<=l.getD 0)&&decide (l.getD 0<=hh.getD (es.length:Int))&&decide (hh.getD (es.length:Int)<=(es.length:Int))with
     |false=>rw[hc,aJ]at h;cases h
     |true=>
      rw[hc,aI]at h;simp only[aA,aB]at h;obtain⟨rfl,rfl⟩:=h;simp only[aC,aD]at hc;obtain⟨⟨⟨gt,hl0⟩,hlh⟩,so⟩:=hc;have gt:=aE gt;subst gt;have mw:qD H id z=true:=by simp only[qD,hr.1,cR,hm1];simp
      simp only[hz,el,eh,em,BK,Bool.and_false,Bool.false_and,aJ,mw,aI];rw[show(decide (0<=l.getD 0)&&decide (l.getD 0<=hh.getD (es.length:Int))&&decide (hh.getD (es.length:Int)<=(es.length:Int)))=true by simp;omega]
      simp only[aI,cR];have r0:R J H (.sl z es) (.slice (some ⟨id,off,none⟩) es.length c):= .sl z es id off c rcs mm hz1 hs hr hm1 hb hhr;have key:=λc'=>R.sub r0 (l:=(l.getD 0).toNat) (h:=(hh.getD (es.length:Int)).toNat) (by omega) (by omega) c'
      by_cases hA:c=es.length/\(hh.getD (es.length:Int)).toNat=es.length
      .rw[show(decide (c=es.length)&&decide ((hh.getD (es.length:Int)).toNat=es.length))=true by simp[hA.1,hA.2]]
       simp only[aI];by_cases hE:(l.getD 0).toNat=es.length
       .rw[show decide ((l.getD 0).toNat=es.length)=true by simp[hE]]
        simp only[aI];refine⟨_,rfl,?_,λh=>(by cases h)⟩
        rw[hA.2,hE,List.drop_eq_nil_of_le (by simp)]
        exact .emp1 _ _ _ _ _ hr
       .rw[show decide ((l.getD 0).toNat=es.length)=false by simp[hE]]
        simp only[aJ];refine⟨_,rfl,?_,λh=>(by cases h)⟩
        have:=key (es.length-(l.getD 0).toNat);rw[hA.2]at this⊢;exact this
      .rw[show(decide (c=es.length)&&decide ((hh.getD (es.length:Int)).toNat=es.length))=false by exact LK hA]
       simp only[aJ];by_cases hB:(hh.getD (es.length:Int)).toNat=es.length/\(l.getD 0).toNat=0
       .rw[show(decide ((hh.getD (es.length:Int)).toNat=es.length)&&decide ((l.getD 0).toNat=0))=true by simp[hB.1,hB.2]]
        simp only[aI];refine⟨_,rfl,?_,λh=>(by cases h)⟩
        have:=key c;rw[hB.1,hB.2]at this⊢;simpa using this
       .rw[show(decide ((hh.getD (es.length:Int)).toNat=es.length)&&decide ((l.getD 0).toNat=0))=false by exact LK hB]
        simp only[aJ];by_cases hE:l.getD 0<(es.length:Int)
        .rw[show decide (l.getD 0<(es.length:Int))=true by simp;omega]
         simp only[aI];exact⟨_,rfl,key _,λh=>(by cases h)⟩
        .rw[show decide (l.getD 0<(es.length:Int))=false by simp;omega]
         simp only[aJ];refine⟨_,rfl,?_,λh=>(by cases h)⟩
         rw[List.drop_eq_nil_of_le (by simp;omega)]
         exact .emp2 _ _ _ _
   .cases hc:decide (0<=l.getD 0)&&decide (l.getD 0<=hh.getD 0)&&decide (hh.getD 0<=0)with
    |false=>rw[hc,aJ]at h;cases h
    |true=>
     rw[hc,aI]at h;simp only[aA,aB]at h;obtain⟨rfl,rfl⟩:=h;simp only[aC,aD]at hc;have vo:mx'=none:=by
      cases mx' with
      |none=>rfl
      |some w=>cases w<;>simp[nZ]at em
     subst vo;cases r with
     |emp0=>
      simp only[hz,el,eh,em,BK,Bool.and_false,Bool.false_and,aJ];rw[show(decide (0<=l.getD 0)&&decide (l.getD 0<=hh.getD ((0:Nat):Int))&&decide (hh.getD ((0:Nat):Int)<=((0:Nat):Int)))=true by simp;omega]
      exact⟨_,rfl,.emp0,λh=>(by cases h)⟩
     |emp1 id off c rcs m hr=>
      simp only[hz,el,eh,em,BK,Bool.and_false,Bool.false_and,aJ];rw[show(decide (0<=l.getD 0)&&decide (l.getD 0<=hh.getD ((0:Nat):Int))&&decide (hh.getD ((0:Nat):Int)<=((0:Nat):Int)))=true by simp;omega]
      have hl0:(l.getD 0).toNat=0:=by omega
      have hh0:(hh.getD ((0:Nat):Int)).toNat=0:=by simp;omega
      simp only[aI,hl0,hh0];cases mw:qD H id z with
      |false=>simp only[aJ];exact⟨_,rfl,.emp1 _ _ _ _ _ hr,λh=>(by cases h)⟩
      |true=>
       simp only[aI];cases gr:Nat.beq c 0&&Nat.beq 0 0 with
       |true=>
        simp only[aI];exact⟨_,rfl,.emp1 _ _ _ _ _ hr,λh=>(by cases h)⟩
       |false=>
        simp only[aJ];exact⟨_,rfl,.emp1 _ _ _ _ _ hr,λh=>(by cases h)⟩
     |emp2 b o s c=>
      simp only[hz,el,eh,em,BK,Bool.and_false,Bool.false_and,aJ];rw[show(decide (0<=l.getD 0)&&decide (l.getD 0<=hh.getD ((0:Nat):Int))&&decide (hh.getD ((0:Nat):Int)<=((0:Nat):Int)))=true by simp;omega]
      exact⟨_,rfl,.emp2 _ _ _ _,λh=>(by cases h)⟩
   .rename_i z' es m';cases r with
    |sl _ _ id off c rcs mm hz1 hs hr hm1 hb hhr=>
     cases hc:Nat.beq z z'&&decide (0<=l.getD 0)&&decide (l.getD 0<hh.getD (es.length:Int))&&decide (hh.getD (es.length:Int)<=(es.length:Int))&&hh.isSome&&decide (hh.getD (es.length:Int)=m')with
     |false=>
      rw[hc,aJ]at h;cases hc2:List.isEmpty es&&(decide (0<=l.getD 0)&&decide (l.getD 0<=hh.getD 0)&&decide (hh.getD 0<=0)&&hh.isSome&&decide (m'=0))with
      |false=>rw[hc2,aJ]at h;cases h
      |true=>
       rw[hc2,aI]at h;simp only[aA,aB]at h;obtain⟨rfl,rfl⟩:=h;simp only[aC,aD,List.isEmpty_iff]at hc2;obtain⟨rfl,⟨⟨⟨hl0,hlh⟩,hh0⟩,xh⟩,rfl⟩:=hc2;have hb:(decide (0<=l.getD 0)&&decide (l.getD 0<=hh.getD ((0:Nat):Int))&&decide (hh.getD ((0:Nat):Int)<=((0:Nat):Int)))=true:=by simp;omega
       have hq:(Nat.beq 0 0&&BK (some 0)&&hh.isSome)=true:=by rw[xh];rfl
       simp only[hz,el,eh,em,aX,hb,hq,aI];exact⟨_,rfl,.emp2 0 0 1 0,λ_=> .zer _ 0 0⟩
     |true=>
      rw[hc,aI]at h;simp only[aA,aB]at h;obtain⟨rfl,rfl⟩:=h;simp only[aC,aD]at hc;obtain⟨⟨⟨⟨⟨gt,hl0⟩,hlh⟩,so⟩,xh⟩,hhm⟩:=hc;have gt:=aE gt;subst gt;have mw:qD H id z=true:=by simp only[qD,hr.1,cR,hm1];simp
      simp only[hz,el,eh,em,BK,Bool.and_false,Bool.false_and,aJ,mw,aI];rw[show(decide (0<=l.getD 0)&&decide (l.getD 0<=hh.getD (es.length:Int))&&decide (hh.getD (es.length:Int)<=(es.length:Int)))=true by simp;omega]
      simp only[aI];rw[show Nat.beq es.length 0=false by rw[cR];exact bG (by omega)]
      simp only[Bool.false_and,aJ];rw[show(decide (hh.getD (es.length:Int)=m')&&decide (l.getD 0<m')&&hh.isSome)=true by simp[xh,hhm];omega]
      simp only[aI];have r0:R J H (.sl z es) (.slice (some ⟨id,off,none⟩) es.length c):= .sl z es id off c rcs mm hz1 hs hr hm1 hb hhr;exact⟨_,rfl,R.sub r0 (by omega) (by omega) _,λ_=> .exact _ _ _ _ rcs mm hr⟩
   .cases hc:decide (0<=l.getD 0)&&decide (l.getD 0<=hh.getD 0)&&decide (hh.getD 0<=0)with
    |false=>rw[hc,aJ]at h;cases h
    |true=>
     rw[hc,aI]at h;simp only[aA,aB]at h;obtain⟨rfl,rfl⟩:=h;simp only[aC,aD]at hc;have vo:mx'=none:=by
      cases mx' with
      |none=>rfl
      |some w=>cases w<;>simp[nZ]at em
     subst vo;cases r with
     |nil=>
      simp only[hz,el,eh,em,BK,Bool.and_false,Bool.false_and,aJ];rw[show(decide (0<=l.getD 0)&&decide (l.getD 0<=hh.getD ((0:Nat):Int))&&decide (hh.getD ((0:Nat):Int)<=((0:Nat):Int)))=true by simp;omega]
      exact⟨_,rfl,.emp0,λh=>(by cases h)⟩
   .rename_i m';cases hc:decide (0<=l.getD 0)&&decide (l.getD 0<=hh.getD 0)&&decide (hh.getD 0<=0)&&hh.isSome&&decide (m'=0)with
    |false=>rw[hc,aJ]at h;cases h
    |true=>
     rw[hc,aI]at h;simp only[aA,aB]at h;obtain⟨rfl,rfl⟩:=h;simp only[aC,aD]at hc;obtain⟨⟨⟨⟨hl0,hlh⟩,hh0⟩,xh⟩,rfl⟩:=hc;have hb:(decide (0<=l.getD 0)&&decide (l.getD 0<=hh.getD ((0:Nat):Int))&&decide (hh.getD ((0:Nat):Int)<=((0:Nat):Int)))=true:=by simp;omega
     have hq:(Nat.beq 0 0&&BK (some 0)&&hh.isSome)=true:=by rw[xh];rfl
     cases r with
     |emp0=>simp only[hz,el,eh,em,hb,hq,aI];exact⟨_,rfl,.emp0,λ_=> .nil _⟩
     |emp1 id off c rcs m hr=>simp only[hz,el,eh,em,hb,hq,aI];exact⟨_,rfl,.emp2 0 0 1 0,λ_=> .zer _ 0 0⟩
     |emp2 b o s c=>simp only[hz,el,eh,em,hb,hq,aI];exact⟨_,rfl,.emp2 0 0 1 0,λ_=> .zer _ 0 0⟩
   .rename_i m';cases hc:decide (0<=l.getD 0)&&decide (l.getD 0<=hh.getD 0)&&decide (hh.getD 0<=0)&&hh.isSome&&decide (m'=0)with
    |false=>rw[hc,aJ]at h;cases h
    |true=>
     rw[hc,aI]at h;simp only[aA,aB]at h;obtain⟨rfl,rfl⟩:=h;simp only[aC,aD]at hc;obtain⟨⟨⟨⟨hl0,hlh⟩,hh0⟩,xh⟩,rfl⟩:=hc;have hb:(decide (0<=l.getD 0)&&decide (l.getD 0<=hh.getD ((0:Nat):Int))&&decide (hh.getD ((0:Nat):Int)<=((0:Nat):Int)))=true:=by simp;omega
     have hq:(Nat.beq 0 0&&BK (some 0)&&hh.isSome)=true:=by rw[xh];rfl
     cases r with
     |nil=>simp only[hz,el,eh,em,hb,hq,aI];exact⟨_,rfl,.emp0,λ_=> .nil _⟩
   .cases h
  .cases h
 .cases h
end
end Go.PI
namespace Go.PI
open Go.AI
section
variable{P:Program}{J J':Nu}{I I1 I':Ga}{H H':St}{S:PS}{A:Slots}
def ObjR.keep{id:Nat}{o:kK}(h:ObjR J I H id o)(kp:Keep J I1 H H')(hm:Mon H J J')(hν:J' id=J id)(bc: ∀a,J id=some (some a)->H'.get a=H.get a)
    (hγ: ∀i off,I i=some (.cell id off)->H.get i≠none->I1 i=some .out/\I' i=some (.cell id off)):ObjR J' I' H' id o:=by
 cases o with
 |box cs=>
  obtain⟨a,us,h1,h2,h3,h4⟩:=h;refine⟨a,us,by rw[hν,h1],by rw[bc a h1,h2],h3,λi x b u hx hu=>?_⟩
  obtain⟨h5,h6,h7⟩:=h4 i x b u hx hu;exact⟨h5.keep kp hm,h6,λhb=>(h7 hb).keep kp hm λj hj hn=>hγ j i hj hn⟩
 |row z ag cs=>
  obtain⟨a,us,h1,h2,h3,h5,h4⟩:=h;exact⟨a,us,by rw[hν,h1],by rw[bc a h1,h2],h3,h5,λi x u hx hu=>(h4 i x u hx hu).keep kp hm⟩
 |map es=>exact h
 |gone=>show J' id=some none;rw[hν];exact h
def FR.keep(F:FR J I H S A)(kp:Keep J I1 H H')(hm:Mon H J J')(hγ: ∀i t,I i=some (.slot t)->H.get i≠none->I1 i=some .out/\I' i=some (.slot t)):FR J' I' H' S A:=
 λt=>⟨(F t).1.keep kp hm,λh=>((F t).2 h).keep kp hm λi hi hn=>hγ i t hi hn⟩
def FR.g(F:FR J I H S A)(hγ: ∀i t,I i=some (.slot t)->I' i=some (.slot t)):FR J I' H S A:=
 λt=>⟨(F t).1,λh=>((F t).2 h).weak λi hi=>hγ i t hi⟩
def Mem.upd{p:PSt}{id:Nat}{o o':kK}(M:Mem J I p H)(ho:p.get id=some o)(hn:ObjR J I' H id o')(hγ: ∀i j off,j≠id->I i=some (.cell j off)->I' i=some (.cell j off)):Mem J I' (p.upd id o') H:=by
 have hid:=iT ho;refine⟨M.le,M.lt,M.inj,λk a hk=>?_,λk ob hk=>?_,M.free,M.ver⟩
 .rw[lF hid];split
  .exact⟨_,rfl⟩
  .exact M.live k a hk
 .rw[lF hid]at hk;split at hk
  .rename_i e;subst e;simp only[aA]at hk;subst hk;exact hn
  .rename_i e;exact(M.get k ob hk).g2 λi off hi=>hγ i k off e hi
def Mem.mark{p:PSt}{id:Nat}{o o':kK}(M:Mem J I p H)(ho:p.get id=some o)(hn:ObjR J I' H id o')(hγ: ∀i j off,j≠id->I i=some (.cell j off)->I' i=some (.cell j off)):Mem J I' (p.mark id o') H:=by
 have M':=M.upd ho hn hγ;exact⟨M'.le,M'.lt,M'.inj,M'.live,M'.get,M'.free,M'.ver⟩
def aDm{p:PSt}(M:Mem J I p H)(F:FR J I H S A){t:TypeId}{a v:PV}{w u:Value}(r:R J H a w)(h:jW P p t a=some v)(hs:CS v=true)(hu:nE P H t w=some u):
    ∃I',Mem J I' (fX p a).1 H/\FR J I' H S A/\((fX p a).2=true->Ow J I' H .hand v u)/\GoOut H I I':=by
 have kv:(fX p a)=(p,false)->∃I',Mem J I' (fX p a).1 H/\FR J I' H S A/\((fX p a).2=true->Ow J I' H .hand v u)/\GoOut H I I':=by
  intro e;rw[e];exact⟨I,M,F,λh=>(by cases h),.refl H I⟩
 cases a with
 |ptr id off=>
  cases hg:p.get id with
  |none=>exact kv (by simp only[fX,hg])
  |some ob=>
   cases ob with
   |box cs=>
    cases hc:cs[off]? with
    |none=>exact kv (by simp only[fX,hg,hc])
    |some c=>
     obtain⟨x,b⟩:=c;cases b with
     |false=>exact kv (by simp only[fX,hg,hc])
     |true=>
      have hobj:=M.get id _ hg;obtain⟨a',us,h1,h2,h3,h4⟩:=hobj;have hw:w= .pointer (some ⟨a',off,none⟩):=by
       cases r with
       |ptr _ _ _ hν=>rw[h1]at hν;simp only[aA]at hν;subst hν;rfl
       |ptr0 _ _ _ hν=>rw[h1]at hν;cases hν
      subst hw;have hvx:v=x/\us[off]?=some u:=by
       simp only[jW,hg]at h;simp only[nE,row_of_get h2 rfl]at hu;unfold qZ at h;split at h
       .split at h
        .rename_i n en;cases hb:Nat.beq (((cs.map (·.1)).drop off).take n).length n with
         |false=>rw[hb,aJ]at h;cases h
         |true=>rw[hb,aI]at h;simp only[aA]at h;subst h;cases hs
        .cases h
       .rename_i e;rw[e]at hu;simp only[List.getElem?_map,hc,aK,aA]at h;exact⟨h.symm,hu⟩
       .cases h
      obtain⟨rfl,hus⟩:=hvx;obtain⟨h5,h6,h7⟩:=h4 off v true u hc hus;have jz:off<cs.length:=by
       rcases Nat.lt_or_ge off cs.length with h'|h'
       .exact h'
       .simp[List.getElem?_eq_none h']at hc
      refine⟨PI.mv (.cell id off) .hand I,?_,?_,?_,?_⟩
      .simp only[fX,hg,hc];refine M.mark hg ⟨a',us,h1,h2,by simpa using h3,λi x b u' hx fy=>?_⟩ λi j o' hj hi=>?_
       .rw[List.getElem?_set]at hx;split at hx
        .rename_i e;subst e;simp only[aA,aB]at hx;obtain⟨rfl,rfl⟩:=hx;rw[hus]at fy;simp only[aA]at fy;subst fy;exact⟨h5,h6,λh=>(by cases h)⟩
        .rename_i e;obtain⟨h8,h9,h10⟩:=h4 i x b u' hx fy;exact⟨h8,h9,λhb=>(h10 hb).mv_ne (by simp;omega)⟩
       .simp only[PI.mv,hi];rw[bH (by simp;intro e;exact absurd e hj)]
      .exact F.g λi t hi=>by simp[PI.mv,hi]
      .intro _;exact(h7 rfl).mv
      .intro i _ hi;simp[PI.mv,hi]
   |_=>exact kv (by simp only[fX,hg])
 |_=>exact kv rfl
def aDn{p p':PSt}(M:Mem J I p H)(F:FR J I H S A){o:Oper}(ho:o.op.operands.all (cG P)=true){take own:Bool}{v:PV}(h:mW P p S o take=some (v,own,p')):
    ∃u I',kQ P H (ev A) o=some u/\R J H v u/\Mem J I' p' H/\FR J I' H S A/\(own=true->Ow J I' H .hand v u)/\GoOut H I I':=by
 replace ho:=uR ho
 obtain⟨dst,op,ty,pos,af,g⟩:=o;cases op with
 |load t a=>
  simp only[Op.operands,aP,List.all_nil,bE]at ho;have ra:=cX F ho;simp only[mW]at h;simp only[kQ];split at h
  .rename_i v' hv;obtain⟨u,hu,hr⟩:=D3 M ra hv;cases hc:take&&CS v' with
   |false=>
    rw[hc,aJ]at h;simp only[aA,aB]at h;obtain⟨rfl,rfl,rfl⟩:=h;exact⟨u,I,hu,hr,M,F,λh=>(by cases h),.refl H I⟩
   |true=>
    rw[hc,aI]at h;simp only[aA,aB]at h;obtain⟨rfl,rfl,rfl⟩:=h;simp only[aC]at hc;obtain⟨I',h1,h2,h3,h4⟩:=aDm M F ra hv hc.2 hu;exact⟨u,I',hu,hr,h1,h2,h3,h4⟩
  .cases h
 |slice t x lo hi mx=>
  simp only[Op.operands,Array.toList_append,List.all_append,aC]at ho;simp only[mW,aF,aB]at h;obtain⟨⟨w,fp⟩,hw,rfl,rfl,rfl⟩:=h;have hl: ∀{y:Option Operand},y.toArray.toList.all (cG P)=true->OR J H (y.map (cP S)) (y.map (ev A)):=by
   intro y hy;cases y with
   |none=>trivial
   |some y=>exact cX F (by simpa using hy)
  obtain⟨y,h1,h2,h3⟩:=aAc M (cX F (P:=P) (by simpa using ho.1.1.1)) (hl ho.1.1.2) (hl ho.1.2) (hl ho.2) hw
  exact⟨y,I,h1,h2,M,F,h3,.refl H I⟩
 |_=>simp only[mW]at h;cases h
def bZ(H:St)(id k:Nat)(o:AObj):(H.put id o).get k=if k=id then some o else H.get k:=by
 simp only[St.get,St.put,Tr.get_set]
def kJ:Ga:=λ_=>some .out
def Keep.put{id:Nat}{o:AObj}(h:H.get id=none):Keep J kJ H (H.put id o):=by
 refine⟨rfl,aS _,λa ha=>?_,λa _ cs m hg=>⟨m.tip,?_,λh=>h,λ_=>rfl⟩⟩
 .rw[bZ]at ha;split at ha
  .cases ha
  .exact ha
 .rw[bZ,bH (by intro e;rw[e,h]at hg;cases hg)];exact hg
def lG{p:PSt}{o:kK}(k:Nat):(p.new o).get k=if k=p.next then some o else p.get k:=by
 simp only[PSt.get,PSt.new,Tr.get_set,gW,Bool.cond_decide];by_cases e:k=p.next
 .subst e;simp
 .simp only[e,if_false];by_cases h:k<p.next
  .simp[h,show k<p.next+1 by omega]
  .simp[h,show¬k<p.next+1 by omega]
def Mem.mk'{p:PSt}{id:Nat}{o:kK}{ob:AObj}(M:Mem J I p H)(F:FR J I H S A)(hf:H.get id=none)(bi:id<H.next)
    (hn: ∀J',J' p.next=some (some id)->Mon H J J'->ObjR J' I (H.put id ob) p.next o):
    ∃J',J' p.next=some (some id)/\Mem J' I (p.new o) (H.put id ob)/\FR J' I (H.put id ob) S A/\Mon H J J'/\(∀k,k<p.next->J' k=J k):=by
 have bz: ∀x,J p.next≠some x:=λx hx=>Nat.lt_irrefl _ (M.le _ _ hx)
 have e1:(λk=>if k=p.next then some (some id)else J k) p.next=some (some id):=by simp
 have gm:Mon H J (λk=>if k=p.next then some (some id)else J k):=by
  refine⟨λk x hk=>?_,λk a hk=>?_⟩
  .by_cases e:k=p.next
   .subst e;exact absurd hk (bz x)
   .simp only[e,if_false];exact .inl hk
  .by_cases e:k=p.next
   .simp only[e,if_true,aA]at hk;subst hk;exact .inr hf
   .simp only[e,if_false]at hk;exact .inl hk
 refine⟨λk=>if k=p.next then some (some id)else J k,e1,⟨λk x hk=>?_,λk a hk=>?_,λi j a hi hj=>?_,λk a hk=>?_,λk ob' hk=>?_,λa ha=>?_,M.ver⟩,?_,gm,λk hk=>bH (by omega)⟩
 .show k<p.next+1
  by_cases e:k=p.next
  .omega
  .simp only[e,if_false]at hk;have:=M.le _ _ hk;omega
 .show a<H.next
  by_cases e:k=p.next
  .simp only[e,if_true,aA]at hk;omega
  .simp only[e,if_false]at hk;exact M.lt _ _ hk
 .have ne: ∀k a,J k=some (some a)->a≠id:=by
   intro k a hk e;subst e;obtain⟨o',gb⟩:=M.live _ _ hk;have:=M.get _ _ gb;cases o' with
   |box cs=>obtain⟨a',us,h1,h2,_⟩:=this;rw[hk]at h1;simp only[aA]at h1;subst h1;rw[hf]at h2;cases h2
   |row z ag cs=>obtain⟨a',us,h1,h2,_⟩:=this;rw[hk]at h1;simp only[aA]at h1;subst h1;rw[hf]at h2;cases h2
   |map es=>exact this.elim
   |gone=>rw[show J k=some none from this]at hk;cases hk
  by_cases e:i=p.next<;>by_cases e':j=p.next
  .omega
  .simp only[e,e',if_true,if_false,aA]at hi hj;subst hi;exact absurd rfl (ne _ _ hj)
  .simp only[e,e',if_true,if_false,aA]at hi hj;subst hj;exact absurd rfl (ne _ _ hi)
  .simp only[e,e',if_false]at hi hj;exact M.inj _ _ _ hi hj
 .rw[lG];by_cases e:k=p.next
  .simp[e]
  .simp only[e,if_false]at hk⊢;exact M.live _ _ hk
 .rw[lG]at hk;by_cases e:k=p.next
  .subst e;simp only[if_true,aA]at hk;subst hk;exact hn _ e1 gm
  .simp only[e,if_false]at hk;refine(M.get k ob' hk).keep (Keep.put hf) gm (by simp[e]) (λa ha=>?_) λi off hi _=>⟨rfl,hi⟩
   rw[bZ,bH];intro e2;subst e2;have:=M.get k ob' hk;cases ob' with
   |box cs=>obtain⟨a',us,h1,h2,_⟩:=this;rw[ha]at h1;simp only[aA]at h1;subst h1;rw[hf]at h2;cases h2
   |row z ag cs=>obtain⟨a',us,h1,h2,_⟩:=this;rw[ha]at h1;simp only[aA]at h1;subst h1;rw[hf]at h2;cases h2
   |map es=>exact this.elim
   |gone=>rw[show J k=some none from this]at ha;cases ha
 .rw[bZ,bH (by have:H.next<=a:=ha;omega)];exact M.free a ha
 .exact F.keep (Keep.put hf) gm λi t hi _=>⟨rfl,hi⟩
def Mem.fz{p:PSt}{id:Nat}{ob:AObj}(M:Mem J I p H)(F:FR J I H S A)(hf:H.get id=none)(bi:id<H.next):
    Mem J I p (H.put id ob)/\FR J I (H.put id ob) S A/\∀k,J k≠some (some id):=by
 have dn: ∀k,J k≠some (some id):=by
  intro k hk;obtain⟨o',gb⟩:=M.live _ _ hk;have:=M.get _ _ gb;cases o' with
  |box cs=>obtain⟨a',us,h1,h2,_⟩:=this;rw[hk]at h1;simp only[aA]at h1;subst h1;rw[hf]at h2;cases h2
  |row z ag cs=>obtain⟨a',us,h1,h2,_⟩:=this;rw[hk]at h1;simp only[aA]at h1;subst h1;rw[hf]at h2;cases h2
  |map es=>exact this.elim
  |gone=>rw[show J k=some none from this]at hk;cases hk
 refine⟨⟨M.le,M.lt,M.inj,M.live,λk o hk=>?_,λa ha=>?_,M.ver⟩,?_,dn⟩
 .refine(M.get k o hk).keep (Keep.put hf) (.refl H J) rfl (λa ha=>?_) λi off hi _=>⟨rfl,hi⟩
  rw[bZ,bH (λe=>dn k (by rw[<-e];exact ha))]
 .rw[bZ,bH (by have:H.next<=a:=ha;omega)];exact M.free a ha
 .exact F.keep (Keep.put hf) (.refl H J) λi t hi _=>⟨rfl,hi⟩
end
end Go.PI
namespace Go.PI
open Go.AI
def WO(xs cs:List PV)(off:Nat)(h:off+xs.length<=cs.length):Bx cs off xs=cs.take off++xs++cs.drop (off+xs.length):=by
 induction xs generalizing cs off with
 |nil=>simp[Bx]
 |cons x xs ih=>
  simp only[aM]at h;simp only[Bx];rw[ih _ _ (by simp;omega)]
  have h1:(cs.set off x).take (off+1)=cs.take off++ [x]:=by
   rw[List.take_add_one,List.take_set_of_le (aS _),List.getElem?_set_self (by omega)];rfl
  have h2:(cs.set off x).drop (off+1+xs.length)=cs.drop (off+(xs.length+1)):=by
   rw[List.drop_set_of_lt (by omega)];congr 1;omega
  rw[h1,h2];simp
def DV(xs cs:List Value)(off:Nat)(h:off+xs.length<=cs.length):gQ cs off xs=cs.take off++xs++cs.drop (off+xs.length):=by
 induction xs generalizing cs off with
 |nil=>simp[gQ]
 |cons x xs ih=>
  simp only[aM]at h;simp only[gQ];rw[ih _ _ (by simp;omega)]
  have h1:(cs.set off x).take (off+1)=cs.take off++ [x]:=by
   rw[List.take_add_one,List.take_set_of_le (aS _),List.getElem?_set_self (by omega)];rfl
  have h2:(cs.set off x).drop (off+1+xs.length)=cs.drop (off+(xs.length+1)):=by
   rw[List.drop_set_of_lt (by omega)];congr 1;omega
  rw[h1,h2];simp
def P3(a b:List PV):eY (a++b)=eY a++eY b:=by simp[eY]
def PZ{s:Nat}{es:List PV}(hs: ∀e∈es,e.cells.length=s){i:Nat}(hi:i<es.length){y:PV}(hy:y.cells.length=s):eY (es.set i y)=Bx (eY es) (i*s) y.cells:=by
 have hle:i*s+s<=es.length*s:=by rw[<-Nat.succ_mul];exact Nat.mul_le_mul_right _ hi
 rw[WO _ _ _ (by rw[hy,iD hs];exact hle),hy,<-GL hs,show i*s+s=(i+1)*s by rw[Nat.succ_mul],<-GM hs]
 rw[List.set_eq_take_append_cons_drop,bI hi];simp[eY]
def mS(x:PV):(wk x).cells=wks x.cells:=by
 cases x with
 |sl z es=>cases es<;>simp[wk,wks,PV.cells]
 |_=>simp[wk,wks,PV.cells]
def kB(xs:List PV):(wks xs).length=xs.length:=by
 induction xs with
 |nil=>rfl
 |cons x xs ih=>simp[wks,ih]
def Q5{x:PV}(h:x.pur=true):(wk x).pur=true:=by
 cases x with
 |sl z es=>cases es<;>rfl
 |_=>first|rfl|simp[PV.pur]at h
def CZ{xs:List PV}(h:xs.all PV.pur=true):(wks xs).all PV.pur=true:=by
 induction xs with
 |nil=>rfl
 |cons x xs ih=>
  simp only[aP,aC]at h;simp only[wks,aP,aC];exact⟨Q5 h.1,ih h.2⟩
def C6{x:PV}(h:x.pur=true):x.one=true:=by cases x<;>first|rfl|simp[PV.pur]at h
def uL{xs:List PV}(h:xs.all PV.pur=true):xs.all PV.one=true:=by
 rw[bJ]at h⊢;exact λx hx=>C6 (h x hx)
def Pz{xs:List Value}(h:xs.all bN=true):(ofVs xs).all PV.pur=true:=by
 induction xs with
 |nil=>rfl
 |cons x xs ih=>
  simp only[aP,aC]at h;simp only[PI.ofVs,aP,aC];refine⟨?_,ih h.2⟩;have h1:=h.1;cases x with
  |slice a l c=>cases a<;>first|rfl|simp[bN]at h1
  |_=>first|rfl|simp[bN]at h1
section
variable{P:Program}{J J':Nu}{I I1 I':Ga}{H H':St}{S:PS}{A:Slots}
def aES{k:Nat->K}{xs:List PV}{us:List Value}(r:RL J H xs us)(h1:xs.all PV.one=true){i:Nat}{x:PV}{b:Bool}{u:Value}(hx:(xs.map λc=>fl c false)[i]?=some (x,b))(hu:us[i]?=some u):
    R J H x u/\x.one=true/\(b=true->Ow J I H (k i) x u):=by
 rw[List.getElem?_map]at hx;cases hc:xs[i]? with
 |none=>rw[hc]at hx;cases hx
 |some c=>
  rw[hc]at hx;simp only[aK,aA]at hx;have hr:=r.2 i c u hc hu;have ho:=(bJ.1 h1) c (iH hc);cases c<;>simp only[fl,aB]at hx<;>obtain⟨rfl,rfl⟩:=hx<;>first|(exact⟨hr,ho,λh=>(by cases h)⟩)|skip
  cases hr;exact⟨.emp0,rfl,λ_=> .nil _⟩
def RL.zeros{z:List PV}{w:List Value}(r:RL J H z w)(n:Nat):RL J H (iY z n) (eI w n):=by
 induction n with
 |zero=>exact .nil
 |succ n ih=>exact r.append ih
def P0(x:PV)(n:Nat):eY (nO x n)=iY x.cells n:=by
 induction n with
 |zero=>rfl
 |succ n ih=>simp only[nO,iY,<-ih];simp[eY]
def FT(x:PV)(n:Nat):(nO x n).length=n:=by
 induction n with
 |zero=>rfl
 |succ n ih=>simp[nO,ih]
def Rj{x y:PV}{n:Nat}(h:y∈nO x n):y=x:=by
 induction n with
 |zero=>simp[nO]at h
 |succ n ih=>simp only[nO,List.mem_cons]at h;exact h.elim id ih
def uE{a:Bool}{s:Nat}{x:PV}(h:shape a s x=true):x.cells.length=s/\x.cells.all PV.pur=true:=by
 cases x<;>simp only[shape,aC]at h
 case agg cs=>exact⟨aE h.1.2,h.2⟩
 all_goals
  refine⟨(aE h.1.2).symm,?_⟩;simp only[PV.cells,aP,List.all_nil,bE];exact h.2
def OG{a:Bool}{s:Nat}: ∀(ps:List (Nat×PV)) (qs:List (Nat×Value)) (es es':List PV) (B:Array Value),PRs J H ps qs->(∀e∈es,e.cells.length=s/\e.cells.all PV.pur=true)->RL J H (eY es) B.toList->
    oP a s es ps=some es'->∃B',Instr.fill (λi=>some (i*s,s)) B qs=some B'/\RL J H (eY es') B'.toList/\(∀e∈es',e.cells.length=s/\e.cells.all PV.pur=true)/\es'.length=es.length:=by
 intro ps;induction ps with
 |nil=>
  intro qs es es' B hp hs hB h;have:qs=[]:=by have:=hp.1;simpa using this.symm
  subst this;simp only[oP,aA]at h;subst h;exact⟨B,rfl,hB,hs,rfl⟩
 |cons q ps ih=>
  intro qs es es' B hp hs hB h;obtain⟨i,x⟩:=q;cases qs with
  |nil=>have:=hp.1;simp at this
  |cons q' qs=>
   obtain⟨i',u⟩:=q';have h1:=hp.1;simp only[aO,List.cons.injEq]at h1;obtain⟨rfl,h1⟩:=h1;have h2:=hp.2;simp only[aO]at h2;obtain⟨u',jo,he,hx,hr⟩:=h2.cons_inv;simp only[List.cons.injEq]at he;obtain⟨rfl,rfl⟩:=he;simp only[oP]at h;cases hc:Nat.blt i es.length&&shape a s x with
   |false=>rw[hc,aJ]at h;cases h
   |true=>
    rw[hc,aI]at h;simp only[aC,gW,aD]at hc;obtain⟨gu,hxp⟩:=uE hc.2;have hcs:=hx.cells (uL hxp);have hcw:=hcs.wks;have cy: ∀e∈es,e.cells.length=s:=λe he=>(hs e he).1
    have hle:i*s+s<=es.length*s:=by rw[<-Nat.succ_mul];exact Nat.mul_le_mul_right _ hc.1
    have gi:u.cells.size=s:=by have:=hcs.1;simp at this;omega
    have hBl:B.size=es.length*s:=by have:=hB.1;rw[iD cy]at this;simpa using this.symm
    simp only[Instr.fill];rw[bH (by simp[gi];omega)]
    have mg:(wk x).cells.length=s:=by rw[mS,kB,gu]
    obtain⟨B',hB1,hB2,hB3,hB4⟩:=ih qs (es.set i (wk x)) es' (u.cells.zipIdx.foldl (λcs (c,j)=>cs.setIfInBounds (i*s+j) c) B) ⟨h1,hr⟩ (λe he=>by
            rcases List.mem_or_eq_of_mem_set he with h'|h'
            · exact hs e h'
            · subst h';exact⟨mg,by rw[mS];exact CZ hxp⟩) (by
            have:=PY (J:=J) (H:=H) (i*s) (wks x.cells) u.cells.toList 0 (eY es) B hcw hB;rw[PZ cy hc.1 mg,mS];rw[<-Array.foldl_toList,Array.toList_zipIdx];exact this) h
    exact⟨B',hB1,hB2,hB3,by simpa using hB4⟩
def aAn{p p':PSt}{id:Nat}(M:Mem J I p H)(F:FR J I H S A)(hf:H.get id=none)(bi:id<H.next){o:Oper}(ho:o.op.operands.all (cG P)=true){v:PV}{own:Bool}
    (h:fB P p S o=some (v,own,p')):
    ∃u ob J' I',gZ P (ev A) o id=some (u,ob)/\R J' (H.put id ob) v u/\Mem J' I' p' (H.put id ob)/\FR J' I' (H.put id ob) S A/\(own=true->Ow J' I' (H.put id ob) .hand v u)/\
      Mon H J J'/\GoOut H I I'/\p.next<=p'.next/\(∀k,k<p.next->J' k=J k)/\(p'.dirty=p.dirty/\p'.wr=p.wr)/\(∀k,k<p.next->p'.mem.get k=p.mem.get k):=by
 replace ho:=uR ho
 have go:GoOut H I I:= .refl H I;have hnm: ∀(ob:kK) (k:Nat),k<p.next->(p.new ob).mem.get k=p.mem.get k:=λob k hk=>by simp only[PSt.new,Tr.get_set];rw[bH (by omega)]
 obtain⟨dst,op,ty,pos,af,g⟩:=o;cases op with
 |alloc t=>
  simp only[fB]at h;split at h
  .rename_i z hz;obtain⟨w,hw,hp,rfl⟩:=rV hz;simp only[aA,aB]at h;obtain⟨rfl,rfl,rfl⟩:=h;obtain⟨J',h1,h2,h3,h4,h5⟩:=M.mk' (o:= .box ((ofVs w.cells.toList).map λc=>fl c false)) (ob:= .cells w.cells.toList boxMeta) F hf bi λJ' h1 _=>
    ⟨id,w.cells.toList,h1,by rw[bZ,bI rfl],by simp[uS],λi x b u hx hu=>aES (k:=λi=> .cell p.next i) (.ofVs hp) (PA hp) hx hu⟩
   exact⟨_,_,J',I,by simp only[gZ,hw,hp,aI],.ptr _ _ _ h1,h2,h3,λh=>(by cases h),h4,go,by simp[PSt.new],h5,⟨rfl,rfl⟩,hnm _⟩
  .cases h
 |box t x=>
  simp only[Op.operands,aP,List.all_nil,bE]at ho;have rx:=cX F ho;simp only[fB]at h;cases hc:(cP S x).cells.all PV.one with
  |false=>rw[hc,aJ]at h;cases h
  |true=>
   rw[hc,aI]at h;simp only[aA,aB]at h;obtain⟨rfl,rfl,rfl⟩:=h;have hcs:=rx.cells hc;obtain⟨J',h1,h2,h3,h4,h5⟩:=M.mk' (o:= .box ((cP S x).cells.map λc=>fl c false)) (ob:= .cells (ev A x).cells.toList boxMeta) F hf bi λJ' h1 hm=>
    ⟨id,(ev A x).cells.toList,h1,by rw[bZ,bI rfl],by rw[List.length_map];exact hcs.1.symm,λi y b u hx hu=>aES (k:=λi=> .cell p.next i) (hcs.keep (Keep.put hf) hm) hc hx hu⟩
   exact⟨_,_,J',I,by simp only[gZ,hcs.one hc,aI],.ptr _ _ _ h1,h2,h3,λh=>(by cases h),h4,go,by simp[PSt.new],h5,⟨rfl,rfl⟩,hnm _⟩
 |buildSlice t len parts=>
  simp only[fB]at h;simp only[gZ];split at h
  .rename_i e he;simp only[he];split at h
   .rename_i s a z hs ha hz;obtain⟨w,hw,hp,rfl⟩:=rV hz;simp only[hs,hw];cases hc:Nat.ble (len*s) 1000000&&Nat.beq (ofVs w.cells.toList).length s&&Nat.ble 1 s&&(a||Nat.beq s 1)with
    |false=>rw[hc,aJ]at h;cases h
    |true=>
     rw[hc,aI]at h;simp only[aC]at hc;obtain⟨⟨⟨hc1,hc2⟩,hc3⟩,hc4⟩:=hc;have mg:w.cells.toList.length=s:=by have:=aE hc2;rw[uS]at this;exact this
     split at h
     .rename_i es pz;simp only[aA,aB]at h;obtain⟨rfl,rfl,rfl⟩:=h;have hzc:(bif a then PV.agg (ofVs w.cells.toList)else(ofVs w.cells.toList).headD .und).cells=ofVs w.cells.toList:=by
       cases a with
       |true=>rfl
       |false=>
        simp only[Bool.false_or]at hc4;have hs1:=aE hc4;simp only[aJ];cases hl:w.cells.toList with
        |nil=>rw[hl]at mg;simp at mg;omega
        |cons y ys=>
         have:ys=[]:=by rw[hl]at mg;simp at mg;exact List.eq_nil_of_length_eq_zero (by omega)
         subst this;rw[hl]at hp;have:=PA hp;simp only[PI.ofVs,aP,List.all_nil,bE]at this;simp only[PI.ofVs,List.headD_cons];exact BS this
      have kn:PRs J H (parts.toList.map λ(i,x)=>(i,cP S x)) (parts.toList.map λ(i,x)=>(i,ev A x)):=PRs.of (P:=P) F (by simpa [Op.operands]using ho)
      have hzero:RL J H (eY (nO (wk (bif a then PV.agg (ofVs w.cells.toList)else(ofVs w.cells.toList).headD .und)) len)) (eI w.cells.toList len).toArray.toList:=by
       rw[P0,mS,hzc];simpa using RL.zeros (RL.wks (RL.ofVs hp)) len
      obtain⟨B',hB1,hB2,hB3,hB4⟩:=OG (a:=a) (s:=s) _ _ _ es _ kn (λe he=>by
                rw[Rj he,mS,hzc,kB,uS];exact⟨mg,CZ (Pz hp)⟩) hzero pz
      rw[FT]at hB4;obtain⟨M',F',dn⟩:=M.fz (ob:= .cells B'.toList (eE s)) F hf bi;have bh:Fz J (H.put id (.cells B'.toList (eE s))) id B'.toList (eE s):=⟨row_of_get (by rw[bZ,bI rfl]) rfl,dn⟩
      refine⟨.slice (some ⟨id,0,none⟩) len len,.cells B'.toList (eE s),J,I,?_,?_,M',F',λ_=> .exact _ _ _ _ _ _ bh,.refl H J,go,aS _,λ_ _=>rfl,⟨rfl,rfl⟩,λ_ _=>rfl⟩
      .rw[show(w.cells.toList.all bN&&Nat.ble (len*s) 1000000&&Nat.beq w.cells.size s&&Nat.ble 1 s)=true by
        simp only[hp,hc1,hc3,Bool.true_and,bE];rw[cR];simpa using mg]
       simp only[aI];rw[Array.toList_map,hB1];rfl
      .rw[<-hB4];refine JM (.sl s es id 0 es.length B'.toList (eE s) (bK hc3) hB3 bh rfl ?_ λi x u hx hu=>?_)
       .have:=hB2.1;rw[iD (λe he=>(hB3 e he).1)]at this;omega
       .rw[Nat.zero_add]at hu;exact(hB2.2 i x u hx hu).keep (Keep.put hf) (.refl H J)
     .cases h
   .cases h
  .cases h
 |makeSlice t l c=>
  simp only[Op.operands,aP,List.all_nil,bE,aC]at ho;have rl:=cX F ho.1;have rc:=cX F ho.2;simp only[fB]at h;simp only[gZ];split at h
  .rename_i e n k he hl mc;rw[hl]at rl;rw[mc]at rc;generalize ev A l=ul at rl⊢;generalize ev A c=uc at rc⊢;cases rl;cases rc;simp only[he];split at h
   .rename_i info a hi ha;simp only[hi];split at h
    .rename_i z hz;simp only[hz];cases hc:decide (0<=n)&&decide (n<=k)&&decide (k*(info.bytes:Int)<=1073741824)&&decide (k<=1073741824)&&z.cells.toList.all bN&&Nat.beq z.cells.size info.size&&Nat.ble 1 info.size&&(a||Nat.beq info.size 1)with
     |false=>rw[hc,aJ]at h;cases h
     |true=>
      rw[hc,aI]at h;have mc:=hc;simp only[aC]at hc;rw[show(decide (0<=n)&&decide (n<=k)&&decide (k*(info.bytes:Int)<=1073741824)&&decide (k<=1073741824)&&z.cells.toList.all bN&&Nat.beq z.cells.size info.size&&Nat.ble 1 info.size)=true by
       simp only[hc.1.1.1.1.1.1.1,hc.1.1.1.1.1.1.2,hc.1.1.1.1.1.2,hc.1.1.1.1.2,hc.1.1.1.2,hc.1.1.2,hc.1.2,Bool.and_self]]
      simp only[aI];by_cases hn0:n=0
      .subst hn0;simp only[decide_true,aI,aA,aB]at h;obtain⟨rfl,rfl,rfl⟩:=h;by_cases hk:(0:Int)=k
       .simp only[hk,decide_true,aI];rw[<-hk];obtain⟨M',F',dn⟩:=M.fz (ob:= .cells [] (eE info.size)) F hf bi;have bh:Fz J (H.put id (.cells [] (eE info.size))) id [] (eE info.size):=⟨row_of_get (by rw[bZ,bI rfl]) rfl,dn⟩
        refine⟨.slice (some ⟨id,0,none⟩) 0 0,.cells [] (eE info.size),J,I,rfl,?_,M',F',λ_=> .exact _ _ _ _ _ _ bh,.refl H J,go,aS _,(by simp),(by simp),(by simp)⟩
        exact .sl info.size [] id 0 0 [] _ (bK hc.1.2) (λe he=>by simp at he) bh rfl (by simp) (λi x u hx=>by simp[eY]at hx)
       .simp only[hk,decide_false,aJ];obtain⟨M',F',dn⟩:=M.fz (ob:= .cells [] {wr:=true,tip:=true,z:=info.size,grp:=some (id,0)}) F hf bi;have bf:(H.put id (.cells [] {wr:=true,tip:=true,z:=info.size,grp:=some (id,0)})).good {wr:=true,tip:=true,z:=info.size,grp:=some (id,0)}=true:=by
         show Nat.beq (H.ver id) 0=true;rw[M.ver id];rfl
        have bh:Fz J (H.put id (.cells [] {wr:=true,tip:=true,z:=info.size,grp:=some (id,0)})) id [] {wr:=true,tip:=true,z:=info.size,grp:=some (id,0)}:=⟨row_of_get (by rw[bZ,bI rfl]) bf,dn⟩
        refine⟨.slice (some ⟨id,0,none⟩) 0 1,.cells [] _,J,λi=>if i=id then some .hand else I i,rfl,?_,?_,?_,λ_=>?_,.refl H J,?_,aS _,(by simp),(by simp),(by simp)⟩
        .exact .sl info.size [] id 0 1 [] _ (bK hc.1.2) (λe he=>by simp at he) bh rfl (by simp) (λi x u hx=>by simp[eY]at hx)
        .refine⟨M'.le,M'.lt,M'.inj,M'.live,λk o hk=>?_,M'.free,M'.ver⟩
         refine(M.get k o hk).keep (I1:=kJ) (Keep.put hf) (.refl H J) rfl (λa ha=>?_) λi off hi hn=>⟨rfl,?_⟩
         .rw[bZ,bH (λe=>dn k (by rw[<-e];exact ha))]
         .show(if i=id then some K.hand else I i)=_
          rw[bH (λe=>hn (by rw[e];exact hf))];exact hi
        .refine F.keep (I1:=kJ) (Keep.put hf) (.refl H J) λi t hi hn=>⟨rfl,?_⟩
         show(if i=id then some K.hand else I i)=_
         rw[bH (λe=>hn (by rw[e];exact hf))];exact hi
        .exact .tip info.size [] id 0 1 [] _ bh rfl rfl rfl (by simp) (by simp)
        .intro i hn hi;show(if i=id then some K.hand else I i)=some K.out;rw[bH (λe=>hn (by rw[e];exact hf))];exact hi
      .by_cases hnk:n=k
       .subst hnk;simp only[hn0,decide_false,aJ,decide_true,aI,aA,aB]at h;obtain⟨rfl,rfl,rfl⟩:=h;simp only[decide_true,aI];have dm:=hc.1.1.1.2;have kg:RL J H (iY (wks (ofVs z.cells.toList)) n.toNat) (eI z.cells.toList n.toNat):=RL.zeros (RL.wks (RL.ofVs dm)) _;obtain⟨J',h1,h2,h3,h4,h5⟩:=M.mk' (o:= .row info.size a (iY (wks (ofVs z.cells.toList)) n.toNat)) (ob:= .cells (eI z.cells.toList n.toNat) (eE info.size)) F hf bi λJ' h1 hm=>
         ⟨id,eI z.cells.toList n.toNat,h1,by rw[bZ,bI rfl],kg.1.symm,by
          rw[bJ];intro x hx;have: ∀m,x∈iY (wks (ofVs z.cells.toList)) m->x∈wks (ofVs z.cells.toList):=by
           intro m;induction m with
           |zero=>intro h;simp[iY]at h
           |succ m ih=>intro h;simp only[iY,List.mem_append]at h;exact h.elim (λh=>h) ih
          exact(bJ.1 (uL (CZ (Pz dm)))) x (this _ hx),λi x u hx hu=>(kg.2 i x u hx hu).keep (Keep.put hf) hm⟩
        exact⟨_,_,J',I,rfl,.rs _ _ _ _ _ h1,h2,h3,λh=>(by cases h),h4,go,by simp[PSt.new],h5,⟨rfl,rfl⟩,hnm _⟩
       .simp only[hn0,hnk,decide_false,aJ]at h;cases h
    .cases h
   .cases h
  .cases h
 |_=>simp only[fB]at h;cases h
end
end Go.PI
namespace Go.PI
open Go.AI
section
variable{P:Program}{J J':Nu}{I I1 I':Ga}{H H':St}{S:PS}{A:Slots}
def Keep.weak(k:Keep J I1 H H')(h: ∀a,I a=some .out->I1 a=some .out):Keep J I H H':=
 ⟨k.vers,k.next,k.dom,λa hn cs m hg=>by
  obtain⟨b,h1,h2,h3⟩:=k.row a hn cs m hg;exact⟨b,h1,h2,λhh=>h3 (h a hh)⟩⟩
def Keep.trans{H'':St}(k:Keep J I H H')(hm:Mon H J J')(k':Keep J' I' H' H'')(hg:GoOut H I I'):Keep J I H H'':=by
 refine⟨k'.vers.trans k.vers,Nat.le_trans k.next k'.next,λa ha=>k.dom a (k'.dom a ha),λa hn cs m bc=>?_⟩
 obtain⟨b,h1,h2,h3⟩:=k.row a hn cs m bc;obtain⟨b',h4,h5,h6⟩:=k'.row a (λj hj=>by
  rcases hm.2 j a hj with e|e
  .exact hn j e
  .rw[bc]at e;cases e) cs _ h1
 refine⟨b',h4,λht=>h5 (h2 ht),λho=>?_⟩
 rw[h6 (hg a (by rw[bc];simp) ho)]
 exact h3 ho
def Keep.write{id a:Nat}{o:AObj}(hν:J id=some (some a))(hd:H.get a≠none):Keep J kJ H (H.put a o):=by
 refine⟨rfl,aS _,λk hk=>?_,λk hn cs m hg=>⟨m.tip,?_,λh=>h,λ_=>rfl⟩⟩
 .rw[bZ]at hk;split at hk
  .cases hk
  .exact hk
 .rw[bZ,bH (λe=>hn id (by rw[e];exact hν))];exact hg
def Mem.write{p:PSt}{id a:Nat}{o:kK}{ob ob':AObj}(M:Mem J I p H)(F:FR J I H S A)(hν:J id=some (some a))(hg:H.get a=some ob)(hp: ∃o',p.get id=some o')
    (hn:ObjR J I' (H.put a ob') id o) (hγ: ∀i j off,j≠id->I i=some (.cell j off)->I' i=some (.cell j off)) (hs: ∀i t,I i=some (.slot t)->I' i=some (.slot t)):
    Mem J I' (p.upd id o) (H.put a ob')/\FR J I' (H.put a ob') S A:=by
 have kp:Keep J kJ H (H.put a ob'):=Keep.write hν (by rw[hg];simp)
 obtain⟨o',gb⟩:=hp;have hid:=iT gb;refine⟨⟨M.le,M.lt,M.inj,λk a hk=>?_,λk ob2 hk=>?_,λk hk=>?_,M.ver⟩,F.keep kp (.refl H J) λi t hi _=>⟨rfl,hs i t hi⟩⟩
 .rw[lF hid];split
  .exact⟨_,rfl⟩
  .exact M.live k a hk
 .rw[lF hid]at hk;split at hk
  .rename_i e;subst e;simp only[aA]at hk;subst hk;exact hn
  .rename_i e;refine(M.get k ob2 hk).keep kp (.refl H J) rfl (λa' cx=>?_) λi off hi _=>⟨rfl,hγ i k off e hi⟩
   rw[bZ,bH (λe2=>e (M.inj k id a (by rw[<-e2];exact cx) hν))]
 .rw[bZ,bH (λe=>by subst e;have:=M.lt _ _ hν;have h2:H.next<=k:=hk;omega)];exact M.free k hk
def sQ{N:Type}{cs xs:List N}{off i:Nat}{x:N}(h:off+xs.length<=cs.length)(hi:(cs.take off++xs++cs.drop (off+xs.length))[i]?=some x):
    (i<off/\cs[i]?=some x)∨(off<=i/\i<off+xs.length/\xs[i-off]?=some x)∨(off+xs.length<=i/\cs[i]?=some x):=by
 have hl:(cs.take off).length=off:=by simp;omega
 rcases Nat.lt_or_ge i off with h1|h1
 .left;rw[aQ,List.getElem?_append_left (by omega),List.getElem?_take,bI h1]at hi
  exact⟨h1,hi⟩
 .rcases Nat.lt_or_ge i (off+xs.length)with h2|h2
  .right;left;rw[aQ,List.getElem?_append_right (by omega),hl,List.getElem?_append_left (by omega)]at hi
   exact⟨h1,h2,hi⟩
  .right;right;rw[List.getElem?_append_right (by simp;omega),List.getElem?_drop]at hi
   refine⟨h2,?_⟩;rw[<-hi];congr 1;simp;omega
def JV{id:Nat}{l:List Nat}:id∈FK id l:=by
 unfold FK;cases h:l.contains id with
 |true=>simpa using h
 |false=>simp
def aAb{p p':PSt}(M:Mem J I p H)(F:FR J I H S A){t:TypeId}{a x:PV}{w u:Value}{own:Bool}(ra:R J H a w)(rx:R J H x u)(kx:own=true->Ow J I H .hand x u)(h:oR P p t a x own=some p'):
    ∃H' I',eT P H t w u=some H'/\Mem J I' p' H'/\FR J I' H' S A/\Keep J I H H'/\GoOut H I I'/\p'.next=p.next/\H'.next=H.next/\(∃i0 a0,J i0=some (some a0)/\i0∈p'.wr/\∀b,b≠a0->H'.get b=H.get b):=by
 cases a<;>simp only[oR]at h<;>try cases h
 rename_i id off;split at h
 .rename_i cs n hg hn;cases hc:Nat.beq x.cells.length n&&Nat.ble (off+n) cs.length&&x.cells.all PV.one with
  |false=>rw[hc,aJ]at h;cases h
  |true=>
   rw[hc,aI]at h;simp only[aA]at h;subst h;simp only[aC]at hc;obtain⟨⟨hc1,hc2⟩,hc3⟩:=hc;have gu:=aE hc1;have hle:=bK hc2;have hcs:=rx.cells hc3;obtain⟨a',us,h1,h2,h3,h4⟩:=M.get id _ hg;have hw:w= .pointer (some ⟨a',off,none⟩):=by
    cases ra with
    |ptr _ _ _ hν=>rw[h1]at hν;simp only[aA]at hν;subst hν;rfl
    |ptr0 _ _ _ hν=>rw[h1]at hν;cases hν
   subst hw;have gi:u.cells.toList.length=n:=by rw[<-hcs.1,gu]
   have cf:eT P H t (.pointer (some ⟨a',off,none⟩)) u=some (H.put a' (.cells (gQ us off u.cells.toList) boxMeta)):=by
    simp only[eT,row_of_get h2 rfl,hn];rw[show(boxMeta.wr&&Nat.beq u.cells.size n&&Nat.ble (off+n) us.length&&u.cells.toList.all one)=true by
     rw[hcs.one hc3,cR,BF];simp only[Array.length_toList]at gi;simp[boxMeta,gi,h3,hle]]
    rfl
   have dj:=DV u.cells.toList us off (by rw[gi,h3];exact hle)
   have hkp:Keep J kJ H (H.put a' (.cells (gQ us off u.cells.toList) boxMeta)):=Keep.write h1 (by rw[h2];simp)
   have hobj: ∀I',(∀i k,I i=some (.cell id k)->I' i=some (.cell id k))->(∀i,own=true->I i=some .hand->I' i=some (.cell id off))->
          ObjR J I' (H.put a' (.cells (gQ us off u.cells.toList) boxMeta)) id (.box (cs.take off++x.cells.map (λc=>fl c own)++cs.drop (off+n))):=by
    intro I' hγ hγ2;refine⟨a',gQ us off u.cells.toList,h1,by rw[bZ,bI rfl],?_,λi y b v hy hv=>?_⟩
    .rw[dj];simp[h3];simp only[Array.length_toList]at gi;omega
    .rw[show off+n=off+(x.cells.map λc=>fl c own).length by simp[gu]]at hy
     rw[dj,gi]at hv;rw[show off+n=off+u.cells.toList.length by rw[gi]]at hv
     have nt:=sQ (by simp[gu];exact hle) hy
     have fc:=sQ (by rw[gi,h3];exact hle) hv
     rw[List.length_map,gu]at nt;rw[gi]at fc;rcases nt with⟨e1,e2⟩|⟨e1,e2,e3⟩|⟨e1,e2⟩
     .rcases fc with⟨f1,f2⟩|⟨f1,f2,f3⟩|⟨f1,f2⟩
      .obtain⟨g1,g2,g3⟩:=h4 i y b v e2 f2;exact⟨g1.keep hkp (.refl H J),g2,λhb=>(g3 hb).keep hkp (.refl H J) λj hj _=>⟨rfl,hγ j i hj⟩⟩
      .omega
      .omega
     .rcases fc with⟨f1,f2⟩|⟨f1,f2,f3⟩|⟨f1,f2⟩
      .omega
      .cases own with
       |false=>
        obtain⟨g1,g2,g3⟩:=aES (I:=I) (k:=λ_=> .hand) hcs hc3 e3 f3
        refine⟨g1.keep hkp (.refl H J),g2,λhb=>?_⟩
        have:=g3 hb;rw[List.getElem?_map]at e3;cases gr:x.cells[i-off]? with
        |none=>rw[gr]at e3;cases e3
        |some c=>
         rw[gr]at e3;simp only[aK,aA]at e3;have hr:=hcs.2 _ c v gr f3;cases c<;>simp only[fl,aB]at e3<;>obtain⟨rfl,rfl⟩:=e3<;>first|(cases hb)|skip
         cases hr;exact .nil _
       |true=>
        have how:=kx rfl;have cy:gO u=true:=how.slice hc3;have hxc:x.cells=[x]:=by
         cases x with
         |agg ys=>obtain⟨jo,rfl,_⟩:=rx.agg_inv;cases cy
         |_=>rfl
        have huc:u.cells.toList=[u]:=by cases u<;>first|rfl|cases cy
        rw[hxc]at e3;rw[huc]at f3;have hn1:n=1:=by rw[<-gu,hxc];rfl
        have hio:i=off:=by omega
        subst hio;simp only[Nat.sub_self,aO,List.map_nil,aU,aA]at e3 f3;subst f3;have hx1:x.one=true:=by rw[hxc]at hc3;simpa using hc3
        have hk:Ow J I' (H.put a' (.cells (gQ us i u.cells.toList) boxMeta)) (.cell id i) x u:=how.keep hkp (.refl H J) λj hj _=>⟨rfl,hγ2 j rfl hj⟩
        cases x<;>simp only[fl,aB]at e3<;>obtain⟨rfl,rfl⟩:=e3<;>first|(exact⟨rx.keep hkp (.refl H J),hx1,λ_=>hk⟩)|skip
        cases rx;exact⟨.emp0,rfl,λ_=> .nil _⟩
      .omega
     .rcases fc with⟨f1,f2⟩|⟨f1,f2,f3⟩|⟨f1,f2⟩
      .omega
      .omega
      .obtain⟨g1,g2,g3⟩:=h4 i y b v e2 f2;exact⟨g1.keep hkp (.refl H J),g2,λhb=>(g3 hb).keep hkp (.refl H J) λj hj _=>⟨rfl,hγ j i hj⟩⟩
   have hmv: ∀i k,I i=some k->k≠ .hand->PI.mv .hand (.cell id off) I i=some k:=λi k hi hk=>by
    simp only[PI.mv,hi];rw[bH (by simpa using hk)]
   obtain⟨M',F'⟩:=M.write (I':=PI.mv .hand (.cell id off) I) F h1 h2 ⟨_,hg⟩ (hobj _ (λi k hi=>hmv i _ hi (by simp)) λi _ hi=>by simp[PI.mv,hi]) (λi j o' hj hi=>hmv i _ hi (by simp)) (λi t hi=>hmv i _ hi (by simp))
   exact⟨_,_,cf,M',F',hkp.weak λ_ _=>rfl,λi _ hi=>hmv i _ hi (by simp),rfl,rfl,id,a',h1,JV,λb hb=>by rw[bZ,bH hb]⟩
 .rename_i z ag cs n hg hn;cases hc:Nat.beq x.cells.length n&&Nat.ble (off+n) cs.length&&x.cells.all PV.one with
  |false=>rw[hc,aJ]at h;cases h
  |true=>
   rw[hc,aI]at h;simp only[aA]at h;subst h;simp only[aC]at hc;obtain⟨⟨hc1,hc2⟩,hc3⟩:=hc;have gu:=aE hc1;have hle:=bK hc2;have hcs:=rx.cells hc3;obtain⟨a',us,h1,h2,h3,h5,h4⟩:=M.get id _ hg;have hw:w= .pointer (some ⟨a',off,none⟩):=by
    cases ra with
    |ptr _ _ _ hν=>rw[h1]at hν;simp only[aA]at hν;subst hν;rfl
    |ptr0 _ _ _ hν=>rw[h1]at hν;cases hν
   subst hw;have gi:u.cells.toList.length=n:=by rw[<-hcs.1,gu]
   have cf:eT P H t (.pointer (some ⟨a',off,none⟩)) u=some (H.put a' (.cells (gQ us off u.cells.toList) (eE z))):=by
    simp only[eT,row_of_get h2 rfl,hn];rw[show((eE z).wr&&Nat.beq u.cells.size n&&Nat.ble (off+n) us.length&&u.cells.toList.all one)=true by
     rw[hcs.one hc3,cR,BF];simp only[Array.length_toList]at gi;simp[eE,gi,h3,hle]]
    rfl
   have dj:=DV u.cells.toList us off (by rw[gi,h3];exact hle)
   have hkp:Keep J kJ H (H.put a' (.cells (gQ us off u.cells.toList) (eE z))):=Keep.write h1 (by rw[h2];simp)
   have mg:(wks x.cells).length=n:=by rw[kB,gu]
   obtain⟨M',F'⟩:=M.write (I':=I) (o:= .row z ag (cs.take off++wks x.cells++cs.drop (off+n))) (ob':= .cells (gQ us off u.cells.toList) (eE z)) F h1 h2 ⟨_,hg⟩
    ⟨a',gQ us off u.cells.toList,h1,by rw[bZ,bI rfl],by rw[dj];simp[h3,kB,gu];simp only[Array.length_toList]at gi;omega,by
     have hw1:(wks x.cells).all PV.one=true:=by
      have: ∀ys:List PV,ys.all PV.one=true->(wks ys).all PV.one=true:=by
       intro ys;induction ys with
       |nil=>intro _;rfl
       |cons y ys ih=>
        intro h;simp only[aP,aC]at h;simp only[wks,aP,aC];refine⟨?_,ih h.2⟩;have:=h.1;cases y with
        |sl z es=>cases es<;>rfl
        |_=>first|rfl|exact this
      exact this _ hc3
     rw[List.all_append,List.all_append,hw1];simp only[bE,aC,bJ]at h5⊢;exact⟨λy hy=>h5 y (List.mem_of_mem_take hy),λy hy=>h5 y (List.mem_of_mem_drop hy)⟩,λi y v hy hv=>by
     rw[show off+n=off+(wks x.cells).length by rw[mg]]at hy
     rw[dj,gi]at hv;rw[show off+n=off+u.cells.toList.length by rw[gi]]at hv
     have nt:=sQ (by rw[mg];exact hle) hy
     have fc:=sQ (by rw[gi,h3];exact hle) hv
     rw[mg]at nt;rw[gi]at fc;rcases nt with⟨e1,e2⟩|⟨e1,e2,e3⟩|⟨e1,e2⟩
     .rcases fc with⟨f1,f2⟩|⟨f1,f2,f3⟩|⟨f1,f2⟩
      .exact(h4 i y v e2 f2).keep hkp (.refl H J)
      .omega
      .omega
     .rcases fc with⟨f1,f2⟩|⟨f1,f2,f3⟩|⟨f1,f2⟩
      .omega
      .exact(hcs.wks.2 _ y v e3 f3).keep hkp (.refl H J)
      .omega
     .rcases fc with⟨f1,f2⟩|⟨f1,f2,f3⟩|⟨f1,f2⟩
      .omega
      .omega
      .exact(h4 i y v e2 f2).keep hkp (.refl H J)⟩ (λi j o' hj hi=>hi) (λi t hi=>hi)
   exact⟨_,_,cf,M',F',hkp.weak λ_ _=>rfl,.refl H I,rfl,rfl,id,a',h1,JV,λb hb=>by rw[bZ,bH hb]⟩
 .cases h
end
end Go.PI
namespace Go.PI
open Go.AI
section
variable{P:Program}{J J':Nu}{I I1 I':Ga}{H H':St}{S:PS}{A:Slots}
def AW(cs:List Value)(off:Nat):cut cs off 0=some []:=by simp[cut,cR]
def a0h{cs:List Value}{off n:Nat}(h:off+n<=cs.length):cut cs off n=some ((cs.drop off).take n):=by
 simp only[cut,cR];rw[show decide (((cs.drop off).take n).length=n)=true by simp;omega];rfl
def HS{z:Nat}{es:List PV}{id off n c:Nat}(r:R J H (.sl z es) (.slice (some ⟨id,off,none⟩) n c)):
    n=es.length/\1<=z/\(∀e∈es,e.cells.length=z/\e.cells.all PV.pur=true)/\∃rcs m l,Fz J H id rcs m/\m.z=z/\off+es.length*z<=rcs.length/\cut rcs off (es.length*z)=some l/\RL J H (eY es) l:=by
 cases r with
 |sl _ _ _ _ _ rcs m hz hs hr hm hb hh=>
  refine⟨rfl,hz,hs,rcs,m,_,hr,hm,hb,a0h hb,?_⟩;have ku:=iD (λe he=>(hs e he).1)
  refine⟨by simp[ku];omega,λi x u hx hu=>?_⟩
  rw[List.getElem?_take]at hu;split at hu
  .rw[List.getElem?_drop]at hu;exact hh i x u hx hu
  .cases hu
def DX{z:Nat}{d:TypeDesc}{x:PV}{u:Value}{xs:List PV}(r:R J H x u)(hz1:1<=z)(h:wB z d x=some xs):
    ∃vals,tB H z u=some (xs.length,vals)/\RL J H (eY xs) vals/\(∀e∈xs,e.cells.length=z/\e.cells.all PV.pur=true)/\Gd d u=true:=by
 unfold wB at h;split at h
 .cases x<;>simp only[oY]at h<;>try cases h
  .cases r;exact⟨[],rfl,.nil,λe he=>by simp at he,rfl⟩
  .cases r with
   |emp0=>exact⟨[],rfl,.nil,λe he=>by simp at he,rfl⟩
   |emp1 id off c rcs m hr=>exact⟨[],by simp only[tB,hr.1,Nat.zero_mul,AW];rfl,.nil,λe he=>by simp at he,rfl⟩
   |emp2 b o s c=>exact⟨[],rfl,.nil,λe he=>by simp at he,rfl⟩
  .rename_i z' es;cases hc:Nat.beq z z' with
   |false=>rw[hc,aJ]at h;cases h
   |true=>
    rw[hc,aI]at h;simp only[aA]at h;subst h;have gt:=aE hc;subst gt;cases r with
    |sl _ _ id off c rcs m hz hs hr hm hb hh=>
     obtain⟨_,_,ja,nk,m',l,ca,_,bu,hl,hrl⟩:=HS (.sl z es id off c rcs m hz hs hr hm hb hh);exact⟨l,by simp only[tB,ca.1,hl];rfl,hrl,ja,rfl⟩
 .split at h
  .rename_i s;cases hc:Nat.beq z 1 with
   |false=>rw[hc,aJ]at h;cases h
   |true=>
    rw[hc,aI]at h;simp only[aA]at h;subst h;have gt:=aE hc;subst gt;cases r with
    |str ba=>
     refine⟨_,by simp only[tB,aI];rw[show Nat.beq 1 1=true from rfl,aI,List.length_map,Array.length_toList];rfl,?_,λe he=>?_,rfl⟩
     .have: ∀bs:List UInt8,RL J H (eY (bs.map λb=>PV.v (.int .u8 b.toNat))) (bs.map λb=>Value.int .u8 b.toNat):=by
       intro bs;induction bs with
       |nil=>exact .nil
       |cons b bs ih=>simp only[aO,eY,aN,PV.cells,aR];exact .cons (.v _ rfl) ih
      exact this _
     .obtain⟨b,_,rfl⟩:=List.mem_map.1 he;exact⟨rfl,rfl⟩
  .cases h
 .cases h
def EE{p:PSt}{id z:Nat}{es xs:List PV}{old vals:List Value}{m:pM}(M:Mem J I p H)(F:FR J I H S A)(hf:H.get id=none)(bi:id<H.next)(hz:1<=z)
    (po: ∀e∈es++xs,e.cells.length=z/\e.cells.all PV.pur=true) (ho:RL J H (eY es) old) (hv:RL J H (eY xs) vals) (hm:m.z=z) (ht:m.tip=true) (hw:m.wr=true) (hg:m.grp.isSome=true) (bf:H.good m=true) (c:Nat) (bm:es++xs≠ []):
    ∃I',R J (H.put id (.cells (old++vals) m)) (eB z (es++xs)) (.slice (some ⟨id,0,none⟩) (es.length+xs.length) c)/\Mem J I' p (H.put id (.cells (old++vals) m))/\FR J I' (H.put id (.cells (old++vals) m)) S A/\
      Ow J I' (H.put id (.cells (old++vals) m)) .hand (eB z (es++xs)) (.slice (some ⟨id,0,none⟩) (es.length+xs.length) c)/\Keep J kJ H (H.put id (.cells (old++vals) m))/\GoOut H I I':=by
 obtain⟨M',F',dn⟩:=M.fz (ob:= .cells (old++vals) m) F hf bi;have bh:Fz J (H.put id (.cells (old++vals) m)) id (old++vals) m:=⟨row_of_get (by rw[bZ,bI rfl]) bf,dn⟩
 have dc:=ho.append hv;rw[<-P3]at dc;have ku:=iD (λe he=>(po e he).1)
 have hlen:(old++vals).length=(es++xs).length*z:=by rw[<-ku];exact dc.1.symm
 have mn:eB z (es++xs)= .sl z (es++xs):=by
  cases hh:es++xs with
  |nil=>exact absurd hh bm
  |cons a l=>rfl
 have kc: ∀i k,I i=some k->H.get i≠none->(if i=id then some K.hand else I i)=some k:=λi k hi hn=>by
  rw[bH (λe=>hn (by rw[e];exact hf))];exact hi
 refine⟨λi=>if i=id then some .hand else I i,?_,?_,?_,?_,Keep.put hf,λi hn hi=>kc i _ hi hn⟩
 .rw[mn,<-aZ];exact .sl z (es++xs) id 0 c _ m hz po bh hm (by rw[hlen];omega) λi x u hx hu=>(dc.2 i x u hx (by simpa using hu)).keep (Keep.put hf) (.refl H J)
 .refine⟨M'.le,M'.lt,M'.inj,M'.live,λk o hk=>?_,M'.free,M'.ver⟩
  refine(M.get k o hk).keep (I1:=kJ) (Keep.put hf) (.refl H J) rfl (λa ha=>?_) λi off hi hn=>⟨rfl,kc i _ hi hn⟩
  rw[bZ,bH (λe=>dn k (by rw[<-e];exact ha))]
 .exact F.keep (I1:=kJ) (Keep.put hf) (.refl H J) λi t hi hn=>⟨rfl,kc i _ hi hn⟩
 .rw[mn,<-aZ];exact .tip z (es++xs) id 0 c _ m bh ht hw hg (by rw[hm,hlen];omega) (by simp)
def rQ{z:Nat}{x:PV}{es:List PV}(h:oY z x=some es):((x= .emp∨x= .nil)/\es=[])∨x= .sl z es:=by
 cases x<;>simp only[oY]at h<;>try cases h
 .exact .inl ⟨.inr rfl,rfl⟩
 .exact .inl ⟨.inl rfl,rfl⟩
 .rename_i z' es';cases hc:Nat.beq z z' with
  |false=>rw[hc,aJ]at h;cases h
  |true=>
   rw[hc,aI]at h;simp only[aA]at h;subst h;have gt:=aE hc;subst gt;exact .inr rfl
def VX{p:PSt}(M:Mem J I p H)(z id:Nat):H.good (gM z id)=true:=by
 show Nat.beq (H.ver id) 0=true;rw[M.ver id];rfl
def RO{p:PSt}{id:Nat}(M:Mem J I p H)(F:FR J I H S A)(hf:H.get id=none)(bi:id<H.next){c:Call}{s x:Operand}(hs:cG P s=true)(hx:cG P x=true){v:PV}{own:Bool}{S':PS}
    (h:wD P S c s x=some (v,own,S')):
    ∃u H' I',mQ P H id c (ev A s) (ev A x)=some (u,H')/\R J H' v u/\Mem J I' p H'/\FR J I' H' S' A/\(own=true->Ow J I' H' .hand v u)/\Keep J I H H'/\GoOut H I I'/\H'.next=H.next:=by
 unfold wD at h;unfold mQ;split at h
 .rename_i t t1 ht;simp only[ht];split at h
  .rename_i e d he hd;simp only[he,hd];split at h
   .rename_i info hi;simp only[hi];split at h
    .rename_i es xs z pz hxs hz;cases hc:Nat.ble 1 info.size&&Nat.ble 1 info.bytes&&Nat.beq z.cells.size info.size with
     |false=>rw[hc,aJ]at h;cases h
     |true=>
      rw[hc,aI]at h;simp only[aC]at hc;have hz1:=bK hc.1.1;obtain⟨vals,pm,hvals,hxe,ke⟩:=DX (cX F hx) hz1 hxs;obtain⟨I0,F0,how,g0⟩:=wI F s hs;have M0:=M.g2 g0;have rs:=cX F hs;have fw:vals.all one=true:=hvals.one (by
       rw[bJ];intro y hy;simp only[eY,List.mem_flatMap]at hy;obtain⟨e,he,hy⟩:=hy;exact C6 ((bJ.1 (hxe e he).2) y hy))
      have cy:gO (ev A s)=true:=by
       rcases rQ pz with⟨h1|h1,_⟩|h1<;>rw[h1]at rs<;>generalize ev A s=w at rs<;>cases rs<;>rfl
      simp only[ke,aI,pm,hz];rw[show(vals.all one&&Nat.ble 1 info.size&&Nat.ble 1 info.bytes&&Nat.beq z.cells.size info.size&&gO (ev A s))=true by
       simp only[fw,hc.1.1,hc.1.2,hc.2,cy,Bool.and_self]]
      simp only[aI];cases hx0:xs with
      |nil=>
       subst hx0;simp only[aA,aB]at h;obtain⟨rfl,rfl,rfl⟩:=h;exact⟨ev A s,H,I0,rfl,rs,M0,F0,how,.refl J I H,g0.out,rfl⟩
      |cons x0 xs0=>
       rw[hx0]at h;simp only at h;rw[<-hx0]at h;have hlen:xs.length≠0:=by rw[hx0];simp
       have bm:es++xs≠ []:=by rw[hx0];simp
       rw[<-hx0];rw[show Nat.beq xs.length 0=false by rw[cR];simp[hlen]]
       simp only[aJ];cases hc2:iG S s&&Nat.ble ((es.length+xs.length)*info.bytes) 1073741824 with
       |false=>rw[hc2,aJ]at h;cases h
       |true=>
        rw[hc2,aI]at h;simp only[aA,aB]at h;obtain⟨rfl,rfl,rfl⟩:=h;simp only[aC]at hc2;have how:=how hc2.1;have df:=hc2.2;have hgt:=VX M0 info.size id;have th: ∀{old:List Value},RL J H (eY es) old->(∀e∈es,e.cells.length=info.size/\e.cells.all PV.pur=true)->
                    mC H id info.size info.bytes xs.length vals (ev A s)=some (.slice (some ⟨id,0,none⟩) (es.length+xs.length) (es.length+xs.length+1),H.put id (.cells (old++vals) (gM info.size id)))->
                    ∃u H' I',mC H id info.size info.bytes xs.length vals (ev A s)=some (u,H')/\R J H' (eB info.size (es++xs)) u/\Mem J I' p H'/\FR J I' H' (mX S s) A/\(true=true->Ow J I' H' .hand (eB info.size (es++xs)) u)/\Keep J I H H'/\GoOut H I I'/\H'.next=H.next:=by
         intro old hold po jj;obtain⟨I',k1,k2,k3,k4,k5,k6⟩:=EE (m:=gM info.size id) M0 F0 hf bi hz1 (λe he=>(List.mem_append.1 he).elim (po e) (hxe e)) hold hvals rfl rfl rfl rfl hgt (es.length+xs.length+1) bm
         exact⟨_,_,I',jj,k1,k2,k3,λ_=>k4,k5.weak λ_ _=>rfl,GoOut.trans (H':=H) g0.out k6 (λ_ h=>h),rfl⟩
        rcases rQ pz with⟨h1,rfl⟩|h1
        ·
         have rse:R J H .emp (ev A s):=by
          rcases h1 with h1|h1<;>rw[h1]at rs
          .exact rs
          .generalize ev A s=w at rs⊢;cases rs;exact .emp0
         simp only[aX,Nat.zero_add]at df th⊢;refine th (old:=[]) .nil (λe he=>by simp at he) ?_
         have mh:Ow J I0 H .hand .emp (ev A s)∨ev A s= .slice none 0 0:=by
          rcases h1 with h1|h1<;>rw[h1]at how rs
          .exact .inl how
          .right;generalize ev A s=w at rs;cases rs;rfl
         clear how th;generalize ev A s=w at rse mh;cases rse with
         |emp0=>simp only[mC,df,aI];rfl
         |emp1 id0 off c rcs m hr=>
          have:c=0:=by
           rcases mh with how|how
           .cases how;rfl
           .cases how
          subst this;simp only[mC,Nat.zero_add,df,aI,hr.1,Nat.zero_mul,AW];rfl
         |emp2 b o s' c=>
          rcases mh with how|how
          .cases how;have hq:(Nat.beq 1 1&&Nat.ble (xs.length*info.bytes) 1073741824)=true:=by rw[df];rfl
           simp only[mC,hq,aI];rfl
          .cases how
        .rw[h1]at rs how;obtain⟨po,xm⟩:(∀e∈es,e.cells.length=info.size/\e.cells.all PV.pur=true)/\∃id0 off cc rcs m l,ev A s= .slice (some ⟨id0,off,none⟩) es.length cc/\Fz J H id0 rcs m/\m.z=info.size/\off+es.length*info.size<=rcs.length/\cut rcs off (es.length*info.size)=some l/\RL J H (eY es) l:=by
          generalize ev A s=w at rs;cases rs with
          |sl _ _ id0 off cc rcs m hz hs hr hm hb hh=>
           obtain⟨_,_,ja,nk,m',l,k1,k2,k3,k4,k5⟩:=HS (.sl info.size es id0 off cc rcs m hz hs hr hm hb hh);exact⟨ja,id0,off,cc,nk,m',l,rfl,k1,k2,k3,k4,k5⟩
         obtain⟨id0,off,cc,rcs,m,l,hw,hr,lq,hb,hl,hrl⟩:=xm;by_cases gr:cc=es.length
         .refine th hrl po ?_;rw[hw,gr];simp only[mC,df,aI,hr.1,hl];rw[show Nat.beq es.length es.length=true by simp[cR]]
          rfl
         .rw[hw]at how⊢;cases how with
          |exact=>exact absurd rfl gr
          |tip z0 es0 _ _ _ rcs2 m2 hr2 ht gk hg hb2 hk=>
           have:rcs2=rcs/\m2=m:=by have:=hr2.1;rw[hr.1]at this;simp only[aA,aB]at this;exact⟨this.1.symm,this.2.symm⟩
           obtain⟨rfl,rfl⟩:=this;obtain⟨bc,bf⟩:=eO hr.1;have hii:id0≠id:=λe=>by rw[e,hf]at bc;cases bc
           have jj:mC H id info.size info.bytes xs.length vals (.slice (some ⟨id0,off,none⟩) es.length cc)=
                          some (.slice (some ⟨id,0,none⟩) (es.length+xs.length) (es.length+xs.length+1),(H.put id0 (.cells rcs2 {m2 with tip:=false})).put id (.cells (l++vals) {m2 with lim:=l.length})):=by
            simp only[mC,df,aI,hr.1,hl];rw[show Nat.beq cc es.length=false by rw[cR];simp[gr]]
            simp only[aJ];rw[show(m2.tip&&m2.wr&&Nat.beq m2.z info.size&&Nat.beq (off+es.length*info.size) rcs2.length&&m2.grp.isSome)=true by
             rw[lq]at hb2;simp only[ht,gk,hg,cR,lq,hb2,decide_true,Bool.and_self]]
            rfl
           have kp:Keep J (λi=>if i=id0 then none else some .out) H (H.put id0 (.cells rcs2 {m2 with tip:=false})):=by
            refine⟨rfl,aS _,λa ha=>?_,λa hn cs m bp=>?_⟩
            .rw[bZ]at ha;split at ha
             .cases ha
             .exact ha
            .by_cases e:a=id0
             .subst e;rw[bc]at bp;simp only[aA,AObj.cells.injEq]at bp;obtain⟨rfl,rfl⟩:=bp;refine⟨false,by rw[bZ,bI rfl],λ_=>rfl,λh=>?_⟩
              simp at h
             .exact⟨m.tip,by rw[bZ,bH e];exact bp,λh=>h,λ_=>rfl⟩
           have xg: ∀i k,I0 i=some k->k≠ .hand->(if i=id0 then none else some K.out)=some K.out:=λi k hi jb=>by
            rw[bH];intro e;rw[e,hk]at hi;simp only[aA]at hi;exact jb hi.symm
           have M1:Mem J I0 p (H.put id0 (.cells rcs2 {m2 with tip:=false})):=by
            refine⟨M0.le,M0.lt,M0.inj,M0.live,λk o jb=>?_,λa ha=>?_,M0.ver⟩
            .refine(M0.get k o jb).keep kp (.refl H J) rfl (λa ha=>?_) λi fq hi _=>⟨xg i _ hi (by simp),hi⟩
             rw[bZ,bH (λe=>hr.2 k (by rw[<-e];exact ha))]
            .rw[bZ,bH (λe=>by subst e;rw[M0.free a ha]at bc;cases bc)];exact M0.free a ha
           have F1:FR J I0 (H.put id0 (.cells rcs2 {m2 with tip:=false})) (mX S s) A:=F0.keep kp (.refl H J) λi t hi _=>⟨xg i _ hi (by simp),hi⟩
           obtain⟨I',k1,k2,k3,k4,k5,k6⟩:=EE (m:={m2 with lim:=l.length}) M1 F1 (by rw[bZ,bH (Ne.symm hii)];exact hf) bi hz1 (λe he=>(List.mem_append.1 he).elim (po e) (hxe e)) (hrl.keep kp (.refl H J)) (hvals.keep kp (.refl H J)) lq ht gk hg (by exact bf) (es.length+xs.length+1) bm
           refine⟨_,_,I',jj,k1,k2,k3,λ_=>k4,?_,GoOut.trans g0.out k6 (λa ha=>kp.dom a ha),rfl⟩
           have kp':Keep J I0 H (H.put id0 (.cells rcs2 {m2 with tip:=false})):=kp.weak λa ha=>by
            show(if a=id0 then none else some K.out)=some K.out
            exact xg a _ ha (by simp)
           have:=Keep.trans (I:=I0) kp' (.refl H J) (k5.weak (I:=I0) λ_ _=>rfl) (.refl H I0)
           exact this.weak λa ha=>(g0 a).1 ha
    .cases h
   .cases h
  .cases h
 .cases h
end
end Go.PI
namespace Go.AI
section
variable{P:Program}{Y:Mp}
def DB(t:TypeId):cI P (typeInfo t)=P.info? t:=by
 unfold typeInfo;simp only[bind,Sem.bind,program,cI];cases P.info? t<;>rfl
def bT(t:TypeId):cI P (underlying t)=P.underlying t:=by
 unfold underlying;simp only[bind,Sem.bind,program,cI];cases P.underlying t<;>rfl
def cU(t:TypeId):cI P (Go.sizeOf t)=gU P t:=by
 unfold Go.sizeOf gU;rw[bL,DB];cases P.info? t<;>rfl
def pQ(t:TypeId):cI P (isAgg t)=jS P t:=by
 unfold isAgg jS;rw[bL,bT];cases h:P.underlying t with
 |none=>rfl
 |some d=>cases d<;>rfl
def mE{s:Sem Value}{v:Value}(h:cQ P s=some v): ∃v',cI P s=some v'/\VR Y v v':=by
 unfold cQ at h;split at h<;>try cases h
 rename_i u hu;cases hp:cK u with
 |false=>simp[hp]at h
 |true=>simp only[hp,aI,aA]at h;subst h;exact⟨u,hu,.same1 hp⟩
def VRL.extract{xs us:Array Value}(r:VRL Y xs.toList us.toList)(i j:Nat):VRL Y (xs.extract i j).toList (us.extract i j).toList:=by
 simp only[Array.toList_extract,List.extract_eq_take_drop];exact(r.drop i).take (j-i)
def VRL.size{xs us:Array Value}(r:VRL Y xs.toList us.toList):xs.size=us.size:=by simpa using r.1
def Qx{t:TypeId}{cs us:Array Value}{off:Nat}{v:Value}(r:VRL Y cs.toList us.toList)(h:Bi P t cs off=some v): ∃v',cI P (part t us off)=some v'/\VR Y v v':=by
 unfold Bi at h;unfold part;rw[bL,pQ];cases ha:jS P t with
 |none=>simp[ha]at h
 |some b=>
  cases b with
  |true=>
   simp only[ha]at h;cases hs:gU P t with
   |none=>simp[hs]at h
   |some n=>
    simp only[hs,aA]at h;subst h;refine⟨.agg (us.extract off (off+n)),?_,.mkAgg' (r.extract _ _)⟩;simp only[aL,if_true,bL,cU,hs,bQ]
  |false=>
   simp only[ha]at h;obtain⟨u,hu,hr⟩:=r.get (i:=off) (x:=v) (by simpa using h)
   refine⟨u,?_,hr⟩;have:us[off]?=some u:=by simpa using hu
   simp[this,bQ]
def aAB(place:Nat): ∀(c c':List Value) (k:Nat) (A A':Array Value),VRL Y c c'->VRL Y A.toList A'.toList->
    VRL Y ((c.zipIdx k).foldl (λ(cs:Array Value) x=>cs.setIfInBounds (place+x.2) x.1) A).toList ((c'.zipIdx k).foldl (λ(cs:Array Value) x=>cs.setIfInBounds (place+x.2) x.1) A').toList:=by
 intro c;induction c with
 |nil=>intro c' k A A' hc hA;rw[hc.nil_inv];simpa using hA
 |cons x c ih=>
  intro c' k A A' hc hA;obtain⟨u,c'',rfl,hx,mc⟩:=hc.cons_inv;simp only[List.zipIdx_cons,List.foldl_cons];refine ih _ _ _ _ mc ?_;simp only[Array.toList_setIfInBounds];exact hA.set hx _
def PR(Y:Mp):List (Nat×Value)->List (Nat×Value)->Prop
 |[],[]=>True
 |(i,x)::xs,(j,u)::us=>i=j/\VR Y x u/\PR Y xs us
 |_,_=>False
def Kl(place:Nat->Option (Nat×Nat)): ∀(ps qs:List (Nat×Value)) (A A':Array Value) (r:Array Value),PR Y ps qs->VRL Y A.toList A'.toList->Instr.fill place A ps=some r->
    ∃r',Instr.fill place A' qs=some r'/\VRL Y r.toList r'.toList:=by
 intro ps;induction ps with
 |nil=>
  intro qs A A' r hp hA h;cases qs with
  |nil=>simp only[Instr.fill,aA]at h;subst h;exact⟨A',rfl,hA⟩
  |cons q qs=>exact hp.elim
 |cons p ps ih=>
  intro qs A A' r hp hA h;obtain⟨i,x⟩:=p;cases qs with
  |nil=>exact hp.elim
  |cons q qs=>
   obtain⟨j,u⟩:=q;obtain⟨rfl,hx,fh⟩:=hp;have ci:u.cells.size=x.cells.size:=(hx.cells.size).symm;have hsA:A'.size=A.size:=hA.size.symm;simp only[Instr.fill]at h⊢;cases dm:place i with
   |none=>simp[dm]at h
   |some os=>
    obtain⟨off,size⟩:=os;simp only[dm]at h⊢;rw[ci,hsA];split at h
    .cases h
    .rename_i hn;rw[bH hn];refine ih _ _ _ _ fh ?_ h;have:=aAB (Y:=Y) off x.cells.toList u.cells.toList 0 A A' hx.cells hA;rw[<-Array.foldl_toList,<-Array.foldl_toList,Array.toList_zipIdx,Array.toList_zipIdx];exact this
def aHs{Z Z':Operand->Value}(l:List (Nat×Operand))(h: ∀x∈l,VR Y (Z x.2) (Z' x.2)):PR Y (l.map λ(i,x)=>(i,Z x)) (l.map λ(i,x)=>(i,Z' x)):=by
 induction l with
 |nil=>trivial
 |cons x l ih=>exact⟨rfl,h x (by simp),ih λy hy=>h y (by simp[hy])⟩
def Df{Z Z':Operand->Value}(l:List Operand)(h: ∀x∈l,VR Y (Z x) (Z' x)):VRL Y (l.map Z) (l.map Z'):=by
 induction l with
 |nil=>exact .nil
 |cons x l ih=>exact .cons (h x (by simp)) (ih λy hy=>h y (by simp[hy]))
def aA2{t:TypeId}{ps qs:Array (Nat×Value)}{v:Value}(r:PR Y ps.toList qs.toList)(h:Fe P t ps=some v): ∃v',cI P (Instr.build t qs)=some v'/\VR Y v v':=by
 unfold Fe at h;cases hz:cI P (zeroValue t)with
 |none=>simp[hz]at h
 |some z=>
  simp only[hz]at h;cases hp:z.cells.toList.all bN with
  |false=>simp[hp]at h
  |true=>
   simp only[hp,aI]at h;unfold Instr.build;simp only[bL,hz,aL,bT];cases hu:P.underlying t with
   |none=>simp[hu]at h
   |some d=>
    simp only[hu]at h;cases d with
    |struct fs=>
     simp only at h;cases hm:cI P (fs.mapM λf=>do pure (f.offset,<-Go.sizeOf f.type))with
     |none=>rw[hm]at h;cases h
     |some places=>
      simp only[hm,aF]at h;obtain⟨cs,hf,rfl⟩:=h;obtain⟨de,gn,hr⟩:=Kl _ _ _ _ _ _ r (VRL.same hp) hf;refine⟨.agg de,?_,.mkAgg' hr⟩;simp only[aL,bL,hm];rw[gn];rfl
    |array n e=>
     simp only at h;cases hs:gU P e with
     |none=>simp[hs]at h
     |some s=>
      simp only[hs,aF]at h;obtain⟨cs,hf,rfl⟩:=h;obtain⟨de,gn,hr⟩:=Kl _ _ _ _ _ _ r (VRL.same hp) hf;refine⟨.agg de,?_,.mkAgg' hr⟩;simp only[aL,bL,cU,hs];rw[gn];rfl
    |_=>simp at h
def jN(id off n:Nat):(Addr.mk id off none).add n=⟨id,off+n,none⟩:=by
 unfold Addr.add;split
 .rename_i h;subst h;rfl
 .rfl
def VR.ptr_inv{id off:Nat}{u:Value}(r:VR Y (.pointer (some ⟨id,off,none⟩)) u): ∃p,Y id=some p/\u= .pointer (some ⟨p.b,p.o+off,none⟩):=by
 cases r with
 |same _ h=>simp[bN]at h
 |ptr _ _ p h=>exact⟨p,h,rfl⟩
def VR.slc_inv{id off len c:Nat}{u:Value}(r:VR Y (.slice (some ⟨id,off,none⟩) len c) u):
    ∃p cap,Y id=some p/\u= .slice (some ⟨p.b,p.o+off,none⟩) len cap/\(c=len->cap=len)/\len<=cap/\(p.o+off+cap*p.z<=p.e∨p.z=0):=by
 cases r with
 |same _ h=>simp[bN]at h
 |slc _ _ _ _ cap p h hc hl he=>exact⟨p,cap,h,rfl,hc,hl,he⟩
def VR.nilslc_inv{len c:Nat}{u:Value}(r:VR Y (.slice none len c) u):len=0/\c=0/\u= .slice none 0 0:=by
 cases r with
 |same _ h=>simp only[bN,cR,aC,aD]at h;obtain⟨rfl,rfl⟩:=h;exact⟨rfl,rfl,rfl⟩
def VR.int_inv{k:IntKind}{n:Int}{u:Value}(r:VR Y (.int k n) u):u= .int k n:=r.eq0 rfl
def VR.bool_inv{b:Bool}{u:Value}(r:VR Y (.bool b) u):u= .bool b:=r.eq0 rfl
def VR.string_inv{s:ByteArray}{u:Value}(r:VR Y (.string s) u):u= .string s:=r.eq0 rfl
def Gk{s:TypeId}{a b v:Value}{f:Nat}(r:VR Y a b)(h:pD P s a f=some v): ∃v',cI P (Instr.fieldAt s b f)=some v'/\VR Y v v':=by
 unfold pD at h;unfold Instr.fieldAt;rw[bL,bT];split at h<;>try cases h
 rename_i fs hu;split at h<;>try cases h
 rename_i fd hf;split at h<;>try cases h
 rename_i n hn;split at h<;>try cases h
 rename_i id off;obtain⟨p,hp,rfl⟩:=r.ptr_inv;rw[cR,Bool.cond_decide]at h;split at h
 .cases h
 .rename_i hn0;cases h;refine⟨.pointer (some ⟨p.b,p.o+(off+fd.offset),none⟩),?_,.ptr _ _ p hp⟩;simp only[hu,aL,hf,Instr.sureAddr,bL,bQ,fieldPlace,cU,hn,bH hn0,jN,Nat.add_assoc]
def aAZ{t:TypeId}{a b v:Value}{f:Nat}(r:VR Y a b)(h:Fc P t a f=some v): ∃v',cI P (Instr.field t b f)=some v'/\VR Y v v':=by
 unfold Fc at h;unfold Instr.field;rw[bL,bT];split at h<;>try cases h
 rename_i fs hu;split at h<;>try cases h
 rename_i fd hf;split at h<;>try cases h
 obtain⟨us,rfl,hl⟩:=r.agg_inv;obtain⟨v',hv,hr⟩:=Qx hl h;refine⟨v',?_,hr⟩;simp only[hu,aL,hf,asAgg,bL,bQ,hv]
def vB{i:Int}{n:Nat}:cV i n=true↔0<=i/\i<(n:Int):=by simp[cV]
def Gj{t:TypeId}{a b i j v:Value}(r:VR Y a b)(ri:VR Y i j)(h:jM P t a i=some v): ∃v',cI P (Instr.indexAt t b j)=some v'/\VR Y v v':=by
 unfold jM at h;unfold Instr.indexAt;split at h<;>try cases h
 rename_i k n;obtain rfl:=ri.int_inv;rw[bL];simp only[asIntOf,bQ,aL];rw[bL,bT];split at h<;>try cases h
 .rename_i e hu;split at h<;>try cases h
  rename_i id off len c;obtain⟨p,cap,hp,rfl,_⟩:=r.slc_inv;split at h<;>try cases h
  rename_i z hz;cases hin:cV n len with
  |false=>simp[hin]at h
  |true=>
   simp only[hin,aI,aA]at h;subst h;rw[vB]at hin;refine⟨.pointer (some ⟨p.b,p.o+(off+n.toNat*z),none⟩),?_,.ptr _ _ p hp⟩;simp only[hu,aL,bL,bQ,bT,bI hin,cU,hz,jN,Nat.add_assoc]
 .rename_i len e hu;split at h<;>try cases h
  rename_i id off;obtain⟨p,hp,rfl⟩:=r.ptr_inv;split at h<;>try cases h
  rename_i z hz;cases hin:cV n len with
  |false=>simp[hin]at h
  |true=>
   simp only[hin,aI,aA]at h;subst h;rw[vB]at hin;refine⟨.pointer (some ⟨p.b,p.o+(off+n.toNat*z),none⟩),?_,.ptr _ _ p hp⟩;simp only[hu,aL,bL,bQ,bT,bI hin,cU,hz,jN,Nat.add_assoc,Instr.sureAddr]
def aAX{t:TypeId}{a b i j v:Value}(r:VR Y a b)(ri:VR Y i j)(h:Fb P t a i=some v): ∃v',cI P (Instr.index t b j)=some v'/\VR Y v v':=by
 unfold Fb at h;split at h<;>try cases h
 .rename_i hu;cases hp:(bN a&&bN i)with
  |false=>simp[hp]at h
  |true=>
   simp only[hp,aI]at h;simp only[aC]at hp;obtain rfl:=r.eq0 hp.1;obtain rfl:=ri.eq0 hp.2;exact mE h
 .rename_i len e hu;split at h<;>try cases h
  rename_i k n cs;obtain rfl:=ri.int_inv;obtain⟨us,rfl,hl⟩:=r.agg_inv;split at h<;>try cases h
  rename_i z hz;cases hin:cV n len with
  |false=>simp[hin]at h
  |true=>
   simp only[hin,aI]at h;rw[vB]at hin;obtain⟨v',hv,hr⟩:=Qx hl h;refine⟨v',?_,hr⟩;unfold Instr.index;simp only[asIntOf,bL,bQ,aL,bT,hu,bI hin,cU,hz,hv]
def fH{n:Int}{k:IntKind}{y:Nat}{code:BoundsCode}(h0:0<=n)(h1:n<=(y:Int)):cI P (Instr.sliceBound (.int k n) y code)=some n.toNat:=by
 unfold Instr.sliceBound;simp only[asIntOf,bL,bQ,aL];rw[bI ⟨h0,h1⟩];rfl
def fJ{a:Option Value}{l:Option Int}(h:nZ a=some l):(a=none/\l=none)∨∃k n,a=some (.int k n)/\l=some n:=by
 unfold nZ at h;split at h
 .cases h;exact .inl ⟨rfl,rfl⟩
 .rename_i k n;cases h;exact .inr ⟨k,n,rfl,rfl⟩
 .cases h
def OR(Y:Mp):Option Value->Option Value->Prop
 |none,none=>True
 |some x,some u=>VR Y x u
 |_,_=>False
def Uq{Z Z':Operand->Value}(x:Option Operand)(h: ∀y,x=some y->VR Y (Z y) (Z' y)):OR Y (x.map Z) (x.map Z'):=by
 cases x with
 |none=>trivial
 |some y=>exact h y rfl
def OR.int{a b:Option Value}{l:Option Int}(r:OR Y a b)(h:nZ a=some l):b=a:=by
 rcases fJ h with⟨rfl,rfl⟩|⟨k,n,rfl,rfl⟩
 .cases b with
  |none=>rfl
  |some x=>exact r.elim
 .cases b with
  |none=>exact r.elim
  |some x=>rw[VR.int_inv r]
def OR.plain{a b:Option Value}(r:OR Y a b)(h:bN (a.getD (.bool true))=true):b=a:=by
 cases a with
 |none=>cases b with
  |none=>rfl
  |some x=>exact r.elim
 |some y=>cases b with
  |none=>exact r.elim
  |some x=>rw[VR.eq0 r h]
def jF{lo hi mx:Option Value}{len cap:Nat}{l h m:Option Int}(hl:nZ lo=some l)(hh:nZ hi=some h)(hm:nZ mx=some m)
    (hmh:m≠none->h≠none) (h0:0<=l.getD 0) (h1:l.getD 0<=h.getD (len:Int)) (h2:h.getD (len:Int)<=m.getD (cap:Int)) (h3:m.getD (cap:Int)<=(cap:Int)) (h4:len<=cap):
    cI P (Instr.sliceBounds true len cap lo hi mx)=some ((l.getD 0).toNat,(h.getD (len:Int)).toNat,(m.getD (cap:Int)).toNat):=by
 unfold Instr.sliceBounds;rcases fJ hm with⟨rfl,rfl⟩|⟨km,nm,rfl,rfl⟩
 .rcases fJ hh with⟨rfl,rfl⟩|⟨kh,nh,rfl,rfl⟩
  .rcases fJ hl with⟨rfl,rfl⟩|⟨kl,nl,rfl,rfl⟩
   .simp[bL,bQ]
   .simp only[Option.getD_none,Option.getD_some]at*;simp only[bL,bQ,aL,fH h0 h1,Int.toNat_natCast]
  .rcases fJ hl with⟨rfl,rfl⟩|⟨kl,nl,rfl,rfl⟩
   .simp only[Option.getD_none,Option.getD_some]at*;simp only[bL,bQ,aL,fH (show 0<=nh by omega) h2,Int.toNat_natCast,Int.toNat_zero]
   .simp only[Option.getD_none,Option.getD_some]at*;simp only[bL,bQ,aL,fH (show 0<=nh by omega) h2,Int.toNat_natCast]
    rw[fH h0 (by omega)];rfl
 .rcases fJ hh with⟨rfl,rfl⟩|⟨kh,nh,rfl,rfl⟩
  .exact absurd rfl (hmh (by simp))
  .rcases fJ hl with⟨rfl,rfl⟩|⟨kl,nl,rfl,rfl⟩
   .simp only[Option.getD_none,Option.getD_some]at*;simp only[bL,bQ,aL,fH (show 0<=nm by omega) h3,Int.toNat_zero]
    rw[fH (show 0<=nh by omega) (by omega)];rfl
   .simp only[Option.getD_none,Option.getD_some]at*;simp only[bL,bQ,aL,fH (show 0<=nm by omega) h3]
    rw[fH (show 0<=nh by omega) (by omega)]
    simp only[aL];rw[fH h0 (by omega)];rfl
def aAT{H:St}{t:TypeId}{a b v:Value}{lo hi mx mq kq mx':Option Value}(hZ: ∀id p z,Y id=some p->qD H id z=true->p.z=z)
    (r:VR Y a b) (rl:OR Y lo mq) (rh:OR Y hi kq) (rm:OR Y mx mx') (h:vP P H t a lo hi mx=some v):
    ∃v',cI P (Instr.sliceAt t b mq kq mx')=some v'/\VR Y v v':=by
 unfold vP at h;split at h<;>try cases h
 .rename_i hu;split at h<;>try cases h
  rename_i s;obtain rfl:=r.string_inv;cases hp:(mx.isNone&&bN (lo.getD (.bool true))&&bN (hi.getD (.bool true)))with
  |false=>simp[hp]at h
  |true=>
   simp only[hp,aI]at h;simp only[aC]at hp;obtain rfl:=rl.plain hp.1.2;obtain rfl:=rh.plain hp.2;have:mx=none:=by simpa using hp.1.1
   subst this;obtain rfl:mx'=none:=by cases mx' with|none=>rfl|some x=>exact rm.elim
   exact mE h
 .rename_i e hu;split at h<;>try cases h
  rename_i base len c;split at h<;>try cases h
  rename_i z l hh m hz hl kr hm;obtain rfl:=rl.int hl;obtain rfl:=rh.int kr;obtain rfl:=rm.int hm;simp only at h;cases hb:(decide (0<=l.getD 0)&&decide (l.getD 0<=hh.getD (len:Int))&&decide (hh.getD (len:Int)<=(len:Int)))with
  |false=>rw[hb]at h;cases h
  |true=>
   rw[hb]at h;simp only[aC,aD]at hb;obtain⟨⟨h0,h1⟩,h2⟩:=hb;simp only[aI]at h;have hS: ∀x,cI P (Instr.sliceAt t x mq kq mx')=cI P (Instr.slice t x mq kq mx'):=by
    intro x;unfold Instr.sliceAt;rw[bL,bT,hu];rfl
   rw[hS];by_cases hz0:(Nat.beq len 0&&BK m&&hh.isSome)=true
   .rw[hz0,aI]at h;simp only[aA]at h;subst h;simp only[aC]at hz0;obtain⟨⟨hz1,hz2⟩,hz3⟩:=hz0;have hl0:=aE hz1;subst hl0;have hm0:m=some 0:=by
     cases m with
     |none=>cases hz2
     |some n=>simp only[BK,aD]at hz2;rw[hz2]
    subst hm0;have hn:hh≠none:=by intro e;subst e;cases hz3
    have e1:(l.getD 0).toNat=0:=by simp only[Int.natCast_zero]at h2 h1;omega
    have e2:(hh.getD ((0:Nat):Int)).toNat=0:=by simp only[Int.natCast_zero]at h2 h1⊢;omega
    have hB:=λcap=>jF (P:=P) (len:=0) (cap:=cap) hl kr hm (λ_=>hn) h0 h1 (by simp only[Int.natCast_zero,Option.getD_some]at h2⊢;omega) (by simp) (Nat.zero_le _)
    cases base with
    |none=>
     obtain⟨_,rfl,rfl⟩:=r.nilslc_inv;refine⟨.slice none 0 0,?_,.same _ rfl⟩;unfold Instr.slice;rw[bL,bT,hu];simp only[aL];rw[bL,hB 0];simp only[aL,bL,cU,hz,e1,e2,Option.getD_some,Int.toNat_zero,if_true,Nat.sub_self,bQ]
    |some a=>
     obtain⟨a',cap,rfl⟩: ∃a' cap,b= .slice (some a') 0 cap:=by
      cases r with
      |same _ hp=>simp[bN]at hp
      |slc=>exact⟨_,_,rfl⟩
      |emp=>exact⟨_,_,rfl⟩
     refine⟨.slice (some a') 0 0,?_,.emp _ 1 0 λ_=>rfl⟩
     unfold Instr.slice;rw[bL,bT,hu];simp only[aL];rw[bL,hB cap];simp only[aL,bL,cU,hz,e1,e2,Option.getD_some,Int.toNat_zero,if_true,Nat.sub_self,bQ]
   rw[Bool.not_eq_true]at hz0;rw[hz0,aJ]at h;have hzero: ∀a' cap,len=0->mx'=none->cI P (Instr.slice t (.slice (some a') len cap) mq kq mx')=some (.slice (some a') len cap):=by
    rintro a' cap rfl rfl;unfold Instr.slice;rw[bL,bT,hu];simp only[aL];rcases fJ hm with⟨_,rfl⟩|⟨_,_,e,_⟩
    .have hB:=jF (P:=P) (len:=0) (cap:=cap) hl kr hm (by simp) h0 h1 (by simp only[Option.getD_none,Int.natCast_zero]at h2⊢;omega) (by simp) (Nat.zero_le _)
     simp only[Option.getD_none]at hB;rw[bL,hB];have e1:(l.getD 0).toNat=0:=by simp only[Int.natCast_zero]at h2 h1;omega
     have e2:(hh.getD ((0:Nat):Int)).toNat=0:=by simp only[Int.natCast_zero]at h2 h1⊢;omega
     simp only[aL,bL,cU,hz,e1,e2,Int.toNat_natCast,Nat.sub_self,Nat.sub_zero,bQ,Nat.zero_mul];split
     .rfl
     .simp only[aK,Addr.add,if_true]
    .cases e
   by_cases hsp: ∃x y s,base=some ⟨x,y,some s⟩
   .obtain⟨x,y,s,rfl⟩:=hsp;simp only at h;cases hc0:(Nat.beq len 0&&mx'.isNone)with
    |false=>rw[hc0]at h;cases h
    |true=>
     rw[hc0]at h;simp only[aI,aA]at h;subst h;simp only[aC]at hc0;have hl0:=aE hc0.1;have vo:mx'=none:=by simpa using hc0.2
     cases r with
     |same _ hp=>simp[bN]at hp
     |emp a' _ cap hs=>exact⟨_,hzero a' cap rfl vo,.emp a' _ cap hs⟩
   by_cases hrz0: ∃id off,base=some ⟨id,off,none⟩/\qD H id z=false
   .obtain⟨id,off,rfl,mw⟩:=hrz0;simp only[mw,aJ]at h;cases hc0:(Nat.beq len 0&&mx'.isNone)with
    |false=>rw[hc0]at h;cases h
    |true=>
     rw[hc0]at h;simp only[aI,aA]at h;subst h;simp only[aC]at hc0;have hl0:=aE hc0.1;have vo:mx'=none:=by simpa using hc0.2
     obtain⟨p,cap,hp,rfl,hc,hlc,he⟩:=r.slc_inv;exact⟨_,hzero _ cap hl0 vo,r⟩
   unfold Instr.slice;rw[bL,bT,hu];simp only[aL];split at h
   ·
    obtain⟨rfl,rfl,rfl⟩:=r.nilslc_inv;cases hmx:mx'.isNone with
    |false=>simp[hmx]at h
    |true=>
     simp only[hmx,aI,aA]at h;subst h;have:mx'=none:=by simpa using hmx
     subst this;rcases fJ hm with⟨_,rfl⟩|⟨_,_,e,_⟩
     .have hB:=jF (P:=P) (len:=0) (cap:=0) hl kr hm (by simp) h0 h1 (by simpa using h2) (by simp) (aS _)
      refine⟨.slice none 0 0,?_,.same _ rfl⟩;simp only[Option.getD_none]at hB;rw[bL,hB];have e1:(l.getD 0).toNat=0:=by simp only[Int.natCast_zero]at h2 h1;omega
      have e2:(hh.getD ((0:Nat):Int)).toNat=0:=by simp only[Int.natCast_zero]at h2 h1⊢;omega
      simp only[aL,bL,cU,hz,e1,e2,Int.toNat_natCast,if_true,Nat.sub_self,bQ]
     .cases e
   .rename_i id off;obtain⟨p,cap,hp,rfl,hc,hlc,he⟩:=r.slc_inv;cases mw:qD H id z with
    |false=>exact absurd ⟨id,off,rfl,mw⟩ hrz0
    |true=>
    rw[mw]at h;simp only[aI]at h;have wv:=hZ id p z hp mw;generalize hL:(l.getD 0).toNat=L at*;generalize hH:(hh.getD (len:Int)).toNat=σ at*;have hLH:L<=σ:=by omega
    have hHl:σ<=len:=by omega
    have hmul:p.o+(off+L*z)+(cap-L)*p.z<=p.e∨p.z=0:=by
     refine he.imp (λhe=>?_) _root_.id
     have:(cap-L)*p.z=cap*p.z-L*p.z:=Nat.sub_mul _ _ _;have h':L*p.z<=cap*p.z:=Nat.mul_le_mul_right _ (by omega)
     rw[<-wv];omega
    split at h
    ·
     rename_i vo;rcases fJ hm with⟨rfl,_⟩|⟨_,_,_,e⟩
     .have hB:=jF (P:=P) (len:=len) (cap:=cap) hl kr hm (by simp) h0 h1 (by simp;omega) (by simp) hlc
      simp only[Option.getD_none,Int.toNat_natCast,hL,hH]at hB;simp only;rw[bL,hB];simp only[aL,bL,cU,hz,bQ];refine⟨_,rfl,?_⟩;simp only[cR,Bool.cond_decide,<-Bool.decide_and]at h;split at h
      .rename_i fe;obtain⟨fe,so⟩:=fe;have fk:=hc fe;subst fk;split at h
       .rename_i hll;cases h;rw[bI hll.symm,so,hll,Nat.sub_self];exact .slc id off 0 0 0 p hp (λ_=>rfl) (aS _) (he.imp (λhe=>by simp;have:=Nat.zero_le (cap*p.z);omega) _root_.id)
       .rename_i hll;cases h;rw[bH (by omega),so]
        simp only[aK,jN,Nat.add_assoc];exact .slc id (off+L*z) (cap-L) (cap-L) (cap-L) p hp (λ_=>rfl) (aS _) hmul
      .split at h
       .rename_i fe so;cases h;obtain⟨so,hl0⟩:=so;have: ¬cap=L∨cap=0:=by omega
        subst so;subst hl0;have e3:(if cap=0 then some (Addr.mk p.b (p.o+off) none)else Option.map (λx=>x.add (0*z)) (some (Addr.mk p.b (p.o+off) none)))=some (Addr.mk p.b (p.o+off) none):=by
         split
         .rfl
         .simp[jN]
        rw[e3];exact .slc id off _ c cap p hp hc hlc he
       .split at h
        .rename_i hll;cases h;rw[bH (by omega)]
         simp only[aK,jN,Nat.add_assoc];exact .slc id (off+L*z) (σ-L) (σ-L+1) (cap-L) p hp (λe=>by omega) (by omega) hmul
        .cases h;rw[show σ-L=0 by omega]
         split
         .exact .emp _ 0 _ (λh=>by cases h)
         .simp only[aK];exact .emp _ 0 _ (λh=>by cases h)
     .cases e
    .rename_i m';rcases fJ hm with⟨_,e⟩|⟨km,nm,rfl,e⟩
     .cases e
     .cases e;cases hd:(decide (hh.getD (len:Int)=m')&&decide (l.getD 0<m')&&hh.isSome)with
      |false=>rw[hd]at h;cases h
      |true=>
       rw[hd]at h;simp only[aC,aD]at hd;obtain⟨⟨hd1,hd2⟩,hd3⟩:=hd;simp only[aI,aA]at h;subst h;have hn:hh≠none:=by intro e;subst e;cases hd3
       have hB:=jF (P:=P) (len:=len) (cap:=cap) hl kr hm (λ_=>hn) h0 h1 (by simp;omega) (by simp;omega) hlc
       simp only[Option.getD_some,hL,hH]at hB;simp only;rw[bL,hB];simp only[aL,bL,cU,hz,bQ];refine⟨_,rfl,?_⟩;have vu:m'.toNat=σ:=by omega
       rw[vu,bH (by omega)]
       simp only[aK,jN,Nat.add_assoc];have hm2:p.o+(off+L*z)+(σ-L)*p.z<=p.e∨p.z=0:=by
        refine hmul.imp (λhmul=>?_) _root_.id
        have:(σ-L)*p.z<=(cap-L)*p.z:=Nat.mul_le_mul_right _ (by omega)
        omega
       exact .slc id (off+L*z) (σ-L) (σ-L) (σ-L) p hp (λ_=>rfl) (aS _) hm2
   .exact absurd ⟨_,_,_,rfl⟩ hsp
 .rename_i n e hu;split at h<;>try cases h
  rename_i id off z hz;cases hr:qD H id 0 with
  |false=>rw[hr]at h;cases h
  |true=>
   rw[hr,aI,aA]at h;subst h;obtain⟨p,hp,rfl⟩:=r.ptr_inv;obtain rfl:mq=none:=by cases mq with|none=>rfl|some x=>exact rl.elim
   obtain rfl:kq=none:=by cases kq with|none=>rfl|some x=>exact rh.elim
   obtain rfl:mx'=none:=by cases mx' with|none=>rfl|some x=>exact rm.elim
   refine⟨.slice (some ⟨p.b,p.o+off,none⟩) n n,?_,.slc id off n n n p hp (λ_=>rfl) (aS _) (.inr (hZ id p 0 hp hr))⟩
   unfold Instr.sliceAt Instr.sliceBounds;rw[bL,bT,hu];simp[-bind_pure_comp,bL,bQ,cU,hz,Instr.sureAddr,jN]
def aM1{t:TypeId}{a b v:Value}{ts:Array TypeId}{ty:TypeId}{us:Array Value}(r:VR Y a b)(ht:ts[0]?=some t)(hb:us[0]?=some b)(h:aFT P t a=some v):
    ∃v',cI P (Builtin.len_ ts ty us)=some v'/\VR Y v v':=by
 unfold aFT at h;unfold Builtin.len_;simp only[ht,hb];rw[bL,bT];split at h<;>try cases h
 .rename_i e hu;split at h<;>try cases h
  rename_i base n c;have: ∃wg cap,b= .slice wg n cap:=by
   cases base with
   |none=>obtain⟨rfl,rfl,rfl⟩:=r.nilslc_inv;exact⟨none,0,rfl⟩
   |some a=>
    cases r with
    |same _ h=>simp[bN]at h
    |slc id off len c cap p h hc hl he=>exact⟨_,_,rfl⟩
    |emp a s cap h=>exact⟨_,_,rfl⟩
  obtain⟨wg,cap,rfl⟩:=this;exact⟨goInt n,by simp[hu,bQ],.same _ rfl⟩
 .rename_i hu;split at h<;>try cases h
  rename_i s;obtain rfl:=r.string_inv;exact⟨goInt s.size,by simp[hu,bQ],.same _ rfl⟩
 .rename_i n e hu;exact⟨goInt n,by simp[hu,bQ],.same _ rfl⟩
def Kq{t e:TypeId}(ht:P.underlying t=some (.slice e))(a:Addr)(l c l' c':Nat):cI P (Op.equal t (.slice (some a) l c) (.slice none l' c'))=some false:=by
 unfold Op.equal;rw[show Op.maxDepth=Nat.succ 9999 from rfl,Op.equalIn.eq_2,bL,bT,ht];rfl
def Kr{t e:TypeId}(ht:P.underlying t=some (.slice e))(a:Addr)(l c l' c':Nat):cI P (Op.equal t (.slice none l' c') (.slice (some a) l c))=some false:=by
 unfold Op.equal;rw[show Op.maxDepth=Nat.succ 9999 from rfl,Op.equalIn.eq_2,bL,bT,ht];rfl
def aMZ{op:BinOp}{t:TypeId}{a b c d v:Value}{x y:Operand}(r:VR Y a b)(s:VR Y c d)(ht: ∃e,P.underlying t=some (.slice e))(h:SY op a c=some v):
    ∃v',cI P (do eqGuard op t x y b d;binOp op t b d)=some v'/\VR Y v v':=by
 obtain⟨e,ht⟩:=ht;unfold SY at h;simp only at h;split at h
 .rename_i a0 l c l' c';obtain⟨rfl,rfl,rfl⟩:=s.nilslc_inv;have: ∃a1 l1 c1,b= .slice (some a1) l1 c1:=by
   cases r with
   |same _ h=>simp[bN]at h
   |slc id off len c cap p h hc hl he=>exact⟨_,_,_,rfl⟩
   |emp a s cap h=>exact⟨_,_,_,rfl⟩
  obtain⟨a1,l1,c1,rfl⟩:=this;cases op<;>simp only at h<;>first
   |(cases h;refine⟨_,?_,.same _ rfl⟩;simp only[bL,eqGuard,bD,Bool.false_eq_true,if_false,bQ,aL,binOp,Kq ht];done)
   |cases h
 .rename_i l c a0 l' c';obtain⟨rfl,rfl,rfl⟩:=r.nilslc_inv;have: ∃a1 l1 c1,d= .slice (some a1) l1 c1:=by
   cases s with
   |same _ h=>simp[bN]at h
   |slc id off len c cap p h hc hl he=>exact⟨_,_,_,rfl⟩
   |emp a s cap h=>exact⟨_,_,_,rfl⟩
  obtain⟨a1,l1,c1,rfl⟩:=this;cases op<;>simp only at h<;>first
   |(cases h;refine⟨_,?_,.same _ rfl⟩;simp only[bL,eqGuard,bD,Bool.false_eq_true,if_false,bQ,aL,binOp,Kr ht];done)
   |cases h
 .cases h
def iM(c:Call): ∀x∈c.args.toList,x∈(Op.call c).operands:=by
 intro x hx;simp only[Op.operands,Call.operands];exact Array.mem_append.2 (.inr (Array.mem_toList_iff.1 hx))
def aFQ{Z Z':Operand->Value}{o:Oper}{v:Value}(hρ: ∀x∈o.op.operands,VR Y (Z x) (Z' x))(h:lL P Z o=some v):
    ∃v',cI P (execOp Z' o)=some (.value v')/\VR Y v v':=by
 have fin: ∀{s:Sem Value},(∃v',cI P s=some v'/\VR Y v v')->∃v',cI P (do pure (Next.value (<-s)))=some (.value v')/\VR Y v v':=by
  rintro s ⟨v',h1,h2⟩;exact⟨v',by rw[bL,h1];rfl,h2⟩
 unfold lL at h;unfold execOp;cases ho:o.op<;>simp only[ho]at h hρ⊢ <;>try cases h
 case move x=>exact⟨_,rfl,hρ x (by simp[Op.operands])⟩
 case assign x=>exact⟨_,rfl,hρ x (by simp[Op.operands])⟩
 case pick c a b=>
  have hc:=hρ c (by simp[Op.operands])
  split at h<;>try cases h
  .rename_i hb;rw[hb]at hc;rw[hc.bool_inv];exact⟨_,rfl,hρ a (by simp[Op.operands])⟩
  .rename_i hb;rw[hb]at hc;rw[hc.bool_inv];exact⟨_,rfl,hρ b (by simp[Op.operands])⟩
 case build t parts=>
  refine fin (aA2 ?_ h);simpa using aHs parts.toList (λx hx=>hρ x.2 (by simp[Op.operands];exact⟨_,Array.mem_toList_iff.1 hx⟩))
 case nilCheck x=>
  have hx:=hρ x (by simp[Op.operands])
  split at h<;>try cases h
  rename_i a ha;rw[ha]at hx;generalize Z' x=u at hx⊢;cases hx with
  |same _ h=>simp[bN]at h
  |ptr id off p hp=>exact⟨_,rfl,.ptr id off p hp⟩
 case binOp op t x y yt=>
  have hx:=hρ x (by simp[Op.operands])
  have hy:=hρ y (by simp[Op.operands])
  cases hp:(cK (Z x)&&cK (Z y))with
  |true=>
   simp only[hp,aI]at h;simp only[aC]at hp;rw[hx.eq1 hp.1,hy.eq1 hp.2];exact fin (mE h)
  |false=>
   simp only[hp,aJ]at h;split at h<;>try cases h
   rename_i e hu;exact fin (aMZ hx hy ⟨e,hu⟩ h)
 case unOp op t x=>
  have hx:=hρ x (by simp[Op.operands])
  cases hp:bN (Z x)with
  |true=>simp only[hp,aI]at h;rw[hx.eq0 hp];exact fin (mE h)
  |false=>simp[hp]at h
 case convert s d x=>
  have hx:=hρ x (by simp[Op.operands])
  cases hp:bN (Z x)with
  |true=>simp only[hp,aI]at h;rw[hx.eq0 hp];exact fin (mE h)
  |false=>simp[hp]at h
 case makeFunc fn first captured=>
  refine⟨.func fn (first.map Z') (captured.map Z'),rfl,?_⟩
  have h1:=Df (Y:=Y) (Z:=Z) (Z':=Z') first.toList (λx hx=>hρ x (by simp[Op.operands];exact .inl (Array.mem_toList_iff.1 hx)))
  have h2:=Df (Y:=Y) (Z:=Z) (Z':=Z') captured.toList (λx hx=>hρ x (by simp[Op.operands];exact .inr (Array.mem_toList_iff.1 hx)))
  exact .fn fn _ _ _ _ (by simp) (by simpa using h1.2) (by simp) (by simpa using h2.2)
 case fieldAddr s x f=>exact fin (Gk (hρ x (by simp[Op.operands])) h)
 case field t x f=>exact fin (aAZ (hρ x (by simp[Op.operands])) h)
 case indexAddr t x i=>exact fin (Gj (hρ x (by simp[Op.operands])) (hρ i (by simp[Op.operands])) h)
 case index t x i=>exact fin (aAX (hρ x (by simp[Op.operands])) (hρ i (by simp[Op.operands])) h)
 case extract t i=>
  have hx:=hρ t (by simp[Op.operands])
  split at h<;>try cases h
  rename_i vs ki;rw[ki]at hx;obtain⟨us,he,hl⟩:=hx.tuple_inv;rw[he];obtain⟨u,hu,hr⟩:=hl.get (i:=i) (x:=v) (by simpa using h)
  refine fin ⟨u,?_,hr⟩;have:us[i]?=some u:=by simpa using hu
  simp[Instr.extract,this,bQ]
 case call c=>
  unfold rS at h;have hargs:=Df (Y:=Y) (Z:=Z) (Z':=Z') c.args.toList (λx hx=>hρ x (iM c x hx))
  split at h<;>try cases h
  .rename_i hc;split at h<;>try cases h
   rename_i t x ht hx;have lj:c.args.toList[0]?=some x:=by simpa using hx
   obtain⟨v',h1,h2⟩:=aM1 (P:=P) (ts:=c.argTypes) (ty:=o.type) (us:=c.args.map Z') (hρ x (iM c x (List.mem_of_getElem? lj))) ht (by simp[hx]) h
   refine⟨v',?_,h2⟩;simp only[resolve,hc,bL,bQ,aL,invoke,builtin,h1]
  .rename_i hc;cases hp:(c.args.map Z).toList.all bN with
   |false=>rw[hp]at h;cases h
   |true=>
    simp only[hp,aI]at h;have e:c.args.map Z'=c.args.map Z:=by
     apply Array.toList_inj.1;simpa using hargs.eq0 (by simpa using hp)
    obtain⟨v',h1,h2⟩:=mE (Y:=Y) h;refine⟨v',?_,h2⟩;simp only[resolve,hc,bL,bQ,aL,invoke,builtin,e,h1]
  .rename_i hc;cases hp:(c.args.map Z).toList.all bN with
   |false=>rw[hp]at h;cases h
   |true=>
    simp only[hp,aI]at h;have e:c.args.map Z'=c.args.map Z:=by
     apply Array.toList_inj.1;simpa using hargs.eq0 (by simpa using hp)
    obtain⟨v',h1,h2⟩:=mE (Y:=Y) h;refine⟨v',?_,h2⟩;simp only[resolve,hc,bL,bQ,aL,invoke,builtin,e,h1]
end
end Go.AI
namespace Go.PI
open Go.AI
structure Dp(p p':PSt):Prop where
 next:p.next<=p'.next
 dirty: ∀id,id∈p.dirty->id∈p'.dirty
 wr: ∀id,id∈p.wr->id∈p'.wr
 mem: ∀k,k<p.next->k∉p'.dirty->p'.mem.get k=p.mem.get k
def Dp.refl(p:PSt):Dp p p:=⟨aS _,λ_ h=>h,λ_ h=>h,λ_ _ _=>rfl⟩
def Dp.trans{p p' p'':PSt}(h:Dp p p')(h':Dp p' p''):Dp p p'':=
 ⟨Nat.le_trans h.next h'.next,λid hi=>h'.dirty id (h.dirty id hi),λid hi=>h'.wr id (h.wr id hi),λk hk hd=>(h'.mem k (Nat.lt_of_lt_of_le hk h.next) hd).trans (h.mem k hk λhh=>hd (h'.dirty k hh))⟩
def mO{id:Nat}{l:List Nat}{k:Nat}:k∈FK id l↔k=id∨k∈l:=by
 unfold FK;cases h:l.contains id with
 |true=>
  simp only[aI];constructor
  .exact .inr
  .rintro(rfl|h')
   .simpa using h
   .exact h'
 |false=>simp[aJ]
def Dp.upd(p:PSt)(id:Nat)(o:kK):Dp p (p.upd id o):=
 ⟨aS _,λk hk=>mO.2 (.inr hk),λk hk=>mO.2 (.inr hk),λk _ hd=>by
  simp only[PSt.upd,Tr.get_set];rw[bH (λe=>hd (mO.2 (.inl e)))]⟩
def Dp.mark(p:PSt)(id:Nat)(o:kK):Dp p (p.mark id o):=
 ⟨aS _,λk hk=>mO.2 (.inr hk),λk hk=>hk,λk _ hd=>by
  simp only[PSt.mark,Tr.get_set];rw[bH (λe=>hd (mO.2 (.inl e)))]⟩
structure Adv(J:Nu)(I:Ga)(p:PSt)(H:St)(J':Nu)(I':Ga)(p':PSt)(H':St):Prop where
 keep:Keep J I H H'
 mon:Mon H J J'
 out:GoOut H I I'
 dp:Dp p p'
 rz: ∀a cs m,H.get a=some (.cells cs m)->∃de b,H'.get a=some (.cells de {m with tip:=b})
 bx: ∀id a,J id=some (some a)->id∉p'.wr->H'.get a=H.get a/\J' id=some (some a)
def Adv.refl(J:Nu)(I:Ga)(p:PSt)(H:St):Adv J I p H J I p H:=⟨.refl J I H,.refl H J,.refl H I,.refl p,λa cs m h=>⟨cs,m.tip,h⟩,λ_ _ h _=>⟨rfl,h⟩⟩
def Adv.trans{J J' J'':Nu}{I I' I'':Ga}{p p' p'':PSt}{H H' H'':St}(h:Adv J I p H J' I' p' H')(h':Adv J' I' p' H' J'' I'' p'' H''):Adv J I p H J'' I'' p'' H'':=
 ⟨h.keep.trans h.mon h'.keep h.out,h.mon.trans h'.mon h.keep.dom,h.out.trans h'.out h.keep.dom,h.dp.trans h'.dp,λa cs m e=>by
  obtain⟨de,b,h1⟩:=h.rz a cs m e;obtain⟨xw,b',h2⟩:=h'.rz a de _ h1;exact⟨xw,b',h2⟩,λid a hi hd=>by
  obtain⟨e1,e2⟩:=h.bx id a hi λhh=>hd (h'.dp.wr id hh)
  obtain⟨e3,e4⟩:=h'.bx id a e2 hd;exact⟨e3.trans e1,e4⟩⟩
def Adv.g{J:Nu}{I I':Ga}{p:PSt}{H:St}(g:GoOut H I I'):Adv J I p H J I' p H:=⟨.refl J I H,.refl H J,g,.refl p,λa cs m h=>⟨cs,m.tip,h⟩,λ_ _ h _=>⟨rfl,h⟩⟩
def lP(pc:gT)(ac:FuncId->Array Value->St->Option (Value×St)):Prop:=
 ∀g args p v own p',pc g args p=some (v,own,p')->∀(J:Nu) (I:Ga) (H:St) (us:Array Value),Mem J I p H->RL J H (args.map (·.1)) us.toList->
  (∀(i:Nat) (x:PV) (w:Value),args[i]?=some (x,true)->us.toList[i]?=some w->Ow J I H (.slot i) x w)->
  ∃u H' J' I',ac g us H=some (u,H')/\R J' H' v u/\(own=true->Ow J' I' H' .hand v u)/\Mem J' I' p' H'/\Adv J I p H J' I' p' H'/\∀j,j<H.next->H.get j=none->H'.get j=none
section
variable{P:Program}{J J':Nu}{I I1 I':Ga}{H H':St}{S:PS}{A:Slots}
def Mem.some_get{p:PSt}(M:Mem J I p H){id a:Nat}(h:J id=some (some a)):H.get a≠none:=by
 obtain⟨o,ho⟩:=M.live id a h;have:=M.get id o ho;cases o with
 |box cs=>obtain⟨a',us,h1,h2,_⟩:=this;rw[h]at h1;simp only[aA]at h1;subst h1;rw[h2];simp
 |row z ag cs=>obtain⟨a',us,h1,h2,_⟩:=this;rw[h]at h1;simp only[aA]at h1;subst h1;rw[h2];simp
 |map es=>exact this.elim
 |gone=>simp only[ObjR]at this;rw[h]at this;cases this
def Mem.no_tip{p:PSt}(M:Mem J I p H){id a:Nat}(h:J id=some (some a)){cs:List Value}{m:pM}(hg:H.get a=some (.cells cs m)):m.tip=false:=by
 obtain⟨o,ho⟩:=M.live id a h;have:=M.get id o ho;cases o with
 |box de=>obtain⟨a',us,h1,h2,_⟩:=this;rw[h]at h1;simp only[aA]at h1;subst h1;rw[h2]at hg;simp only[aA,AObj.cells.injEq]at hg;obtain⟨_,rfl⟩:=hg;rfl
 |row z ag de=>obtain⟨a',us,h1,h2,_⟩:=this;rw[h]at h1;simp only[aA]at h1;subst h1;rw[h2]at hg;simp only[aA,AObj.cells.injEq]at hg;obtain⟨_,rfl⟩:=hg;rfl
 |map es=>exact this.elim
 |gone=>simp only[ObjR]at this;rw[h]at this;cases this
def aUN{id:Nat}{o:AObj}(hf:H.get id=none): ∀a cs m,H.get a=some (.cells cs m)->∃de b,(H.put id o).get a=some (.cells de {m with tip:=b}):=
 λa cs m h=>⟨cs,m.tip,by rw[bZ,bH (λe=>by rw[e,hf]at h;cases h)];exact h⟩
def Az(I:Ga):Ga:=λi=>match I i with
 |some (.cell id off)=>some (.cell id off)
 |some (.arg i)=>some (.slot i)
 |some _=>some .out
 |none=>none
def after(H:St)(I I':Ga):Ga:=λi=>match I i with
 |some (.cell _ _)=>I' i
 |some (.arg _)=>I' i
 |none=>I' i
 |some k=>if(H.get i).isNone=true then I' i else some k
def S4{i t:Nat}(h:I i=some (.slot t))(hn:H.get i≠none):after H I I' i=some (.slot t):=by cases e:H.get i with
 |none=>exact absurd e hn
 |some o=>simp[after,h,e]
def aAY{i:Nat}(h:I i=some .out)(hn:H.get i≠none):after H I I' i=some .out:=by cases e:H.get i with
 |none=>exact absurd e hn
 |some o=>simp[after,h,e]
def QA{i:Nat}{k:K}(h:I' i=some k)(hk:k≠ .out)(hg:GoOut H (Az I) I'):after H I I' i=some k:=by
 unfold after;split
 .exact h
 .exact h
 .exact h
 .rename_i k' bm hne2 jb;split
  .exact h
  .rename_i hn;have:Az I i=some .out:=by
    unfold Az;rw[jb];cases k'<;>first|rfl|exact absurd rfl (bm _ _)|exact absurd rfl (hne2 _)
   rw[hg i (λe=>hn (by rw[e];rfl)) this]at h
   simp only[aA]at h;exact absurd h.symm hk
def aMH{pc:gT}{ac:FuncId->Array Value->St->Option (Value×St)}(bj:lP pc ac){p p':PSt}(M:Mem J I p H)(F:FR J I H S A){g:Nat}{args:List (PV×Bool)}{us:Array Value}(hr:RL J H (args.map (·.1)) us.toList)
    (kx: ∀(i:Nat) (x:PV) (w:Value),args[i]?=some (x,true)->us.toList[i]?=some w->Ow J I H (.arg i) x w) {v:PV} {own:Bool} (h:pc g args p=some (v,own,p')):
    ∃u H' J' I',ac g us H=some (u,H')/\R J' H' v u/\Mem J' I' p' H'/\FR J' I' H' S A/\(own=true->Ow J' I' H' .hand v u)/\Adv J I p H J' I' p' H'/\∀j,j<H.next->H.get j=none->H'.get j=none:=by
 have Mc:Mem J (Az I) p H:=⟨M.le,M.lt,M.inj,M.live,λid o ho=>(M.get id o ho).g2 λi off hi=>by simp only[Az,hi],M.free,M.ver⟩
 obtain⟨u,H',J',I',h1,h2,h3,h4,h5,h6⟩:=bj g args p v own p' h J (Az I) H us Mc hr (λi x w hx hw=>(kx i x w hx hw).weak λj hj=>by simp only[Az,hj])
 refine⟨u,H',J',after H I I',h1,h2,?_,?_,λho=>(h3 ho).weak λi hi=>QA hi (by simp) h5.out,⟨?_,h5.mon,?_,h5.dp,h5.rz,h5.bx⟩,h6⟩
 .exact⟨h4.le,h4.lt,h4.inj,h4.live,λid o ho=>(h4.get id o ho).g2 λi off hi=>QA hi (by simp) h5.out,h4.free,h4.ver⟩
 .exact F.keep h5.keep h5.mon λi t hi hn=>⟨by simp only[Az,hi],S4 hi hn⟩
 .exact h5.keep.weak λa ha=>by simp only[Az,ha]
 .exact λi hn hi=>aAY hi hn
def Ph{es:List PV}{bs:List UInt8}(h:jX es=some bs){us:List Value}(r:RL J H es us): ∃ns:List Int,us=ns.map (Value.int .u8)/\bs=ns.map (λn=>UInt8.ofNat n.toNat)/\AI.bytesOf us=some ns:=by
 induction es generalizing bs us with
 |nil=>simp only[jX,aA]at h;subst h;have:=r.nil_inv;subst this;exact⟨[],rfl,rfl,rfl⟩
 |cons x es ih=>
  unfold jX at h;split at h
  .cases ‹_::_=[]›
  .rename_i n rr e;cases e;rw[aF]at h;obtain⟨bs',h1,rfl⟩:=h;obtain⟨u,jo,rfl,hx,hr⟩:=r.cons_inv;cases hx;obtain⟨ns,rfl,rfl,h4⟩:=ih h1 hr;exact⟨n::ns,rfl,rfl,by simp only[AI.bytesOf,h4];rfl⟩
  .cases h
def FY{es:List PV}{bs:List UInt8}(h:jX es=some bs):eY es=es:=by
 induction es generalizing bs with
 |nil=>rfl
 |cons x es ih=>
  unfold jX at h;split at h
  .cases ‹_::_=[]›
  .rename_i n rr e;cases e;rw[aF]at h;obtain⟨bs',h1,_⟩:=h;have:=ih h1;simp only[eY,aN,PV.cells]at this⊢;rw[this];rfl
  .cases h
def aAx(ns:List Int)(b:ByteArray):(ns.foldl (λr n=>r.push (UInt8.ofNat n.toNat)) b).data.toList=b.data.toList++ns.map (λn=>UInt8.ofNat n.toNat):=by
 induction ns generalizing b with
 |nil=>simp
 |cons n ns ih=>simp only[List.foldl_cons,ih,aO];simp[ByteArray.push]
def aAj{s d:TypeId}{x v:PV}{u:Value}(r:R J H x u)(h:BB P s d x=some v):
    ∃w,(match(bif bN u then cQ P (convert s d u)else none)with|some y=>some y|none=>sZ P H s d u)=some w/\R J H v w:=by
 unfold BB at h;split at h<;>try cases h
 rename_i e hs hd;split at h<;>try cases h
 rename_i he;split at h<;>try cases h
 rename_i es pz;rw[aF]at h;obtain⟨bs,hb,rfl⟩:=h;have wq: ∀ns:List Int,bs=ns.map (λn=>UInt8.ofNat n.toNat)->R J H (.str bs) (.string (ns.foldl (λr n=>r.push (UInt8.ofNat n.toNat)) ByteArray.empty)):=by
  intro ns hn;have:=R.str (J:=J) (H:=H) (ns.foldl (λr n=>r.push (UInt8.ofNat n.toNat)) ByteArray.empty)
  rw[aAx]at this;rw[hn];simpa using this
 have ro: ∃w,(match(bif bN (.slice none 0 0)then cQ P (convert s d (.slice none 0 0))else none)with|some y=>some y|none=>sZ P H s d (.slice none 0 0))=some w/\R J H (.str []) w:=by
  refine⟨.string ByteArray.empty,?_,.str ByteArray.empty⟩;have:cQ P (convert s d (.slice none 0 0))=some (.string ByteArray.empty):=by
   simp only[cQ,convert,bL,bT,hs,hd,he,aL,Conv.bytesToString,bQ];rfl
  simp only[bN,this];rfl
 rcases rQ pz with⟨h1,rfl⟩|h1
 .simp only[jX,aA]at hb;subst hb;rcases h1 with rfl|rfl
  .cases r with
   |emp0=>exact ro
   |emp1 id off c rcs m hr=>
    refine⟨_,by simp only[bN,aJ,sZ,hs,hd,he,hr.1,AW,AI.bytesOf,aK];rfl,?_⟩
    exact wq [] rfl
   |emp2 b o s' c=>exact⟨_,by simp only[bN,aJ,sZ,hs,hd,he];rfl,wq [] rfl⟩
  .cases r;exact ro
 .subst h1;cases r with
  |sl _ _ id off c rcs m hz ja hr hm bu hh=>
   obtain⟨_,_,_,nk,m',l,k1,k2,k3,k4,k5⟩:=HS (.sl 1 es id off c rcs m hz ja hr hm bu hh);rw[FY hb]at k5;obtain⟨ns,rfl,h2,h3⟩:=Ph hb k5;rw[Nat.mul_one]at k4;exact⟨_,by simp only[bN,aJ,sZ,hs,hd,he,k1.1,k4,h3,aK],wq ns h2⟩
def PD{xs:List PV}{us:List Value}(r:RL J H xs us):RL J H ((rG xs).map (·.1)) us/\∀(i:Nat) (x:PV),(rG xs)[i]?≠some (x,true):=by
 induction xs generalizing us with
 |nil=>exact⟨r,λi x h=>by simp[rG]at h⟩
 |cons x xs ih=>
  obtain⟨u,jo,rfl,hx,hr⟩:=r.cons_inv;obtain⟨h1,h2⟩:=ih hr;refine⟨.cons hx.wk h1,λi y h=>?_⟩
  cases i with
  |zero=>simp[rG]at h
  |succ i=>simp only[rG,aT]at h;exact h2 i y h
def sJ(xs:List PV):(rG xs).length=xs.length:=by
 induction xs with
 |nil=>rfl
 |cons x xs ih=>simp[rG,ih]
def aEe(x:PV):JU (PI.wk x)=false:=by
 cases x with
 |sl z es=>cases es<;>rfl
 |tup xs=>
  cases xs with
  |nil=>rfl
  |cons y ys=>
   show JU (.tup (PI.wk y::wks ys))=false;cases y with
   |sl z es=>cases es<;>rfl
   |_=>rfl
 |_=>rfl
def aLl{x:PV}{xs:List PV}:JU (.tup (x::xs))=match x with| .sl _ []=>true|_=>false:=by
 cases x with
 |sl z es=>cases es<;>rfl
 |_=>rfl
def Ow.wk{k:K}{x:PV}{u:Value}(o:Ow J I H k x u)(h:JU x=false):Ow J I H k (wk x) u:=by
 induction o with
 |nil x=>exact .nil _
 |exact x _ _ _ rcs m hr=>exact .exact _ _ _ _ rcs m hr
 |zer x b o=>exact .zer _ b o
 |tip z es id off c rcs m hr ht hw hg hb hk=>
  cases es with
  |nil=>simp[JU]at h
  |cons e es=>exact .tip z (e::es) id off c rcs m hr ht hw hg hb hk
 |tup x xs u us hx o ih=>
  refine .tup _ _ u us ?_ ?_
  .cases x with
   |sl z es=>cases es<;>rfl
   |agg _=>cases hx
   |tup _=>cases hx
   |und=>cases hx
   |_=>rfl
  cases o with
  |nil=>exact .nil _
  |exact _ _ _ _ rcs m hr=>exact .exact _ _ _ _ rcs m hr
  |zer _ b o=>exact .zer _ b o
  |tip z es id off c rcs m hr ht hw hg hb hk=>
   cases es with
   |nil=>simp[JU]at h
   |cons e es=>exact .tip z (e::es) id off c rcs m hr ht hw hg hb hk
  |tup y ys v vs _ o'=>cases hx
def aDu{take:Bool}: ∀(xs:List Operand) (n:Nat) (I:Ga) (S:PS),FR J I H S A->xs.all (cG P)=true->RL J H ((lX take S xs).1.map (·.1)) (xs.map (ev A))/\
    ∃I',FR J I' H (lX take S xs).2 A/\(∀(i:Nat) (x:PV) (w:Value),(lX take S xs).1[i]?=some (x,true)->(xs.map (ev A))[i]?=some w->Ow J I' H (.arg (n+i)) x w)/\G2 I I'/\(∀i k,k<n->I i=some (.arg k)->I' i=some (.arg k)):=by
 intro xs;induction xs with
 |nil=>intro n I S F _;exact⟨.nil,I,F,λi x w h=>(by simp[lX]at h),.refl I,λ_ _ _ h=>h⟩
 |cons x xs ih=>
  intro n I S F hx;simp only[aP,aC]at hx;have rx:=cX F hx.1;cases take with
  |false=>
   obtain⟨h1,I',h2,h3,h4,h5⟩:=ih (n+1) I S F hx.2;refine⟨.cons rx.wk h1,I',h2,λi y w hy hw=>?_,h4,λi k hk hi=>h5 i k (by omega) hi⟩
   cases i with
   |zero=>simp[lX]at hy
   |succ i=>
    simp only[lX,aJ,aT]at hy;simp only[aO,aT]at hw;have:=h3 i y w hy hw;rw[show n+(i+1)=n+1+i by omega];exact this
  |true=>
   obtain⟨I0,F0,how,g0,ga⟩:=PH F x hx.1;have F1:FR J (PI.mv .hand (.arg n) I0) H (mX S x) A:=F0.g λi t hi=>by simp[PI.mv,hi]
   obtain⟨h1,I',h2,h3,h4,h5⟩:=ih (n+1) _ (mX S x) F1 hx.2;refine⟨.cons rx.wk h1,I',h2,λi y w hy hw=>?_,(g0.trans (.mv (by simp) (by simp))).trans h4,λi k hk hi=>?_⟩
   .cases i with
    |zero=>
     simp only[lX,aU,aA,aB]at hy;simp only[aO,aU,aA]at hw;obtain⟨rfl,hb⟩:=hy;subst hw;simp only[Bool.true_and,aC,Bool.not_eq_true']at hb;exact(((how hb.1).mv (k':= .arg n)).wk hb.2).weak λj hj=>h5 j n (by omega) hj
    |succ i=>
     simp only[lX,aI,aT]at hy;simp only[aO,aT]at hw;have:=h3 i y w hy hw;rw[show n+(i+1)=n+1+i by omega];exact this
   .exact h5 i k (by omega) (by simp[PI.mv,ga i k hi])
def aWO{pc:gT}{ac:FuncId->Array Value->St->Option (Value×St)}(bj:lP pc ac){p p':PSt}{base i:Nat}(M:Mem J I p H)(F:FR J I H S A)(hf:H.get (base+i)=none)(bi:base+i<H.next)
    {o:Oper} (ho:o.op.operands.all (cG P)=true) {sq take own:Bool} {v:PV} {S':PS} (h:Gy P pc sq o take S p=some (v,own,S',p')):
    ∃u H' J' I',mP P ac base i o A H=some (u,H')/\R J' H' v u/\Mem J' I' p' H'/\FR J' I' H' S' A/\(own=true->Ow J' I' H' .hand v u)/\Adv J I p H J' I' p' H'/\
      (∀j,j<H.next->j≠base+i->H.get j=none->H'.get j=none):=by
 unfold Gy at h;unfold mP;cases hk:cO o with
 |pure=>
  simp only[hk,aF,aB]at h;obtain⟨⟨v',fp,S''⟩,hp,rfl,rfl,rfl,rfl⟩:=h;unfold DY at hp;split at hp
  .rename_i r hpp;simp only[aA]at hp;subst hp;obtain⟨u,I',h1,h2,h3,h4,h5⟩:=Pe F ho hpp;exact⟨u,H,J,I',by simp only[vQ,h1];rfl,h2,M.g2 h5,h3,h4,.g h5.out,λj _ _ hj=>hj⟩
  .cases sq with
   |false=>cases hp
   |true=>
    simp only[aI]at hp;obtain⟨dst,op,ty,pos,af,g⟩:=o;cases op<;>simp only at hp<;>try cases hp
    rename_i s d x;rw[aF]at hp;obtain⟨v2,hb,he⟩:=hp;simp only[aB]at he;obtain⟨rfl,rfl,rfl⟩:=he
    replace ho:=uR ho
    simp only[Op.operands,aP,List.all_nil,bE]at ho;obtain⟨w,h1,h2⟩:=aAj (cX F ho) hb;exact⟨w,H,J,I,by simp only[vQ,lL,aF];exact⟨w,h1,rfl⟩,h2,M,F,λh=>(by cases h),.refl J I _ H,λj _ _ hj=>hj⟩
 |read=>
  simp only[hk,aF,aB]at h;obtain⟨⟨v',fp,p''⟩,hp,rfl,rfl,rfl,rfl⟩:=h;obtain⟨u,I',h1,h2,h3,h4,h5,h6⟩:=aDn M F ho hp;refine⟨u,H,J,I',by simp only[h1];rfl,h2,h3,h4,h5,⟨.refl J I H,.refl H J,h6,?_,λa cs m h=>⟨cs,m.tip,h⟩,λ_ _ h _=>⟨rfl,h⟩⟩,λj _ _ hj=>hj⟩
  obtain⟨dst,op,ty,pos,af,g⟩:=o;cases op with
  |load t a=>
   simp only[mW]at hp;split at hp
   .rename_i v2 hv;cases hc:take&&CS v2 with
    |false=>rw[hc,aJ]at hp;simp only[aA,aB]at hp;obtain⟨_,_,rfl⟩:=hp;exact .refl p
    |true=>
     rw[hc,aI]at hp;simp only[aA,aB]at hp;obtain⟨_,_,rfl⟩:=hp;unfold fX;split
     .split
      .split
       .exact .mark p _ _
       .exact .refl p
      .exact .refl p
     .exact .refl p
   .cases hp
  |slice t x lo hi mx=>
   simp only[mW,aF,aB]at hp;obtain⟨_,_,_,_,rfl⟩:=hp;exact .refl p
  |_=>simp only[mW]at hp;cases hp
 |alloc=>
  simp only[hk,aF,aB]at h;obtain⟨⟨v',fp,p''⟩,hp,rfl,rfl,rfl,rfl⟩:=h;obtain⟨u,ob,J',I',h1,h2,h3,h4,h5,h6,h7,h8,h9,h10,h11⟩:=aAn M F hf bi ho hp;refine⟨u,H.put (base+i) ob,J',I',by simp only[h1];rfl,h2,h3,h4,h5,⟨(Keep.put hf).weak λ_ _=>rfl,h6,h7,⟨h8,λid hd=>by rw[h10.1];exact hd,λid hd=>by rw[h10.2];exact hd,λk hk _=>h11 k hk⟩,aUN hf,λid a hi _=>⟨by rw[bZ,bH (λe=>M.some_get hi (by rw[e];exact hf))],by rw[h9 id (M.le _ _ hi)];exact hi⟩⟩,λj _ bm hj=>?_⟩
  rw[bZ,bH bm];exact hj
 |eff=>
  simp only[hk]at h;simp only;obtain⟨dst,op,ty,pos,af,g⟩:=o
  replace ho:=uR ho
  cases op with
  |store t a x=>
   simp only[Op.operands,aP,List.all_nil,bE,aC]at ho;simp only[FX,aF,aB]at h;obtain⟨p2,hp,rfl,rfl,rfl,rfl⟩:=h;obtain⟨I0,F0,how,g0⟩:=wI F x ho.2;obtain⟨H',I',h1,h2,h3,h4,h5,h6,h7,i0,a0,hi0,hd0,ho0⟩:=aAb (M.g2 g0) F0 (cX F ho.1) (cX F ho.2) how hp;refine⟨undef,H',J,I',by simp only[tU,h1];rfl,.und _,h2,h3,λh=>(by cases h),⟨h4.weak λa ha=>(g0 a).1 ha,.refl H J,g0.out.trans h5 (λ_ h=>h),?_,?_,λid a hi hd=>⟨ho0 a λe=>hd (by rw[M.inj id i0 a hi (by rw[e];exact hi0)];exact hd0),hi⟩⟩,?_⟩
   ·
    unfold oR at hp;split at hp
    .split at hp
     .rename_i cs n _ _;cases hc:Nat.beq (cP S x).cells.length n&&Nat.ble _ cs.length&&(cP S x).cells.all PV.one with
      |false=>rw[hc,aJ]at hp;cases hp
      |true=>rw[hc,aI]at hp;simp only[aA]at hp;subst hp;exact .upd p _ _
     .rename_i z ag cs n _ _;cases hc:Nat.beq (cP S x).cells.length n&&Nat.ble _ cs.length&&(cP S x).cells.all PV.one with
      |false=>rw[hc,aJ]at hp;cases hp
      |true=>rw[hc,aI]at hp;simp only[aA]at hp;subst hp;exact .upd p _ _
     .cases hp
    .cases hp
   .intro a' cs m hg;unfold eT at h1;split at h1
    .split at h1
     .rename_i cs2 m2 n bh _;cases hc:m2.wr&&Nat.beq (ev A x).cells.size n&&Nat.ble _ cs2.length&&(ev A x).cells.toList.all one with
      |false=>rw[hc,aJ]at h1;cases h1
      |true=>
       rw[hc,aI]at h1;split at h1
       .simp only[aA]at h1;subst h1;rw[bZ];split
        .rename_i e;subst e;have:=(eO bh).1;rw[hg]at this;simp only[aA,AObj.cells.injEq]at this;obtain⟨_,rfl⟩:=this;exact⟨_,m.tip,rfl⟩
        .exact⟨cs,m.tip,hg⟩
       .rename_i gg vv hgg;cases hlm:m2.tip&&Nat.ble m2.lim _ with
        |true=>
         rw[hlm,aI]at h1;simp only[aA]at h1;subst h1;rw[bZ];split
         .rename_i e;subst e;have:=(eO bh).1;rw[hg]at this;simp only[aA,AObj.cells.injEq]at this;obtain⟨_,rfl⟩:=this;exact⟨_,m.tip,rfl⟩
         .exact⟨cs,m.tip,hg⟩
        |false=>
        rw[hlm,aJ]at h1;simp only[aA]at h1;subst h1;exfalso;have hv:=h4.vers;have h0:=M.ver gg;have bf:=(eO bh).2;simp only[St.good,hgg]at bf;have hvv:=aE bf;have h0':=h2.ver gg;simp only[St.bump,St.ver,Tr.get_set,if_true,Option.getD_some]at h0';omega
     .cases h1
    .cases h1
   .intro j hj bm hn;cases hh:H'.get j with
    |none=>rfl
    |some ob=>
     exfalso;unfold eT at h1;split at h1
     .split at h1
      .rename_i cs2 m2 n bh _;cases hc:m2.wr&&Nat.beq (ev A x).cells.size n&&Nat.ble _ cs2.length&&(ev A x).cells.toList.all one with
       |false=>rw[hc,aJ]at h1;cases h1
       |true=>
        rw[hc,aI]at h1;have dj: ∀k o,H.row k=some (cs2,m2)->(H.put k o).get j=some ob->False:=λk o bh hh=>by
         rw[bZ]at hh;split at hh
         .rename_i e;rw[<-e]at bh;rw[(eO bh).1]at hn;cases hn
         .rw[hn]at hh;cases hh
        split at h1
        .simp only[aA]at h1;subst h1;exact dj _ _ bh hh
        .cases hlm:m2.tip&&Nat.ble m2.lim _ with
         |true=>rw[hlm,aI]at h1;simp only[aA]at h1;subst h1;exact dj _ _ bh hh
         |false=>
         rw[hlm,aJ]at h1;simp only[aA]at h1;subst h1;have:(H.put _ _).get j=some ob:=hh;rw[bZ]at this;split at this
         .rename_i e;subst e;rw[(eO bh).1]at hn;cases hn
         .rw[hn]at this;cases this
      .cases h1
     .cases h1
  |call c=>
   obtain⟨callee,cargs,argTypes⟩:=c;simp only[Op.operands,Call.operands,Array.toList_append,List.all_append,aC]at ho;have hgen: ∀{g:Nat} {args:List (PV×Bool)},sF take S ⟨callee,cargs,argTypes⟩=some (g,args)->∃us I',De (ev A) ⟨callee,cargs,argTypes⟩=some (g,us)/\RL J H (args.map (·.1)) us.toList/\
          FR J I' H (lX take S cargs.toList).2 A/\(∀(i:Nat) (x:PV) (w:Value),args[i]?=some (x,true)->us.toList[i]?=some w->Ow J I' H (.arg i) x w)/\G2 I I':=by
    intro g' args hc;unfold sF at hc;split at hc
    .rename_i f tj;simp only at tj;subst tj;simp only[De];have hfo:cG P f=true:=by simpa using ho.1
     have rf:=cX F hfo;split at hc
     .rename_i gg first captured hpf
      simp only[aA,aB]at hc;obtain⟨rfl,rfl⟩:=hc;rw[hpf]at rf;generalize ev A f=w at rf;cases rf with
      |fn _ _ _ us vs hl hh fa hh'=>
       have h1:RL J H first us.toList:=⟨hl,hh⟩
       have h2:RL J H captured vs.toList:=⟨fa,hh'⟩;obtain⟨n1,n2⟩:=PD h1;obtain⟨m1,m2⟩:=PD h2;obtain⟨p1,I',p2,p3,p4,_⟩:=aDu (take:=take) cargs.toList first.length I S F ho.2
       have dm:(lX take S cargs.toList).1.length=cargs.toList.length:=by have:=p1.1;simpa using this
       refine⟨_,I',rfl,?_,p2,λi x w hx hw=>?_,p4⟩
       .have:=n1.append (p1.append m1);simpa using this
       .simp only[Array.toList_append,Array.toList_map,aQ]at hw;rcases Nat.lt_or_ge i first.length with hi|hi
        .rw[List.getElem?_append_left (by rw[sJ];exact hi)]at hx
         exact absurd hx (n2 i x)
        .rw[List.getElem?_append_right (by rw[sJ];exact hi),sJ]at hx
         rw[List.getElem?_append_right (by rw[<-h1.1];exact hi),<-h1.1]at hw
         rcases Nat.lt_or_ge (i-first.length) cargs.toList.length with hj|hj
         .rw[List.getElem?_append_left (by rw[dm];exact hj)]at hx
          rw[List.getElem?_append_left (by rw[List.length_map];exact hj)]at hw
          have:=p3 _ x w hx hw;rw[show first.length+(i-first.length)=i by omega]at this
          exact this
         .rw[List.getElem?_append_right (by rw[dm];exact hj)]at hx
          exact absurd hx (m2 _ x)
     .cases hc
    .cases hc
   cases callee with
   |builtin b=>
    cases b with
    |append=>
     simp only[FX]at h;simp only[tU];split at h
     .rename_i s x hargs;simp only[hargs]at ho⊢;simp only[aP,List.all_nil,bE,aC]at ho;simp only[aF,aB]at h;obtain⟨⟨v',fp,S''⟩,hp,rfl,rfl,rfl,rfl⟩:=h;obtain⟨u,H',I',h1,h2,h3,h4,h5,h6,h7,h8⟩:=RO M F hf bi ho.2.1 ho.2.2 hp;have bc: ∀j,H'.get j=H.get j∨j=base+i∨(∃cs m b,(H.get j=some (.cells cs m)/\m.tip=true)/\H'.get j=some (.cells cs {m with tip:=b})):=by
       intro j;unfold mQ at h1;split at h1
       .split at h1
        .rename_i e d _ _;cases hc:Gd d (ev A x)with
         |false=>rw[hc,aJ]at h1;cases h1
         |true=>
          rw[hc,aI]at h1;split at h1
          .rename_i info _;split at h1
           .rename_i n xs z _ _;cases hc2:xs.all one&&Nat.ble 1 info.size&&Nat.ble 1 info.bytes&&Nat.beq z.cells.size info.size&&gO (ev A s)with
            |false=>rw[hc2,aJ]at h1;cases h1
            |true=>
             rw[hc2,aI]at h1;cases hc3:Nat.beq n 0 with
             |true=>rw[hc3,aI]at h1;simp only[aA,aB]at h1;obtain⟨_,rfl⟩:=h1;exact .inl rfl
             |false=>
              rw[hc3,aJ]at h1;have dj: ∀o,(H.put (base+i) o).get j=H.get j∨j=base+i∨(∃cs m b,(H.get j=some (.cells cs m)/\m.tip=true)/\(H.put (base+i) o).get j=some (.cells cs {m with tip:=b})):=λo=>by
               rw[bZ];by_cases e:j=base+i
               .exact .inr (.inl e)
               .rw[bH e];exact .inl rfl
              unfold mC at h1;split at h1
              .cases hc4:Nat.ble (n*info.bytes) 1073741824 with
               |false=>rw[hc4,aJ]at h1;cases h1
               |true=>rw[hc4,aI]at h1;simp only[aA,aB]at h1;obtain⟨_,rfl⟩:=h1;exact dj _
              .rename_i id off len k _;cases hc4:Nat.ble ((len+n)*info.bytes) 1073741824 with
               |false=>rw[hc4,aJ]at h1;cases h1
               |true=>
                rw[hc4,aI]at h1;split at h1
                .rename_i cs m bh;split at h1
                 .rename_i old _;cases hc5:Nat.beq k len with
                  |true=>rw[hc5,aI]at h1;simp only[aA,aB]at h1;obtain⟨_,rfl⟩:=h1;exact dj _
                  |false=>
                   rw[hc5,aJ]at h1;cases hc6:m.tip&&m.wr&&Nat.beq m.z info.size&&Nat.beq (off+len*info.size) cs.length&&m.grp.isSome with
                   |false=>rw[hc6,aJ]at h1;cases h1
                   |true=>
                    rw[hc6,aI]at h1;simp only[aA,aB]at h1;obtain⟨_,rfl⟩:=h1;rw[bZ];by_cases e:j=base+i
                    .exact .inr (.inl e)
                    .rw[bH e,bZ];by_cases e2:j=id
                     .subst e2;rw[bI rfl];exact .inr (.inr ⟨cs,m,false,⟨(eO bh).1,by simp only[aC]at hc6;exact hc6.1.1.1.1⟩,rfl⟩)
                     .rw[bH e2];exact .inl rfl
                 .cases h1
                .cases h1
              .rename_i b0 o0 s0 l0 k0 _;cases hc4:Nat.beq s0 1&&Nat.ble (n*info.bytes) 1073741824 with
               |false=>rw[hc4,aJ]at h1;cases h1
               |true=>rw[hc4,aI]at h1;simp only[aA,aB]at h1;obtain⟨_,rfl⟩:=h1;exact dj _
              .cases h1
           .cases h1
          .cases h1
        .cases h1
       .cases h1
      refine⟨u,H',J,I',h1,h2,h3,h4,h5,⟨h6,.refl H J,h7,.refl p,λa cs m hg=>?_,λid a hi _=>⟨?_,hi⟩⟩,λj hj bm hn=>?_⟩
      .rcases bc a with e|e|⟨de,m',b,e1,e2⟩
       .exact⟨cs,m.tip,by rw[e];exact hg⟩
       .subst e;rw[hf]at hg;cases hg
       .rw[hg]at e1;simp only[aA,AObj.cells.injEq]at e1;obtain⟨⟨rfl,rfl⟩,_⟩:=e1;exact⟨_,b,e2⟩
      .rcases bc a with e|e|⟨de,m',b,e1,e2⟩
       .exact e
       .exact absurd (e▸hf) (M.some_get hi)
       .exfalso;have:=M.no_tip hi e1.1;rw[e1.2]at this;cases this
      .rcases bc j with e|e|⟨de,m',b,e1,e2⟩
       .rw[e];exact hn
       .exact absurd e bm
       .rw[hn]at e1;cases e1.1
     .cases h
    |_=>simp only[FX,sF]at h;cases h
   |invoke r m=>simp only[FX,sF]at h;cases h
   |value f=>
    simp only[FX]at h;simp only[tU];split at h
    .rename_i g' args hc;obtain⟨us,I1,hu,hrl,F1,kx,g1⟩:=hgen hc;simp only[hu];simp only[aF,aB]at h;obtain⟨⟨v',fp,p2⟩,hp,rfl,rfl,rfl,rfl⟩:=h;obtain⟨u,H',J',I',h1,h2,h3,h4,h5,h6,h7⟩:=aMH bj (M.g2 g1) F1 hrl kx hp;exact⟨u,H',J',I',h1,h2,h3,h4,h5,(Adv.g g1.out).trans h6,λj hj _ hn=>h7 j hj hn⟩
    .cases h
  |_=>simp only[FX]at h;cases h
end
end Go.PI
namespace Go.PI
open Go.AI
structure Qt(H H':St):Prop where
 vers:H'.vers=H.vers
 get: ∀a ob,H.get a=some ob->H'.get a=some ob∨∃cs m b,ob= .cells cs m/\m.tip=true/\H'.get a=some (.cells cs {m with tip:=b})
def Qt.refl(H:St):Qt H H:=⟨rfl,λa ob h=> .inl h⟩
def Qt.bx{J:Nu}{I:Ga}{H H':St}{p:PSt}(q:Qt H H')(M:Mem J I p H){id a:Nat}(h:J id=some (some a)):H'.get a=H.get a:=by
 cases e:H.get a with
 |none=>exact absurd e (M.some_get h)
 |some ob=>
  rcases q.get a ob e with e1|⟨cs,m,b,e1,e2,_⟩
  .exact e1
  .subst e1;rw[M.no_tip h e]at e2;cases e2
def Tr.setF_setF{N:Type}: ∀(f:Nat) (t:Tr N) (n:Nat) (x y:N),Tr.setF f (Tr.setF f t n x) n y=Tr.setF f t n y:=by
 intro f;induction f with
 |zero=>intro t n x y;rfl
 |succ f ih=>
  intro t n x y;cases t with
  |nil=>
   simp only[Tr.setF];cases h:Nat.beq n 0 with
   |true=>simp only[aI,Tr.setF,h]
   |false=>
    simp only[aJ];cases h2:Nat.beq (n%2) 1 with
    |true=>simp only[aI,Tr.setF,h,h2,aJ,ih]
    |false=>simp only[aJ,Tr.setF,h,h2,ih]
  |node v l r=>
   simp only[Tr.setF];cases h:Nat.beq n 0 with
   |true=>simp only[aI,Tr.setF,h]
   |false=>
    simp only[aJ];cases h2:Nat.beq (n%2) 1 with
    |true=>simp only[aI,Tr.setF,h,h2,aJ,ih]
    |false=>simp only[aJ,Tr.setF,h,h2,ih]
def Tr.set_set{N:Type}(t:Tr N)(n:Nat)(x y:N):Tr.set (Tr.set t n x) n y=Tr.set t n y:=Tr.setF_setF _ t n x y
def aKx(H:St)(id:Nat)(a b:AObj):(H.put id a).put id b=H.put id b:=by
 simp only[St.put,Tr.set_set]
section
variable{P:Program}{J J':Nu}{I I1 I':Ga}{H H':St}{S:PS}{A:Slots}
def SZ{p:PSt}{id z bytes:Nat}(M:Mem J I p H)(F:FR J I H S A)(hf:H.get id=none)(bi:id<H.next)(hz1:1<=z){x:PV}{w:Value}{es:List PV}(pz:oY z x=some es)(rs:R J H x w)(how:Ow J I H .hand x w):
    ∃old Hc m,RL J Hc (eY es) old/\(∀n vals,Nat.ble ((es.length+n)*bytes) 1073741824=true->mC H id z bytes n vals w=some (.slice (some ⟨id,0,none⟩) (es.length+n) (es.length+n+1),Hc.put id (.cells (old++vals) m)))/\
      (∀e∈es,e.cells.length=z/\e.cells.all PV.pur=true)/\Mem J I p Hc/\FR J I Hc S A/\Hc.get id=none/\Hc.next=H.next/\m.z=z/\m.tip=true/\m.wr=true/\m.grp.isSome=true/\Hc.good m=true/\m.lim<=old.length/\
      Keep J I H Hc/\Qt H Hc/\old.length=es.length*z/\(∀j,H.get j=none->Hc.get j=none):=by
 have hgt:=VX M z id;rcases rQ pz with⟨h1,rfl⟩|h1
 .have rse:R J H .emp w:=by
   rcases h1 with rfl|rfl
   .exact rs
   .cases rs;exact .emp0
  have mh:Ow J I H .hand .emp w∨w= .slice none 0 0:=by
   rcases h1 with rfl|rfl
   .exact .inl how
   .right;cases rs;rfl
  refine⟨[],H,gM z id,.nil,λn vals df=>?_,λe he=>by simp at he,M,F,hf,rfl,rfl,rfl,rfl,rfl,hgt,aS _,.refl J I H,.refl H,by simp,λ_ h=>h⟩
  simp only[aX,Nat.zero_add]at df⊢;cases rse with
  |emp0=>simp only[mC,df,aI];rfl
  |emp1 id0 off c rcs m hr=>
   have:c=0:=by
    rcases mh with how|how
    .cases how;rfl
    .cases how
   subst this;simp only[mC,Nat.zero_add,df,aI,hr.1,Nat.zero_mul,AW];rfl
  |emp2 b o s' c=>
   rcases mh with how|how
   .cases how;have hq:(Nat.beq 1 1&&Nat.ble (n*bytes) 1073741824)=true:=by rw[df];rfl
    simp only[mC,hq,aI];rfl
   .cases how
 .subst h1;obtain⟨id0,off,cc,rcs,m,l,hw,hr,lq,hb,hl,hrl,po⟩: ∃id0 off cc rcs m l,w= .slice (some ⟨id0,off,none⟩) es.length cc/\Fz J H id0 rcs m/\m.z=z/\off+es.length*z<=rcs.length/\cut rcs off (es.length*z)=some l/\RL J H (eY es) l/\(∀e∈es,e.cells.length=z/\e.cells.all PV.pur=true):=by
   cases rs with
   |sl _ _ id0 off cc rcs m hz hs hr hm hb hh=>
    obtain⟨_,_,ja,nk,m',l,k1,k2,k3,k4,k5⟩:=HS (.sl z es id0 off cc rcs m hz hs hr hm hb hh);exact⟨id0,off,cc,nk,m',l,rfl,k1,k2,k3,k4,k5,ja⟩
  have hll:l.length=es.length*z:=by rw[<-hrl.1,iD (λe he=>(po e he).1)]
  subst hw;by_cases gr:cc=es.length
  .refine⟨l,H,gM z id,hrl,λn vals df=>?_,po,M,F,hf,rfl,rfl,rfl,rfl,rfl,hgt,Nat.zero_le _,.refl J I H,.refl H,hll,λ_ h=>h⟩
   rw[gr];simp only[mC,df,aI,hr.1,hl];rw[show Nat.beq es.length es.length=true by simp[cR]]
   rfl
  .cases how with
   |exact=>exact absurd rfl gr
   |tip z0 es0 _ _ _ rcs2 m2 hr2 ht gk hg hb2 hk=>
    have:rcs2=rcs/\m2=m:=by have:=hr2.1;rw[hr.1]at this;simp only[aA,aB]at this;exact⟨this.1.symm,this.2.symm⟩
    obtain⟨rfl,rfl⟩:=this;obtain⟨bc,bf⟩:=eO hr.1;have hii:id0≠id:=λe=>by rw[e,hf]at bc;cases bc
    have kp:Keep J (λi=>if i=id0 then none else some .out) H (H.put id0 (.cells rcs2 {m2 with tip:=false})):=by
     refine⟨rfl,aS _,λa ha=>?_,λa hn cs m bp=>?_⟩
     .rw[bZ]at ha;split at ha
      .cases ha
      .exact ha
     .by_cases e:a=id0
      .subst e;rw[bc]at bp;simp only[aA,AObj.cells.injEq]at bp;obtain⟨rfl,rfl⟩:=bp;refine⟨false,by rw[bZ,bI rfl],λ_=>rfl,λh=>?_⟩
       simp at h
      .exact⟨m.tip,by rw[bZ,bH e];exact bp,λh=>h,λ_=>rfl⟩
    have xg: ∀i k,I i=some k->k≠ .hand->(if i=id0 then none else some K.out)=some K.out:=λi k hi jb=>by
     rw[bH];intro e;rw[e,hk]at hi;simp only[aA]at hi;exact jb hi.symm
    refine⟨l,H.put id0 (.cells rcs2 {m2 with tip:=false}),{m2 with lim:=l.length},hrl.keep kp (.refl H J),λn vals df=>?_,po,?_,F.keep kp (.refl H J) λi t hi _=>⟨xg i _ hi (by simp),hi⟩,
     by rw[bZ,bH (Ne.symm hii)];exact hf,rfl,lq,ht,gk,hg,bf,aS _,kp.weak λa ha=>xg a _ ha (by simp),?_,hll,λj hj=>by rw[bZ,bH (λe=>by rw[e,bc]at hj;cases hj)];exact hj⟩
    .simp only[mC,df,aI,hr.1,hl];rw[show Nat.beq cc es.length=false by rw[cR];simp[gr]]
     simp only[aJ];rw[show(m2.tip&&m2.wr&&Nat.beq m2.z z&&Nat.beq (off+es.length*z) rcs2.length&&m2.grp.isSome)=true by
      rw[lq]at hb2;simp only[ht,gk,hg,cR,lq,hb2,decide_true,Bool.and_self]]
     rfl
    .refine⟨M.le,M.lt,M.inj,M.live,λk o jb=>?_,λa ha=>?_,M.ver⟩
     .refine(M.get k o jb).keep kp (.refl H J) rfl (λa ha=>?_) λi fq hi _=>⟨xg i _ hi (by simp),hi⟩
      rw[bZ,bH (λe=>hr.2 k (by rw[<-e];exact ha))]
     .rw[bZ,bH (λe=>by subst e;rw[M.free a ha]at bc;cases bc)];exact M.free a ha
    .refine⟨rfl,λa ob bp=>?_⟩
     rw[bZ];by_cases e2:a=id0
     .subst e2;rw[bc]at bp;simp only[aA]at bp;subst bp;rw[bI rfl];exact .inr ⟨rcs2,m2,false,rfl,ht,rfl⟩
     .rw[bH e2];exact .inl bp
def vH{a:Nat}{x:Operand}(h:NO a x=false)(u:Value):ev (A.store (some a) u) x=ev A x:=by
 cases x with
 |tmp t=>
  simp only[NO,cR,bC]at h;simp only[ev,Slots.store,Dg];rw[bH (λe=>h e.symm)]
 |_=>rfl
def R.pin_of{z:Nat}{fs:List PV}{v:Value}(h:R J H (.sl z fs) v){id len cap:Nat}(e:v= .slice (some ⟨id,0,none⟩) len cap)(k:Nat):R J H (.pin fs k 0) (.pointer (some ⟨id,0+k*z,none⟩)):=by
 cases h with
 |sl _ _ bv off c rcs m hz hs hr hm hb h=>
  simp only[Value.slice.injEq,aA,Addr.mk.injEq]at e;obtain⟨⟨rfl,rfl,_⟩,_,_⟩:=e;exact R.pin z fs k 0 bv 0 rcs m hs hr hb h
def Pn{ac:FuncId->Array Value->St->Option (Value×St)}{p:PSt}{base:Nat}{oA oI oS:Oper}{iA iI iS:Nat}(M:Mem J I p H)(F:FR J I H S A)(hf:H.get (base+iA)=none)(bi:base+iA<H.next)
    (hA:oA.op.operands.all (cG P)=true) (hI:oI.op.operands.all (cG P)=true) (hS:oS.op.operands.all (cG P)=true) {S':PS} (h:GB P S oA oI oS=some S'):
    ∃u1 u2 H1 H2 I',tU P ac H (ev A) oA (base+iA)=some (u1,H1)/\lL P (ev (A.store oA.dst u1)) oI=some u2/\tU P ac H1 (ev ((A.store oA.dst u1).store oI.dst u2)) oS (base+iS)=some (undef,H2)/\
      cO oA= .eff/\cO oI= .pure/\cO oS= .eff/\oA.guard=none/\oI.guard=none/\oS.guard=none/\oS.dst=none/\oU oA=true/\
      Mem J I' p H2/\FR J I' H2 S' ((A.store oA.dst u1).store oI.dst u2)/\Adv J I p H J I' p H2/\Qt H H1/\Qt H H2/\H1.next=H.next/\(∀j,j≠base+iA->H.get j=none->H1.get j=none/\H2.get j=none):=by
 obtain⟨dA,opA,tyA,posA,afA,gA⟩:=oA;obtain⟨dI,opI,tyI,posI,afI,gI⟩:=oI;obtain⟨dS,opS,tyS,posS,afS,gS⟩:=oS;unfold GB at h;split at h
 .rename_i c a t1 a' n b t2 b' x e1 e2 e3 e4 e5 e6;simp only at e1 e2 e3 e4 e5 e6;subst e1 e2 e3 e4 e5 e6;obtain⟨callee,cargs,ats⟩:=c;split at h
  .rename_i s zz ec ea;simp only at ec ea;subst ec;cases hc:Nat.beq a a'&&Nat.beq b b'&& !Nat.beq a b&& !NO a n&& !NO a x&& !NO b x&&gA.isNone&&gI.isNone&&gS.isNone with
   |false=>rw[hc,aJ]at h;cases h
   |true=>
    rw[hc,aI]at h;simp only[aC,Bool.not_eq_true',Option.isNone_iff_eq_none]at hc;obtain⟨⟨⟨⟨⟨⟨⟨⟨ha,hb⟩,wf⟩,hn⟩,hxa⟩,hxb⟩,hgA⟩,hgI⟩,hgS⟩:=hc;have ha:=aE ha;subst ha;have hb:=aE hb;subst hb;have wf:a≠b:=by intro e;rw[e]at wf;simp[cR]at wf
    subst hgA hgI hgS;rw[aF]at h;obtain⟨v,hv,rfl⟩:=h
    replace hA:=uR hA
    replace hI:=uR hI
    replace hS:=uR hS
    simp only[Op.operands,Call.operands,Array.toList_append,List.all_append,aC,ea,aP,List.all_nil,bE]at hA;simp only[Op.operands,aP,List.all_nil,bE,aC]at hI hS;unfold WT at hv;split at hv
    .rename_i t tz kj;split at hv
     .rename_i e d he hd;split at hv
      .rename_i info ag hi jj;split at hv
       .rename_i es y zv kk k pz pm hzv hk;cases hc2:Nat.ble 1 info.size&&Nat.ble 1 info.bytes&&Nat.beq zv.cells.size info.size&&iG S s&&Nat.ble ((es.length+1)*info.bytes) 1073741824&&Nat.beq t1 t&&Nat.beq t2 e&&decide (k=(es.length:Int))&&shape ag info.size (cP S x)with
        |false=>rw[hc2,aJ]at hv;cases hv
        |true=>
         rw[hc2,aI]at hv;simp only[aA]at hv;subst hv;simp only[aC,aD]at hc2;obtain⟨⟨⟨⟨⟨⟨⟨⟨c1,c2⟩,c3⟩,c4⟩,c5⟩,c6⟩,c7⟩,c8⟩,c9⟩:=hc2;have c6:=aE c6;subst c6;have c7:=aE c7;subst c7;subst c8;have hz1:=bK c1;obtain⟨zvals,hz2,hz3,hz4,hz5⟩:=DX (cX F hA.2.2) hz1 pm;obtain⟨I0,F0,how,g0⟩:=wI F s hA.2.1;have M0:=M.g2 g0;obtain⟨old,Hc,m,k1,k2,k3,k4,k5,k6,k7,k8,k9,bBa,bA9,bA8,bI3,k14,k15,a64,bDX⟩:=SZ (bytes:=info.bytes) M0 F0 hf bi hz1 pz (cX F hA.2.1) (how c4);have hag1:=k2 1 zvals c5;have qp:zvals.length=info.size:=by
          rw[<-hz3.1];simp only[eY,aN,bB,bA];exact(hz4 y (by simp)).1
         have fw:zvals.all one=true:=hz3.one (by
          simp only[eY,aN,bB,bA];exact uL (hz4 y (by simp)).2)
         have cy:gO (ev A s)=true:=by
          have rs:=cX F hA.2.1;rcases rQ pz with⟨h1|h1,_⟩|h1<;>rw[h1]at rs<;>generalize ev A s=w at rs<;>cases rs<;>rfl
         have kj:ats.toList=[t1,tz]:=kj;have qn:mQ P H (base+iA) ⟨.builtin .append,cargs,ats⟩ (ev A s) (ev A zz)=some (.slice (some ⟨base+iA,0,none⟩) (es.length+1) (es.length+1+1),Hc.put (base+iA) (.cells (old++zvals) m)):=by
          unfold mQ;simp only[kj,he,hd,hi,hz5,aI,hz2,hzv];rw[show(zvals.all one&&Nat.ble 1 info.size&&Nat.ble 1 info.bytes&&Nat.beq zv.cells.size info.size&&gO (ev A s))=true by
           simp only[fw,c1,c2,c3,cy,Bool.and_self]]
          exact hag1
         obtain⟨xl,xp⟩:=uE c9;have rx:=cX F hS.2;have hxc:=rx.cells (uL xp);have qz:(ev A x).cells.toList.length=info.size:=by rw[<-hxc.1,xl]
         have ci:gU P t2=some info.size:=by simp only[gU,hi];rfl
         have wm:(wk (cP S x)).cells.length=info.size:=by rw[mS,kB,xl]
         have qq:RL J Hc (eY [wk (cP S x)]) (ev A x).cells.toList:=by
          simp only[eY,aN,bB,bA];rw[mS];exact hxc.wks.keep k14 (.refl H J)
         obtain⟨I',j1,j2,j3,j4,j5,j6⟩:=EE (m:=m) (xs:=[wk (cP S x)]) k4 k5 k6 (by rw[k7];exact bi) hz1 (λq hq=>by
          rcases List.mem_append.1 hq with hq|hq
          .exact k3 q hq
          .simp only[List.mem_singleton]at hq;subst hq;exact⟨wm,by rw[mS];exact CZ xp⟩) k1 qq k8 k9 bBa bA9 bA8 (es.length+1+1) (by simp)
         have mn:eB info.size (es++ [wk (cP S x)])= .sl info.size (es++ [wk (cP S x)]):=by
          cases hh:es++ [wk (cP S x)]with
          |nil=>simp at hh
          |cons q l=>rfl
         rw[mn]at j1 j4;have cf:eT P (Hc.put (base+iA) (.cells (old++zvals) m)) t2 (.pointer (some ⟨base+iA,0+es.length*info.size,none⟩)) (ev A x)=some (Hc.put (base+iA) (.cells (old++(ev A x).cells.toList) m)):=by
          have bh:(Hc.put (base+iA) (.cells (old++zvals) m)).row (base+iA)=some (old++zvals,m):=row_of_get (by rw[bZ,bI rfl]) bA8
          simp only[eT,bh,ci];rw[show(m.wr&&Nat.beq (ev A x).cells.size info.size&&Nat.ble (0+es.length*info.size+info.size) (old++zvals).length&&(ev A x).cells.toList.all one)=true by
           rw[hxc.one (uL xp),cR,BF];simp only[Array.length_toList]at qz;simp only[bBa,qz,decide_true,bE,Bool.true_and,aD,aZ,qp,a64];omega]
          simp only[aI];have dj:gQ (old++zvals) (0+es.length*info.size) (ev A x).cells.toList=old++(ev A x).cells.toList:=by
           rw[DV _ _ _ (by simp only[aZ,qp,a64,qz];omega),Nat.zero_add,<-a64,List.take_left',qz]
           .rw[List.drop_eq_nil_of_le (by simp only[aZ,qp];omega),bA]
           .rfl
          rw[dj];obtain⟨⟨g,v⟩,hgv⟩:=Option.isSome_iff_exists.1 bA9;rw[hgv];simp only;rw[show(m.tip&&Nat.ble m.lim (0+es.length*info.size))=true by rw[k9,BF];simp only[Bool.true_and,aD];omega]
          simp only[aI,aKx]
         have hq1:Qt H (Hc.put (base+iA) (.cells (old++zvals) m)):=⟨k15.vers,λq ob hq=>by
          rw[bZ,bH (λe=>by rw[e,hf]at hq;cases hq)];exact k15.get q ob hq⟩
         have hq2:Qt H (Hc.put (base+iA) (.cells (old++(ev A x).cells.toList) m)):=⟨k15.vers,λq ob hq=>by
          rw[bZ,bH (λe=>by rw[e,hf]at hq;cases hq)];exact k15.get q ob hq⟩
         obtain⟨I1,F1,g1⟩:=j3.put (d:=some a) j1 (λ_=>j4)
         have hpin:R J (Hc.put (base+iA) (.cells (old++(ev A x).cells.toList) m)) (aAh (.sl info.size (es++ [wk (cP S x)]))) (.pointer (some ⟨base+iA,0+es.length*info.size,none⟩)):=by
          have hle:(es++ [wk (cP S x)]).length-1=es.length:=by simp
          simp only[aAh,hle];exact R.pin_of j1 rfl es.length
         obtain⟨I2,F2,g2⟩:=F1.put (d:=some b) (v:=aAh (.sl info.size (es++ [wk (cP S x)]))) (u:= .pointer (some ⟨base+iA,0+es.length*info.size,none⟩)) (own:=false) hpin (λh=>by cases h)
         refine⟨.slice (some ⟨base+iA,0,none⟩) (es.length+1) (es.length+1+1),.pointer (some ⟨base+iA,0+es.length*info.size,none⟩),_,_,I2,?_,?_,?_,rfl,rfl,rfl,rfl,rfl,rfl,rfl,rfl,(j2.g2 g1).g2 g2,F2,⟨?_,.refl H J,?_,.refl p,?_,λ_ _ hi _=>⟨hq2.bx M hi,hi⟩⟩,hq1,hq2,k7,λj hj hn=>?_⟩
         .simp only[tU,ea];exact qn
         .simp only[lL];have hnk:ev (A.store (some a) (.slice (some ⟨base+iA,0,none⟩) (es.length+1) (es.length+1+1))) n= .int kk (es.length:Int):=by
           rw[vH hn];have rn:=cX F hI.2;rw[hk]at rn;generalize ev A n=w at rn;cases rn;rfl
          have hak:ev (A.store (some a) (.slice (some ⟨base+iA,0,none⟩) (es.length+1) (es.length+1+1))) (.tmp a)= .slice (some ⟨base+iA,0,none⟩) (es.length+1) (es.length+1+1):=by
           simp only[ev,Slots.store,Dg,if_true]
          rw[hnk,hak];simp only[jM,he,ci];rw[show cV (es.length:Int) (es.length+1)=true by simp only[cV,aC,aD];omega]
          simp only[aI,Int.toNat_natCast]
         .simp only[tU];have hx1:ev ((A.store (some a) (.slice (some ⟨base+iA,0,none⟩) (es.length+1) (es.length+1+1))).store (some b) (.pointer (some ⟨base+iA,0+es.length*info.size,none⟩))) x=ev A x:=by
           rw[vH hxb,vH hxa]
          have hb1:ev ((A.store (some a) (.slice (some ⟨base+iA,0,none⟩) (es.length+1) (es.length+1+1))).store (some b) (.pointer (some ⟨base+iA,0+es.length*info.size,none⟩))) (.tmp b)= .pointer (some ⟨base+iA,0+es.length*info.size,none⟩):=by
           simp only[ev,Slots.store,Dg,if_true]
          rw[hx1,hb1,cf];rfl
         .have:=Keep.trans (I:=I0) k14 (.refl H J) (j5.weak (I:=I0) λ_ _=>rfl) (.refl H I0)
          exact this.weak λq hq=>(g0 q).1 hq
         .exact((g0.out (H:=H)).trans j6 (λq hq=>k14.dom q hq)).trans ((g1.trans g2).out (H:=H)) (λ_ h=>h)
         .intro q cs mm hq;rcases hq2.get q _ hq with e|⟨de,m',b',e1,_,e2⟩
          .exact⟨cs,mm.tip,e⟩
          .simp only[AObj.cells.injEq]at e1;obtain⟨rfl,rfl⟩:=e1;exact⟨_,b',e2⟩
         .have hc0:=bDX j hn;exact⟨by rw[bZ,bH hj];exact hc0,by rw[bZ,bH hj];exact hc0⟩
       .cases hv
      .cases hv
     .cases hv
    .cases hv
  .cases h
 .cases h
end
end Go.PI
namespace Go.AI
section
variable{w0:W0}{P:Program}{Y:Mp}{H:St}{w:World}
def AX{cs l:List Value}{off n:Nat}(h:cut cs off n=some l):l=(cs.drop off).take n/\n<=cs.length-off:=by
 unfold cut at h;simp only[cR,Bool.cond_decide]at h;split at h
 .rename_i hl;cases h;refine⟨rfl,?_⟩;simp at hl;omega
 .cases h
def C5{C:Array Value}{cs:List Value}{o off n:Nat}(bh: ∀(i:Nat) (v:Value),cs[i]?=some v->∃u,C[o+i]?=some u/\VR Y v u)(hl:n<=cs.length-off):
    VRL Y ((cs.drop off).take n) ((C.toList.drop (o+off)).take n):=by
 have ci:n=0∨o+off+n<=C.size:=by
  rcases Nat.eq_zero_or_pos n with h|h
  .exact .inl h
  .right;have:off+n-1<cs.length:=by omega
   obtain⟨u,hu,_⟩:=bh (off+n-1) _ (aV this);have:=(Array.getElem?_eq_some_iff.1 hu).1;omega
 refine⟨by simp;omega,λi x u hx hu=>?_⟩
 rw[List.getElem?_take]at hx hu;split at hx
 .rename_i hi;rw[bI hi]at hu;rw[List.getElem?_drop]at hx hu;obtain⟨u',fy,hr⟩:=bh _ _ hx;have:C.toList[o+off+i]?=some u':=by rw[Nat.add_assoc];simpa using fy
  rw[this]at hu;cases hu;exact hr
 .cases hx
def Dd{w:World}{b o:Nat}{C:Array Value}{t:TypeId}{fr:Nat×Nat}(h:w.heap[b]?=some (.cells C t fr)):w.cell? ⟨b,o,none⟩=C[o]?:=by
 simp[World.cell?,h]
def WD{w:World}{b o n:Nat}{C:Array Value}{t:TypeId}{fr:Nat×Nat}(h:w.heap[b]?=some (.cells C t fr))(hl:((C.toList.drop o).take n).length=n):
    (loadCells ⟨b,o,none⟩ n).run P w= .ok ((C.toList.drop o).take n).toArray w:=by
 have:=run_loadCells_list (P:=P) w ⟨b,o,none⟩ ((C.toList.drop o).take n) (λj v hj=>by
  rw[jN,Dd h];rw[List.getElem?_take]at hj;split at hj
  .rw[List.getElem?_drop]at hj;simpa using hj
  .cases hj)
 rw[hl]at this;exact this
def Qy{t:TypeId}{a b v:Value}(S:Sim w0 P Y H w)(r:VR Y a b)(h:nE P H t a=some v): ∃v',(Instr.loadAt t b).run P w= .ok v' w/\VR Y v v':=by
 unfold nE at h;split at h<;>try cases h
 rename_i id off;obtain⟨p,hp,rfl⟩:=r.ptr_inv;split at h<;>try cases h
 rename_i cs m bh;obtain⟨hg,bf⟩:=St.row_some bh;obtain⟨C,ty,fr,hC,hcs,_⟩:=(S.row id p cs m hp hg bf).row;unfold Instr.loadAt;simp only[Instr.sureAddr,loadVar,Sem.run_bind,Sem.run_pure,Result.andThen_ok];split at h<;>try cases h
 .rename_i jj;rw[iN (by rw[pQ];exact jj)]
  split at h<;>try cases h
  rename_i n hn;rw[aF]at h;obtain⟨l,hl,rfl⟩:=h;obtain⟨rfl,hle⟩:=AX hl;have hv:=C5 hcs hle;refine⟨_,?_,.mkAgg hv⟩;have hlen:((C.toList.drop (p.o+off)).take n).length=n:=by rw[<-hv.1];simp;omega
  simp only[Result.andThen_ok,if_true,Sem.run_bind,iN (w:=w) (show cI P (Go.sizeOf t)=some n by rw[cU];exact hn),WD hC hlen,Sem.run_pure]
 .rename_i jj;rw[iN (by rw[pQ];exact jj)]
  obtain⟨u,hu,hr⟩:=hcs _ _ h;refine⟨u,?_,hr⟩;simp[Dd hC,hu]
def aKo(S:Sim w0 P Y H w)(id:Nat)(p:Place)(z:Nat)(hp:Y id=some p)(h:qD H id z=true):p.z=z:=by
 unfold qD at h;split at h
 .rename_i cs m bh;obtain⟨hg,bf⟩:=St.row_some bh;rw[cR,aD]at h;rw[<-h];exact(S.row id p cs m hp hg bf).z
 .cases h
def FR(Y:Mp):Option (Nat×Value)->Option (Nat×Value)->Prop
 |none,none=>True
 |some (i,v),some (j,u)=>i=j/\VR Y v u
 |_,_=>False
def aFN{Z Z':Operand->Value}{o:Oper}{v:Value}(S:Sim w0 P Y H w)(hρ: ∀x∈o.op.operands,VR Y (Z x) (Z' x))(h:kQ P H Z o=some v):
    ∃v',(execOp Z' o).run P w= .ok (.value v') w/\VR Y v v':=by
 unfold kQ at h;unfold execOp;cases ho:o.op<;>simp only[ho]at h hρ⊢ <;>try cases h
 case load t a=>
  obtain⟨v',h1,h2⟩:=Qy S (hρ a (by simp[Op.operands])) h
  exact⟨v',by simp[h1],h2⟩
 case slice t x lo hi mx=>
  obtain⟨v',h1,h2⟩:=aAT (Y:=Y) (P:=P) (aKo S) (hρ x (by simp[Op.operands])) (Uq lo λy hy=>hρ y (by simp[Op.operands,hy])) (Uq hi λy hy=>hρ y (by simp[Op.operands,hy]))
   (Uq mx λy hy=>hρ y (by simp[Op.operands,hy])) h
  exact⟨v',by simp[iN h1],h2⟩
def E5: ∀(l:List Value) (ns:List Int),bytesOf l=some ns->l=ns.map (Value.int .u8):=by
 intro l;induction l with
 |nil=>intro ns h;simp only[bytesOf,aA]at h;subst h;rfl
 |cons x l ih=>
  intro ns h;unfold bytesOf at h;split at h
  .cases ‹_::_=[]›
  .rename_i n r e;cases e;rw[aF]at h;obtain⟨ns',h1,rfl⟩:=h;rw[ih ns' h1];rfl
  .cases h
def Gh{l:List Value}{ns:List Int}(h:bytesOf l=some ns):l.all bN=true:=by
 rw[E5 l ns h,bJ];intro x hx;obtain⟨n,_,rfl⟩:=List.mem_map.1 hx;rfl
def aA1{s d:TypeId}{a b v:Value}(S:Sim w0 P Y H w)(r:VR Y a b)(h:sZ P H s d a=some v):(convert s d b).run P w= .ok v w:=by
 unfold sZ at h;split at h<;>try cases h
 rename_i e hs hd;split at h<;>try cases h
 rename_i he;split at h<;>try cases h
 .rename_i id off n c;obtain⟨p,cap,hp,rfl,_⟩:=r.slc_inv;split at h<;>try cases h
  rename_i cs m bh;split at h<;>try cases h
  rename_i l hl;rw[aF]at h;obtain⟨ns,qr,rfl⟩:=h;obtain⟨hg,bf⟩:=St.row_some bh;obtain⟨C,ty,fr,hC,hcs,_⟩:=(S.row id p cs m hp hg bf).row;obtain⟨rfl,hle⟩:=AX hl;have hv:=C5 hcs hle;have hlen:((C.toList.drop (p.o+off)).take n).length=n:=by rw[<-hv.1];simp;omega
  have heq:=hv.eq0 (Gh qr);rw[run_convert_bytes_string w s d e _ _ _ hs he hd];refine run_bytesToString w _ n cap ns ?_;rw[WD hC hlen,heq,E5 _ _ qr]
 .cases r with
  |same _ hp=>simp[bN]at hp
  |emp a' s' cap h'=>
   rw[run_convert_bytes_string w s d e _ _ _ hs he hd];exact run_bytesToString w a' 0 cap [] rfl
end
end Go.AI
namespace Go.AI
section
variable{w0:W0}{P:Program}{Y:Mp}{H:St}{w:World}
def upd(Y:Mp)(id:Nat)(p:Place):Mp:=λk=>if k=id then some p else Y k
def kW(Y:Mp)(id:Nat)(p:Place):upd Y id p id=some p:=by simp[upd]
def jE{Y:Mp}{id k:Nat}{p:Place}(h:k≠id):upd Y id p k=Y k:=by simp[upd,h]
def KeptO.upd{w0:W0}{Y:Mp}{w:World}(K:KeptO w0 Y w){id:Nat}{q:Place}(h: ∀k o,w0.O k=some o->q.b≠k)(hb:q.b<w.heap.size):KeptO w0 (upd Y id q) w:=
 ⟨K.toKept,λk o hk=>⟨(K.oth k o hk).1,λj r hj=>by
  by_cases e:j=id
  .subst e;rw[kW]at hj;cases hj;exact h k o hk
  .rw[jE e]at hj;exact(K.oth k o hk).2 j r hj⟩,λj r hj=>by
  by_cases e:j=id
  .subst e;rw[kW]at hj;cases hj;exact hb
  .rw[jE e]at hj;exact K.bnd j r hj⟩
def mK{Y:Mp}{id:Nat}(p:Place)(h:Y id=none): ∀k q,Y k=some q->upd Y id p k=some q:=by
 intro k q hk;rw[jE];exact hk;intro e;subst e;rw[h]at hk;cases hk
def Sim.lt(S:Sim w0 P Y H w){id:Nat}{p:Place}{cs:List Value}{m:pM}(hp:Y id=some p)(hg:H.get id=some (.cells cs m))(hm:H.good m=true):p.b<w.heap.size:=by
 obtain⟨C,t,fr,hC,_⟩:=(S.row id p cs m hp hg hm).row;exact(Array.getElem?_eq_some_iff.1 hC).1
def Sim.lt_map(S:Sim w0 P Y H w){id:Nat}{p:Place}{es:List (Value×Value)}(hp:Y id=some p)(hg:H.get id=some (.map es)):p.b<w.heap.size:=by
 obtain⟨C,t,hC,_⟩:=(S.map id p es hp hg).map;exact(Array.getElem?_eq_some_iff.1 hC).1
def Sim.put_new(S:Sim w0 P Y H w){id:Nat}{ob:AObj}(h:Y id=none)(hv: ∀cs m g v,ob= .cells cs m->m.grp=some (g,v)->v<=H.ver g):Sim w0 P Y (H.put id ob) w:=by
 have bm: ∀{k p},Y k=some p->k≠id:=by intro k p hk e;subst e;rw[h]at hk;cases hk
 have bc: ∀{k p},Y k=some p->(H.put id ob).get k=H.get k:=by intro k p hk;rw[St.get_put,bH (bm hk)]
 refine⟨S.kept,S.dom,S.glob,?_,?_,?_,?_,?_,?_,?_⟩
 .intro k p cs m hp hg hm;rw[bc hp]at hg;exact S.row k p cs m hp hg hm
 .intro k p es hp hg;rw[bc hp]at hg;exact S.map k p es hp hg
 .intro i j p q cs ds m n bn hp hq hg bp hm hn hw hs;rw[bc hp]at hg;rw[bc hq]at bp;exact S.off i j p q cs ds m n bn hp hq hg bp hm hn hw hs
 .intro i j p q cs ds m n bn hp hq hg bp hm hn hw;rw[bc hp]at hg;rw[bc hq]at bp;exact S.tip i j p q cs ds m n bn hp hq hg bp hm hn hw
 .intro i j p q es fs bn hp hq hg bp;rw[bc hp]at hg;rw[bc hq]at bp;exact S.maps i j p q es fs bn hp hq hg bp
 .intro k cs m g v hg jd;rw[St.get_put]at hg;split at hg
  .cases hg;exact hv cs m g v rfl jd
  .exact S.vers k cs m g v hg jd
 .intro i j p q cs ds m n bn hp hq hg bp hm hn hw;rw[bc hp]at hg;rw[bc hq]at bp;exact S.lim i j p q cs ds m n bn hp hq hg bp hm hn hw
def Sim.next(S:Sim w0 P Y H w){n:Nat}(h:H.next<=n):Sim w0 P Y {H with next:=n} w:=
 ⟨S.kept,λid hi=>S.dom id (Nat.le_trans h hi),S.glob,S.row,S.map,S.off,S.tip,S.maps,S.vers,S.lim⟩
def Sim.drawn(S:Sim w0 P Y H w)(n:Nat):Sim w0 P Y H {w with drawn:=n}:=
 ⟨⟨⟨S.kept.os,S.kept.output,S.kept.size,S.kept.old⟩,S.kept.oth,S.kept.bnd⟩,S.dom,S.glob,λid p cs m hp hg hm=>by
      obtain⟨h1,h2,h3,h4,h5⟩:=S.row id p cs m hp hg hm;exact⟨h1,h2,h3,h4,h5⟩,
  λid p es hp hg=>by obtain⟨h1,h2⟩:=S.map id p es hp hg;exact⟨h1,h2⟩,S.off,S.tip,S.maps,S.vers,S.lim⟩
def aPv(Y:Mp)(p:Place)(O:Obj):AObj->Prop
 | .cells cs m=> ∃C t,O= .cells C t (0,0)/\(∀(i:Nat) (v:Value),cs[i]?=some v->∃u,C[i]?=some u/\VR Y v u)/\(m.tip=true->cs.length<=p.e/\p.e<=C.size)/\p.z=m.z
 | .map es=>O= .map #[] 0/\es=[]
def uK{w:World}{O:Obj}{k:Nat}(h:k<w.heap.size):(w.heap.push O)[k]?=w.heap[k]?:=by
 rw[Array.getElem?_push,bH (by omega)]
def DW(w:World)(O:Obj):(w.heap.push O)[w.heap.size]?=some O:=by simp
def Sim.alloc(S:Sim w0 P Y H w){id:Nat}{ob:AObj}{O:Obj}{p:Place}(h:Y id=none)(hid:id<H.next)(fi:H.get id=some ob)(α:aPv Y p O ob)(hb:p.b=w.heap.size)(ho:p.o=0):
    Sim w0 P (upd Y id p) H {w with heap:=w.heap.push O}:=by
 have cb:=mK p h;have bg: ∀{k q},upd Y id p k=some q->(k=id/\q=p)∨(k≠id/\Y k=some q):=by
  intro k q hk;by_cases e:k=id
  .subst e;rw[kW]at hk;cases hk;exact .inl ⟨rfl,rfl⟩
  .rw[jE e]at hk;exact .inr ⟨e,hk⟩
 have kf: ∀{k q cs m},Y k=some q->H.get k=some (.cells cs m)->H.good m=true->p.b≠q.b:=by
  intro k q cs m hq hg hm;have:=S.lt hq hg hm;omega
 refine⟨⟨⟨S.kept.os,S.kept.output,?_,?_⟩,λk o hk=>⟨(uK (Array.getElem?_eq_some_iff.1 (S.kept.oth k o hk).1).1).trans (S.kept.oth k o hk).1,λj q hj=>by
  have h1:=(Array.getElem?_eq_some_iff.1 (S.kept.oth k o hk).1).1;rcases bg hj with⟨rfl,rfl⟩|⟨_,hq⟩
  .omega
  .exact(S.kept.oth k o hk).2 j q hq⟩,λj q hj=>by
  show _<(w.heap.push O).size;rw[Array.size_push];rcases bg hj with⟨rfl,rfl⟩|⟨_,hq⟩
  .omega
  .have:=S.kept.bnd j q hq;omega⟩,?_,?_,?_,?_,?_,?_,?_,S.vers,?_⟩
 .have:=S.kept.size;simp;omega
 .intro k hk;have:=S.kept.size;show(w.heap.push O)[k]?=_;rw[uK (by omega)];exact S.kept.old k hk
 .intro k hk;rw[jE (by omega)];exact S.dom k hk
 .intro g hg;obtain⟨q,hq,h1,h2⟩:=S.glob g hg;exact⟨q,cb g q hq,h1,h2⟩
 .intro k q cs m hq hg hm;rcases bg hq with⟨rfl,rfl⟩|⟨hk,ge⟩
  .rw[fi]at hg;cases hg;obtain⟨C,t,rfl,hcs,cq,hz⟩:=α;refine⟨⟨C,t,(0,0),by rw[hb];exact DW w _,λi v hi=>?_,λht=>(cq ht).2⟩,λ_=>by have:=S.kept.size;omega,λht=>by rw[ho];have:=(cq ht).1;omega,hz,λ_ C1 t1 fr1 e1=>by rw[hb]at e1;have:=(DW w _).symm.trans e1;cases this;rfl⟩
   obtain⟨u,hu,hr⟩:=hcs i v hi;exact⟨u,by rw[ho,Nat.zero_add];exact hu,hr.mono' cb⟩
  .obtain⟨⟨C,t,fr,hC,hcs,cq⟩,h2,h3,h4,h5⟩:=S.row k q cs m ge hg hm;exact⟨⟨C,t,fr,(uK (S.lt ge hg hm)).trans hC,λi v hi=>let ⟨u,hu,hr⟩:=hcs i v hi;⟨u,hu,hr.mono' cb⟩,cq⟩,h2,h3,h4,λhw C1 t1 fr1 e1=>h5 hw C1 t1 fr1 ((uK (S.lt ge hg hm)).symm.trans e1)⟩
 .intro k q es hq hg;rcases bg hq with⟨rfl,rfl⟩|⟨hk,ge⟩
  .rw[fi]at hg;cases hg;obtain⟨rfl,rfl⟩:=α;exact⟨⟨#[],0,by rw[hb];exact DW w _,.nil,.nil⟩,by have:=S.kept.size;omega⟩
  .obtain⟨⟨ES,c,hC,h1,h2⟩,h3⟩:=S.map k q es ge hg;exact⟨⟨ES,c,(uK (S.lt_map ge hg)).trans hC,h1.mono' cb,h2.mono' cb⟩,h3⟩
 .intro i j a b cs ds m n bn ha bu hg bp hm hn hw hs;rcases bg ha with⟨rfl,rfl⟩|⟨hi,cx⟩
  .rcases bg bu with⟨rfl,rfl⟩|⟨hj,du⟩
   .exact absurd rfl bn
   .exact λe=>absurd e (kf du bp hn)
  .rcases bg bu with⟨rfl,rfl⟩|⟨hj,du⟩
   .exact λe=>absurd e.symm (kf cx hg hm)
   .exact S.off i j a b cs ds m n bn cx du hg bp hm hn hw hs
 .intro i j a b cs ds m n bn ha bu hg bp hm hn hw;rcases bg ha with⟨rfl,rfl⟩|⟨hi,cx⟩
  .rcases bg bu with⟨rfl,rfl⟩|⟨hj,du⟩
   .exact absurd rfl bn
   .exact⟨λe=>absurd e (kf du bp hn),λ_ e=>absurd e (kf du bp hn)⟩
  .rcases bg bu with⟨rfl,rfl⟩|⟨hj,du⟩
   .exact⟨λe=>absurd e.symm (kf cx hg hm),λ_ e=>absurd e.symm (kf cx hg hm)⟩
   .exact S.tip i j a b cs ds m n bn cx du hg bp hm hn hw
 .intro i j a b es fs bn ha bu hg bp;rcases bg ha with⟨rfl,rfl⟩|⟨hi,cx⟩
  .rcases bg bu with⟨rfl,rfl⟩|⟨hj,du⟩
   .exact absurd rfl bn
   .have:=S.lt_map du bp;omega
  .rcases bg bu with⟨rfl,rfl⟩|⟨hj,du⟩
   .have:=S.lt_map cx hg;omega
   .exact S.maps i j a b es fs bn cx du hg bp
 .intro i j a b cs ds m n bn ha bu hg bp hm hn hw;rcases bg ha with⟨rfl,rfl⟩|⟨hi,cx⟩
  .rcases bg bu with⟨rfl,rfl⟩|⟨hj,du⟩
   .exact absurd rfl bn
   .exact λe=>absurd e (kf du bp hn)
  .rcases bg bu with⟨rfl,rfl⟩|⟨hj,du⟩
   .exact λe=>absurd e.symm (kf cx hg hm)
   .exact S.lim i j a b cs ds m n bn cx du hg bp hm hn hw
def VRL.at{xs us:List Value}(r:VRL Y xs us): ∀(i:Nat) (v:Value),xs[i]?=some v->∃u,us.toArray[i]?=some u/\VR Y v u:=by
 intro i v h;obtain⟨u,hu,hr⟩:=r.get h;exact⟨u,by simpa using hu,hr⟩
def VRL.atA{xs:List Value}{us:Array Value}(r:VRL Y xs us.toList): ∀(i:Nat) (v:Value),xs[i]?=some v->∃u,us[i]?=some u/\VR Y v u:=by
 intro i v h;obtain⟨u,hu,hr⟩:=r.get h;exact⟨u,by simpa using hu,hr⟩
def tX(z:List Value)(n:Nat):(eI z n).length=n*z.length:=by
 induction n with
 |zero=>simp[eI]
 |succ n ih=>simp[eI,ih,Nat.succ_mul,Nat.add_comm]
def pN(z:List Value)(hz:0<z.length): ∀(n i:Nat),(eI z n)[i]?=if i<n*z.length then z[i%z.length]? else none:=by
 intro n;induction n with
 |zero=>intro i;simp[eI]
 |succ n ih=>
  intro i;simp only[eI,List.getElem?_append];split
  .rename_i h;rw[bI (by rw[Nat.succ_mul];omega),Nat.mod_eq_of_lt h]
  .rename_i h;rw[ih,Nat.succ_mul];have:(i-z.length)%z.length=i%z.length:=by
    conv=>rhs;rw[show i=(i-z.length)+z.length from by omega]
    rw[Nat.add_mod_right]
   rw[this];by_cases h':i-z.length<n*z.length
   .rw[bI h',bI (by omega)]
   .rw[bH h',bH (by omega)]
def NT(z:Array Value)(n s:Nat)(hz:z.size=s)(hs:1<=s):(Array.map (λx=>z[x%z.size]!) (Array.range (n*s)))=(eI z.toList n).toArray:=by
 apply Array.ext';apply List.ext_getElem?;intro i;rw[pN z.toList (by simp;omega)]
 simp only[Array.toList_map,Array.toList_range,List.getElem?_map,Array.length_toList,hz];by_cases h:i<n*s
 .rw[bI h,List.getElem?_range h];have h2:i%s<z.size:=by rw[hz];exact Nat.mod_lt _ (by omega)
  simp[h2]
 .rw[bH h];simp;omega
def yJ{z:List Value}(h:z.all bN=true)(n:Nat):(eI z n).all bN=true:=by
 induction n with
 |zero=>rfl
 |succ n ih=>simp only[eI,List.all_append,aC];exact⟨h,ih⟩
def aA3{Z Z':Operand->Value}{o:Oper}{id:Nat}{v:Value}{ob:AObj}(w:World)(hρ: ∀x∈o.op.operands,VR Y (Z x) (Z' x))(h:gZ P Z o id=some (v,ob)):
    ∃v' O p,(execOp Z' o).run P w= .ok (.value v') {w with heap:=w.heap.push O}/\p.b=w.heap.size/\p.o=0/\aPv Y p O ob/\(∀Y':Mp,Y' id=some p->VR Y' v v'):=by
 unfold gZ at h;unfold execOp;cases ho:o.op<;>simp only[ho]at h hρ⊢ <;>try cases h
 case alloc t=>
  split at h<;>try cases h
  rename_i z hz;cases hp:z.cells.toList.all bN with
  |false=>rw[hp]at h;cases h
  |true=>
   rw[hp]at h;simp only[aI,aA,aB]at h;obtain⟨rfl,rfl⟩:=h;refine⟨.pointer (some ⟨w.heap.size,0,none⟩),.cells z.cells t (0,0),⟨w.heap.size,0,0,0⟩,?_,rfl,rfl,⟨z.cells,t,rfl,VRL.atA (.same hp),(λh=>by cases h),rfl⟩,λY' hμ=>VR.ptr id 0 _ hμ⟩
   simp[Instr.alloc,iN hz,newVar,newRow]
 case box t x=>
  have hx:=hρ x (by simp[Op.operands])
  cases hp:(Z x).cells.toList.all one with
  |false=>rw[hp]at h;cases h
  |true=>
   rw[hp]at h;simp only[aI,aA,aB]at h;obtain⟨rfl,rfl⟩:=h;refine⟨.pointer (some ⟨w.heap.size,0,none⟩),.cells (Z' x).cells t (0,0),⟨w.heap.size,0,0,0⟩,?_,rfl,rfl,⟨_,t,rfl,VRL.atA hx.cells,(λh=>by cases h),rfl⟩,λY' hμ=>VR.ptr id 0 _ hμ⟩
   simp[Instr.box,newVar,newRow]
 case buildSlice t len parts=>
  split at h<;>try cases h
  rename_i e hu;split at h<;>try cases h
  rename_i s hs;split at h<;>try cases h
  rename_i z hz;cases hp:(z.cells.toList.all bN&&Nat.ble (len*s) 1000000&&Nat.beq z.cells.size s&&Nat.ble 1 s)with
  |false=>rw[hp]at h;cases h
  |true=>
   rw[hp]at h;simp only[aC,BF,cR,aD]at hp;obtain⟨⟨⟨hp,hle⟩,jk⟩,hs1⟩:=hp;simp only[aI,aF,aB]at h;obtain⟨cs,hf,rfl,rfl⟩:=h;have hPR:PR Y (parts.map λ(i,x)=>(i,Z x)).toList (parts.map λ(i,x)=>(i,Z' x)).toList:=by
    simpa using aHs parts.toList (λx hx=>hρ x.2 (by simp[Op.operands];exact⟨_,Array.mem_toList_iff.1 hx⟩))
   have hz0:=yJ hp len;obtain⟨de,gn,hr⟩:=Kl (Y:=Y) _ _ _ _ _ _ hPR (VRL.toArray_cells (.same hz0)) hf;refine⟨.slice (some ⟨w.heap.size,0,none⟩) len len,.cells de e (0,0),⟨w.heap.size,0,len*s,s⟩,?_,rfl,rfl,⟨de,e,rfl,VRL.atA hr,(λh=>by cases h),rfl⟩,
    λY' hμ=>VR.slc id 0 len len len _ hμ (λ_=>rfl) (aS _) (.inl (by simp))⟩
   unfold Instr.buildSlice;have hbig: ¬(len*s>2^24):=by omega
   simp only[Sem.run_bind,iN (w:=w) (show cI P (underlying t)=some (.slice e) by rw[bT];exact hu),Result.andThen_ok,
    iN (w:=w) (show cI P (Go.sizeOf e)=some s by rw[cU];exact hs),bH hbig]
   by_cases h0:len*s=0
   .rw[bI h0];have hl0:len=0:=by
     rcases Nat.mul_eq_zero.1 h0 with h|h
     .exact h
     .omega
    subst hl0;simp only[eI]at gn;simp only[Sem.run_bind,Sem.run_pure,Result.andThen_ok,Nat.zero_mul,Array.range_zero',Array.map_empty];have xj:Instr.fill (λi=>some (i*s,s)) #[] (parts.map λ(i,x)=>(i,Z' x)).toList=some de:=gn
    rw[xj];simp[newRow]
   .rw[bH h0];simp only[Sem.run_bind,iN (w:=w) hz,Sem.run_pure,Result.andThen_ok,NT z.cells len s jk hs1];have xj:Instr.fill (λi=>some (i*s,s)) (eI z.cells.toList len).toArray (parts.map λ(i,x)=>(i,Z' x)).toList=some de:=gn
    rw[xj];simp[newRow]
 case makeSlice t l c=>
  have hl:=hρ l (by simp[Op.operands])
  have hc:=hρ c (by simp[Op.operands])
  split at h<;>try cases h
  rename_i e n k hu fa mc;rw[fa]at hl;rw[mc]at hc;rw[hl.int_inv,hc.int_inv];split at h<;>try cases h
  rename_i info hi;split at h<;>try cases h
  rename_i z hz;cases hp:(decide (0<=n)&&decide (n<=k)&&decide (k*(info.bytes:Int)<=1073741824)&&decide (k<=1073741824)&&z.cells.toList.all bN&&Nat.beq z.cells.size info.size&&Nat.ble 1 info.size)with
  |false=>rw[hp]at h;cases h
  |true=>
   rw[hp]at h;simp only[aC,BF,cR,aD]at hp;obtain⟨⟨⟨⟨⟨⟨h0,hnk⟩,hkb⟩,hk⟩,wv⟩,jk⟩,hs1⟩:=hp;have gc:=run_make (P:=P) w t e info z hu hi hz .i64 .i64 n k h0 hnk (by rw[Int.mul_comm];omega) (by omega)
   have vq:madeCells z.cells (k.toNat*info.size)=(eI z.cells.toList k.toNat).toArray:=by
    unfold madeCells;exact NT z.cells k.toNat info.size jk hs1
   have qp:z.cells.toList.length=info.size:=by simpa using jk
   simp only[aI]at h;cases xd:decide (n=k)with
   |true=>
    rw[xd]at h;simp only[aI,aA,aB]at h;obtain⟨rfl,rfl⟩:=h;have:n=k:=by simpa using xd
    subst this;refine⟨.slice (some ⟨w.heap.size,0,none⟩) n.toNat n.toNat,.cells (eI z.cells.toList n.toNat).toArray e (0,0),⟨w.heap.size,0,n.toNat*info.size,info.size⟩,?_,rfl,rfl,
     ⟨_,e,rfl,VRL.at (.same (yJ wv _)),(λh=>by cases h),rfl⟩,λY' hμ=>VR.slc id 0 _ _ _ _ hμ (λ_=>rfl) (aS _) (.inl (by simp))⟩
    simp only[Sem.run_bind,gc,vq,Result.andThen_ok,Sem.run_pure];rfl
   |false=>
    rw[xd]at h;simp only[aJ,aA,aB]at h;obtain⟨rfl,rfl⟩:=h;refine⟨.slice (some ⟨w.heap.size,0,none⟩) n.toNat k.toNat,.cells (eI z.cells.toList k.toNat).toArray e (0,0),⟨w.heap.size,0,k.toNat*info.size,info.size⟩,?_,rfl,rfl,
     ⟨_,e,rfl,?_,(λ_=>?_),rfl⟩,λY' hμ=>VR.slc id 0 _ _ _ _ hμ (λe=>by omega) (by omega) (.inl (by simp))⟩
    .simp only[Sem.run_bind,gc,vq,Result.andThen_ok,Sem.run_pure];rfl
    .intro i v hv;have bi:i<n.toNat*z.cells.toList.length:=by
      rw[pN _ (by omega)]at hv
      split at hv
      .assumption
      .cases hv
     rw[pN _ (by omega),bI bi]at hv
     have hlt':i<k.toNat*z.cells.toList.length:=Nat.lt_of_lt_of_le bi (Nat.mul_le_mul_right _ (by omega))
     have dm:bN v=true:=bJ.1 wv v (List.mem_of_getElem? hv);refine⟨v,?_,.same v dm⟩;have:(eI z.cells.toList k.toNat)[i]?=some v:=by rw[pN _ (by omega),bI hlt'];exact hv
     simpa using this
    .constructor
     .show(eI z.cells.toList n.toNat).length<=k.toNat*info.size;rw[tX,qp];exact Nat.mul_le_mul_right _ (by omega)
     .show k.toNat*info.size<=(eI z.cells.toList k.toNat).toArray.size;simp[tX,jk]
end
end Go.AI
