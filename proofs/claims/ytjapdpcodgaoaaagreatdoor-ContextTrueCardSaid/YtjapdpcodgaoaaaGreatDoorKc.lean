import Derived.Test.YtjapdpcodgaoaaaGreatDoorKb
import Derived.Deep.Upon
open Option renaming some->aa,none->ae,getD_some->od
open Bool renaming true->ah,false->aj,true_and->iu,false_and->iv,and_self->n8
open Decidable renaming decide->ak
open Nat renaming beq->ao,ble->aq,zero_le->b7,lt_or_ge->b8,zero_add->ir
open Go renaming Value->av,TypeId->aw,Program->az,Operand->a8,World->ib
open List renaming getElem?_eq_none->ed,mem_of_getElem?->ef,getElem?_append_right->eo,drop_eq_nil_of_le->eu,length_map->iw,getElem?_append_left->i7,getElem?_take->m6,getElem?_drop->m7,getElem?_map->m8,all_nil->m9,mem_append->oa,all_append->oe,length_take->og,length_drop->oh
open Go.AI renaming Slots->ia
open Array renaming getElem?_eq_some_iff->oq,getElem?_eq_some_iff->oq
set_option linter.all false
namespace Go.AI
def Tr.get_nil{N:Type}(n:Nat):(Tr.nil:Tr N).get n=ae:=rfl
def dZ(a b:Nat):ao a b=ak (a=b):=by
 cases h:ao a b with
 |true=>simp[aE h]
 |false=>simp[Nat.ne_of_beq_eq_false h]
def CG(a b:Nat):aq a b=ak (a<=b):=by
 cases h:aq a b with
 |true=>simp[bR h]
 |false=>symm;rw[bD];intro hl;rw[Nat.ble_eq_true_of_le hl]at h;cases h
def iW(a b:Nat):Nat.blt a b=ak (a<b):=by
 simp[Nat.blt,CG,Nat.succ_le_iff]
def Tr.get_node{N:Type}(v:f9 N)(l r:Tr N)(n:Nat):(Tr.node v l r).get n=if n=0 then v else if n%2=1 then l.get (n/2)else r.get (n/2-1):=by
 simp only[Tr.get,dZ,Bool.cond_decide]
def Tr.get_setF{N:Type}: ∀(f:Nat) (t:Tr N) (n m:Nat) (x:N),n<f->(Tr.setF f t n x).get m=if m=n then aa x else t.get m:=by
 intro f;induction f with
 |zero=>intro t n m x h;omega
 |succ f ih=>
  intro t n m x h;cases t with
  |nil=>
   simp only[Tr.setF,dZ,Bool.cond_decide];split
   .rename_i hn;subst hn;simp only[Tr.get_node,Tr.get_nil];split<;>simp
   .split
    .simp only[Tr.get_node,Tr.get_nil];split
     .rw[bI (by omega)]
     .split
      .rw[ih _ _ _ _ (by omega),Tr.get_nil]
       by_cases e:m=n
       .subst e;simp
       .rw[bI e,bI (by omega)]
      .rw[bI (by omega)]
    .simp only[Tr.get_node,Tr.get_nil];split
     .rw[bI (by omega)]
     .split
      .rw[bI (by omega)]
      .rw[ih _ _ _ _ (by omega),Tr.get_nil]
       by_cases e:m=n
       .subst e;simp
       .rw[bI e,bI (by omega)]
  |node v l r=>
   simp only[Tr.setF,dZ,Bool.cond_decide];split
   .rename_i hn;subst hn;simp only[Tr.get_node];split<;>simp_all
   .split
    .simp only[Tr.get_node];split
     .rw[bI (by omega)]
     .split
      .rw[ih _ _ _ _ (by omega)]
       by_cases e:m=n
       .subst e;simp
       .rw[bI e,bI (by omega)]
      .rw[bI (by omega)]
    .simp only[Tr.get_node];split
     .rw[bI (by omega)]
     .split
      .rw[bI (by omega)]
      .rw[ih _ _ _ _ (by omega)]
       by_cases e:m=n
       .subst e;simp
       .rw[bI e,bI (by omega)]
def Tr.get_set{N:Type}(t:Tr N)(n m:Nat)(x:N):(t.set n x).get m=if m=n then aa x else t.get m:=
 Tr.get_setF _ _ _ _ _ (Nat.lt_succ_self n)
def gT{N:Type}{P:az}{s:Sem N}{a:N}(h:cU P s=aa a)(w:ib):s.run P w= .ok a w:=by
 induction s with
 |pure b=>simp only[cU,aA]at h;subst h;rfl
 |program k ih=>simp only[cU]at h;exact ih _ h
 |mark m k ih=>simp only[cU]at h;exact ih h
 |_=>simp[cU]at h
def bT{N W:Type}{P:az}(s:Sem N)(k:N->Sem W):cU P (s>>=k)=(cU P s).bind λa=>cU P (k a):=by
 induction s with
 |pure b=>rfl
 |program k ih=>exact ih _
 |mark m k ih=>exact ih
 |_=>rfl
def cB{N:Type}{P:az}(a:N):cU P (pure a:Sem N)=aa a:=rfl
structure Place where
 b:Nat
 o:Nat
 e:Nat
 z:Nat
abbrev Mp:=Nat->f9 Place
inductive VR(Y:Mp):av->av->Prop where
 |same (v:av) (h:bZ v=ah):VR Y v v
 |ptr (id off:Nat) (p:Place) (h:Y id=aa p):VR Y (.pointer (aa ⟨id,off,ae⟩)) (.pointer (aa ⟨p.b,p.o+off,ae⟩))
 |slc (id off len c cap:Nat) (p:Place) (h:Y id=aa p) (hc:c=len->cap=len) (hl:len<=cap) (he:p.o+off+cap*p.z<=p.e∨p.z=0):
      VR Y (.slice (aa ⟨id,off,ae⟩) len c) (.slice (aa ⟨p.b,p.o+off,ae⟩) len cap)
 |emp (a:Addr) (s cap:Nat) (h:s=1->cap=0):VR Y (.slice (aa ⟨0,0,aa s⟩) 0 0) (.slice (aa a) 0 cap)
 |mp (id:Nat) (p:Place) (h:Y id=aa p):VR Y (.map (aa id)) (.map (aa p.b))
 |fn (f:Fn) (xs ys us vs:Array av) (hl:xs.toList.length=us.toList.length) (h: ∀(i:Nat) (x u:av),xs.toList[i]?=aa x->us.toList[i]?=aa u->VR Y x u)
      (fe:ys.toList.length=vs.toList.length) (h': ∀(i:Nat) (x u:av),ys.toList[i]?=aa x->vs.toList[i]?=aa u->VR Y x u):VR Y (.func f xs ys) (.func f us vs)
 |iface (t:aw) (x u:av) (h:VR Y x u):VR Y (.iface t x) (.iface t u)
 |agg (xs us:Array av) (hl:xs.toList.length=us.toList.length) (h: ∀(i:Nat) (x u:av),xs.toList[i]?=aa x->us.toList[i]?=aa u->VR Y x u):VR Y (.agg xs) (.agg us)
 |tuple (xs us:Array av) (hl:xs.toList.length=us.toList.length) (h: ∀(i:Nat) (x u:av),xs.toList[i]?=aa x->us.toList[i]?=aa u->VR Y x u):VR Y (.tuple xs) (.tuple us)
def VRL(Y:Mp)(xs us:au av):Prop:=xs.length=us.length/\∀(i:Nat) (x u:av),xs[i]?=aa x->us[i]?=aa u->VR Y x u
def Ext(n:Nat)(Y Y':Mp):Prop:=(∀id p,Y id=aa p->Y' id=aa p)/\∀id,id<n->Y' id=Y id
def Ext.refl(n:Nat)(Y:Mp):Ext n Y Y:=⟨λ_ _ h=>h,λ_ _=>rfl⟩
def Ext.trans{n n':Nat}{Y Y' Y'':Mp}(h:Ext n Y Y')(h':Ext n' Y' Y'')(hn:n<=n'):Ext n Y Y'':=
 ⟨λid p e=>h'.1 id p (h.1 id p e),λid hi=>(h'.2 id (by omega)).trans (h.2 id hi)⟩
def Ext.mono{n n':Nat}{Y Y':Mp}(h:Ext n Y Y')(hn:n'<=n):Ext n' Y Y':=⟨h.1,λid hi=>h.2 id (by omega)⟩
def VR.mono'{Y Y':Mp}(h: ∀id p,Y id=aa p->Y' id=aa p){v u:av}(r:VR Y v u):VR Y' v u:=by
 induction r with
 |same v hv=>exact .same v hv
 |ptr id off p hp=>exact .ptr id off p (h _ _ hp)
 |slc id off len c cap p hp hc hl he=>exact .slc id off len c cap p (h _ _ hp) hc hl he
 |emp a s cap h=>exact .emp a s cap h
 |mp id p hp=>exact .mp id p (h _ _ hp)
 |fn f xs ys us vs hl _ fe _ ih tj=>exact .fn f xs ys us vs hl ih fe tj
 |iface t x u _ ih=>exact .iface t x u ih
 |agg xs us hl _ ih=>exact .agg xs us hl ih
 |tuple xs us hl _ ih=>exact .tuple xs us hl ih
def VRL.mono'{Y Y':Mp}(h: ∀id p,Y id=aa p->Y' id=aa p){xs us:au av}(r:VRL Y xs us):VRL Y' xs us:=
 ⟨r.1,λi x u hx hu=>(r.2 i x u hx hu).mono' h⟩
def VR.mono{n:Nat}{Y Y':Mp}(h:Ext n Y Y'){v u:av}(r:VR Y v u):VR Y' v u:=r.mono' h.1
def VRL.mono{n:Nat}{Y Y':Mp}(h:Ext n Y Y'){xs us:au av}(r:VRL Y xs us):VRL Y' xs us:=r.mono' h.1
section
variable{Y:Mp}
def VR.eq0{v u:av}(r:VR Y v u)(h:bZ v=ah):u=v:=by
 cases r<;>first|rfl|simp[bZ]at h
def VRL.nil:VRL Y [] []:=⟨rfl,λi x u h=>by simp at h⟩
def VRL.cons{x u:av}{xs us:au av}(h:VR Y x u)(r:VRL Y xs us):VRL Y (x::xs) (u::us):=by
 refine⟨by simp[r.1],λi y v hy hv=>?_⟩
 cases i with
 |zero=>simp at hy hv;subst hy;subst hv;exact h
 |succ i=>simp at hy hv;exact r.2 i y v hy hv
def VRL.cons_inv{x:av}{xs us:au av}(r:VRL Y (x::xs) us): ∃u vs,us=u::vs/\VR Y x u/\VRL Y xs vs:=by
 cases us with
 |nil=>have:=r.1;simp at this
 |cons u vs=>exact⟨u,vs,rfl,r.2 0 x u (by simp) (by simp),by simpa using r.1,λi y v hy hv=>r.2 (i+1) y v (by simpa using hy) (by simpa using hv)⟩
def VRL.nil_inv{us:au av}(r:VRL Y [] us):us=[]:=by
 have:=r.1;simpa using this.symm
def VRL.get{xs us:au av}(r:VRL Y xs us){i:Nat}{x:av}(h:xs[i]?=aa x): ∃u,us[i]?=aa u/\VR Y x u:=by
 have hi:i<xs.length:=by
  rcases b8 i xs.length with h'|h'
  .exact h'
  .simp[ed h']at h
 have:us[i]?=aa (us[i]'(r.1▸hi)):=aV _;exact⟨_,this,r.2 i x _ h this⟩
def VRL.append{xs us ys vs:au av}(r:VRL Y xs us)(s:VRL Y ys vs):VRL Y (xs++ys) (us++vs):=by
 induction xs generalizing us with
 |nil=>rw[r.nil_inv];exact s
 |cons x xs ih=>obtain⟨u,jp,rfl,h,r'⟩:=r.cons_inv;exact .cons h (ih r')
def VRL.eq0{xs us:au av}(r:VRL Y xs us)(h:xs.all bZ=ah):us=xs:=by
 induction xs generalizing us with
 |nil=>exact r.nil_inv
 |cons x xs ih=>
  obtain⟨u,jp,rfl,hx,r'⟩:=r.cons_inv;simp only[aP,aC]at h;rw[hx.eq0 h.1,ih r' h.2]
def VRL.same{xs:au av}(h:xs.all bZ=ah):VRL Y xs xs:=by
 induction xs with
 |nil=>exact .nil
 |cons x xs ih=>
  simp only[aP,aC]at h;exact .cons (.same x h.1) (ih h.2)
def VR.agg_inv{xs:Array av}{u:av}(r:VR Y (.agg xs) u): ∃us,u= .agg us/\VRL Y xs.toList us.toList:=by
 cases r with
 |same _ h=>simp[bZ]at h
 |agg _ us hl h=>exact⟨us,rfl,hl,h⟩
def VR.tuple_inv{xs:Array av}{u:av}(r:VR Y (.tuple xs) u): ∃us,u= .tuple us/\VRL Y xs.toList us.toList:=by
 cases r with
 |same _ h=>simp[bZ]at h
 |tuple _ us hl h=>exact⟨us,rfl,hl,h⟩
def VR.mkAgg{xs us:au av}(r:VRL Y xs us):VR Y (.agg xs.toArray) (.agg us.toArray):= .agg _ _ (by simpa using r.1) (by simpa using r.2)
def VR.mkAgg'{xs us:Array av}(r:VRL Y xs.toList us.toList):VR Y (.agg xs) (.agg us):= .agg _ _ r.1 r.2
def VR.mkTuple{xs us:au av}(r:VRL Y xs us):VR Y (.tuple xs.toArray) (.tuple us.toArray):= .tuple _ _ (by simpa using r.1) (by simpa using r.2)
def VR.eq1{v u:av}(r:VR Y v u)(h:dP v=ah):u=v:=by
 cases v with
 |agg cs=>
  obtain⟨us,rfl,hl⟩:=r.agg_inv;have:=hl.eq0 (by simpa [dP]using h)
  rw[Array.toList_inj.1 this]
 |_=>exact r.eq0 (by simpa [dP]using h)
def VR.same1{v:av}(h:dP v=ah):VR Y v v:=by
 cases v with
 |agg cs=>exact .mkAgg' (.same (by simpa [dP]using h))
 |_=>exact .same _ (by simpa [dP]using h)
def VR.undef:VR Y Go.undef Go.undef:= .tuple _ _ rfl (λi x u h=>by simp at h)
def VR.cells{v u:av}(r:VR Y v u):VRL Y v.cells.toList u.cells.toList:=by
 cases r with
 |same v h=>
  have hc:v.cells= #[v]:=by cases v<;>first|rfl|simp[bZ]at h
  rw[hc];exact .same (by simpa using h)
 |agg xs us hl h=>exact⟨hl,h⟩
 |ptr id off p h=>exact .cons (.ptr id off p h) .nil
 |slc id off len c cap p h hc hl he=>exact .cons (.slc id off len c cap p h hc hl he) .nil
 |emp a s cap h=>exact .cons (.emp a s cap h) .nil
 |mp id p h=>exact .cons (.mp id p h) .nil
 |fn f xs ys us vs hl h fe h'=>exact .cons (.fn f xs ys us vs hl h fe h') .nil
 |iface t x u h=>exact .cons (.iface t x u h) .nil
 |tuple xs us hl h=>exact .cons (.tuple xs us hl h) .nil
def VR.one_eq{v u:av}(r:VR Y v u):one u=one v:=by
 cases r<;>rfl
def VRL.one_eq{xs us:au av}(r:VRL Y xs us):us.all one=xs.all one:=by
 induction xs generalizing us with
 |nil=>rw[r.nil_inv]
 |cons x xs ih=>obtain⟨u,jp,rfl,h,r'⟩:=r.cons_inv;simp[h.one_eq,ih r']
def VRL.drop{xs us:au av}(r:VRL Y xs us)(n:Nat):VRL Y (xs.drop n) (us.drop n):=
 ⟨by simp[r.1],λi x u hx hu=>r.2 (n+i) x u (by simpa using hx) (by simpa using hu)⟩
def VRL.take{xs us:au av}(r:VRL Y xs us)(n:Nat):VRL Y (xs.take n) (us.take n):=by
 refine⟨by simp[r.1],λi x u hx hu=>?_⟩
 rw[m6]at hx hu;split at hx
 .rename_i hi;rw[bJ hi]at hu;exact r.2 i x u hx hu
 .cases hx
def VRL.set{xs us:au av}(r:VRL Y xs us){x u:av}(h:VR Y x u)(n:Nat):VRL Y (xs.set n x) (us.set n u):=by
 refine⟨by simp[r.1],λi y v hy hv=>?_⟩
 rw[List.getElem?_set]at hy hv;split at hy
 .rename_i e;rw[bJ e]at hv;split at hy
  .split at hv
   .simp at hy hv;subst hy;subst hv;exact h
   .cases hv
  .cases hy
 .rename_i e;rw[bI e]at hv;exact r.2 i y v hy hv
def VRL.toArray_cells{xs us:au av}(r:VRL Y xs us):VRL Y xs.toArray.toList us.toArray.toList:=by simpa using r
end
def Off(p:Place)(lo hi:Nat)(q:Place)(mq kn:Nat):Prop:=p.b=q.b->∀x,lo<=x->x<hi->mq<=x->x<kn->False
structure W0 extends ib where
 O:Nat->Option Obj
def W0.of(w:ib):W0:={toWorld:=w,O:=λ_=>ae}
instance:Coe W0 ib:=⟨W0.toWorld⟩
instance:Coe ib W0:=⟨W0.of⟩
structure RowAt(w0:W0)(Y:Mp)(w:ib)(p:Place)(cs:List av)(m:wB):Prop where
 row: ∃C t fr,w.heap[p.b]?=aa (.cells C t fr)/\(∀(i:Nat) (v:av),cs[i]?=aa v->∃u,C[p.o+i]?=aa u/\VR Y v u)/\(m.tip=ah->p.e<=C.size)
 wr:m.wr=ah->w0.heap.size<=p.b
 tip:m.tip=ah->p.o+cs.length<=p.e
 z:p.z=m.z
 fz:m.wr=ah->∀C t fr,w.heap[p.b]?=aa (.cells C t fr)->fr=(0,0)
structure MapAt(w0:W0)(Y:Mp)(w:ib)(p:Place)(es:List (av×av)):Prop where
 map: ∃ES clock,w.heap[p.b]?=aa (.map ES clock)/\VRL Y (es.map (·.1)) (ES.toList.map (·.key))/\VRL Y (es.map (·.2)) (ES.toList.map (·.val))
 wr:w0.heap.size<=p.b
def kM(m n:wB):Prop:= ∃g v v',m.grp=aa (g,v)/\n.grp=aa (g,v')
structure Kept(w0 w:ib):Prop where
 os:w.os=w0.os
 output:w.output=w0.output
 size:w0.heap.size<=w.heap.size
 old: ∀k,k<w0.heap.size->w.heap[k]?=w0.heap[k]?
def Kept.frozen{w0 w:ib}(h:Kept w0 w){a:Addr}(ha:a.block<w0.heap.size):w.frozen? a=w0.frozen? a:=by
 simp only[World.frozen?,h.old _ ha]
def Kept.keptBut{w0 w:ib}(h:Kept w0 w):w0.keptBut w (λ_=>False):=by
 refine⟨h.os,h.output,λi hi=>?_⟩
 rw[h.old i hi];cases w0.heap[i]? with
 |none=>trivial
 |some o=>cases o<;>first|exact⟨rfl,rfl,rfl,λ_ _=>rfl⟩|exact .inr ⟨rfl,rfl⟩|rfl
def Kept.refl(w:ib):Kept w w:=⟨rfl,rfl,aS _,λ_ _=>rfl⟩
structure KeptO(w0:W0)(Y:Mp)(w:ib):Prop extends Kept w0.toWorld w where
 oth: ∀k o,w0.O k=aa o->w.heap[k]?=aa o/\∀id p,Y id=aa p->p.b≠k
 bnd: ∀id p,Y id=aa p->p.b<w.heap.size
def KeptO.refl{Y:Mp}{w:ib}(h: ∀id p,Y id=aa p->p.b<w.heap.size):KeptO (W0.of w) Y w:=⟨Kept.refl w,(λk o h=>(by cases h)),h⟩
structure Sim(w0:W0)(P:az)(Y:Mp)(H:St)(w:ib):Prop where
 kept:KeptO w0 Y w
 dom: ∀id,H.next<=id->Y id=ae
 glob: ∀g,g<P.globals.size->∃p,Y g=aa p/\p.b=g/\p.o=0
 row: ∀id p cs m,Y id=aa p->H.get id=aa (.cells cs m)->H.good m=ah->RowAt w0 Y w p cs m
 map: ∀id p es,Y id=aa p->H.get id=aa (.map es)->MapAt w0 Y w p es
 off: ∀i j p q cs ds m n,i≠j->Y i=aa p->Y j=aa q->H.get i=aa (.cells cs m)->H.get j=aa (.cells ds n)->H.good m=ah->H.good n=ah->
  m.wr=ah->¬kM m n->Off p p.o (p.o+cs.length) q q.o (q.o+ds.length)
 tip: ∀i j p q cs ds m n,i≠j->Y i=aa p->Y j=aa q->H.get i=aa (.cells cs m)->H.get j=aa (.cells ds n)->H.good m=ah->H.good n=ah->
  m.tip=ah->Off p (p.o+cs.length) p.e q q.o (q.o+ds.length)/\(n.tip=ah->Off p (p.o+cs.length) p.e q (q.o+ds.length) q.e)
 maps: ∀i j p q es fs,i≠j->Y i=aa p->Y j=aa q->H.get i=aa (.map es)->H.get j=aa (.map fs)->p.b≠q.b
 vers: ∀id cs m g v,H.get id=aa (.cells cs m)->m.grp=aa (g,v)->v<=H.ver g
 lim: ∀i j p q cs ds m n,i≠j->Y i=aa p->Y j=aa q->H.get i=aa (.cells cs m)->H.get j=aa (.cells ds n)->H.good m=ah->H.good n=ah->
  m.tip=ah->Off p (p.o+m.lim) (p.o+cs.length) q q.o (q.o+ds.length)
def Off.symm{p q:Place}{a b c d:Nat}(h:Off p a b q c d):Off q c d p a b:=λe x h1 h2 h3 h4=>h e.symm x h3 h4 h1 h2
def St.get_put(H:St)(id k:Nat)(o:AObj):(H.put id o).get k=if k=id then aa o else H.get k:=Tr.get_set _ _ _ _
def St.get_bump(H:St)(g v k:Nat):(H.bump g v).get k=H.get k:=rfl
def St.ver_bump(H:St)(g v k:Nat):(H.bump g v).ver k=if k=g then v else H.ver k:=by
 simp only[St.ver,St.bump,Tr.get_set];split<;>rfl
def St.good_iff(H:St)(m:wB):H.good m=ah↔∀g v,m.grp=aa (g,v)->H.ver g=v:=by
 unfold St.good;cases hm:m.grp with
 |none=>simp
 |some x=>obtain⟨g,v⟩:=x;simp[dZ]
def St.row_some{H:St}{id:Nat}{cs:au av}{m:wB}(h:H.row id=aa (cs,m)):H.get id=aa (.cells cs m)/\H.good m=ah:=by
 unfold St.row at h;split at h
 .rename_i cq m' hg;cases hb:H.good m' with
  |true=>simp only[hb,aI,aA,aB]at h;obtain⟨rfl,rfl⟩:=h;exact⟨hg,hb⟩
  |false=>simp[hb]at h
 .cases h
end Go.AI
namespace Go.PI
open Go.AI
abbrev Nu:=Nat->f9 (f9 Nat)
inductive K where
 |slot (t:Nat)
 |cell (id off:Nat)
 |out
 |hand
 |arg (i:Nat)
 deriving DecidableEq
abbrev Ga:=Nat->f9 K
def fM(es:au PV):au PV:=es.flatMap PV.cells
def Fz(J:Nu)(H:St)(id:Nat)(cs:au av)(m:wB):Prop:=H.row id=aa (cs,m)/\∀k,J k≠aa (aa id)
inductive R(J:Nu)(H:St):PV->av->Prop where
 |und (u:av):R J H .und u
 |v (x:av) (h:bZ x=ah):R J H (.v x) x
 |str (s:ByteArray):R J H (.str s.data.toList) (.string s)
 |agg (xs:List PV) (us:Array av) (hl:xs.length=us.toList.length) (h: ∀(i:Nat) (x:PV) (u:av),xs[i]?=aa x->us.toList[i]?=aa u->R J H x u):R J H (.agg xs) (.agg us)
 |tup (xs:List PV) (us:Array av) (hl:xs.length=us.toList.length) (h: ∀(i:Nat) (x:PV) (u:av),xs[i]?=aa x->us.toList[i]?=aa u->R J H x u):R J H (.tup xs) (.tuple us)
 |nil:R J H .nil (.slice ae 0 0)
 |emp0:R J H .emp (.slice ae 0 0)
 |emp1 (id off c:Nat) (rcs:List av) (m:wB) (hr:Fz J H id rcs m):R J H .emp (.slice (aa ⟨id,off,ae⟩) 0 c)
 |emp2 (b o s c:Nat):R J H .emp (.slice (aa ⟨b,o,aa s⟩) 0 c)
 |sl (z:Nat) (es:List PV) (id off c:Nat) (rcs:List av) (m:wB) (hz:1<=z) (hs: ∀e∈es,e.cells.length=z/\e.cells.all PV.pur=ah) (hr:Fz J H id rcs m) (hm:m.z=z)
      (hb:off+es.length*z<=rcs.length) (h: ∀(i:Nat) (x:PV) (u:av),(fM es)[i]?=aa x->rcs[off+i]?=aa u->R J H x u):
      R J H (.sl z es) (.slice (aa ⟨id,off,ae⟩) es.length c)
 |pin (z:Nat) (es:List PV) (i off id base:Nat) (rcs:List av) (m:wB) (hs: ∀e∈es,e.cells.length=z/\e.cells.all PV.pur=ah) (hr:Fz J H id rcs m)
      (hb:base+es.length*z<=rcs.length) (h: ∀(i:Nat) (x:PV) (u:av),(fM es)[i]?=aa x->rcs[base+i]?=aa u->R J H x u):
      R J H (.pin es i off) (.pointer (aa ⟨id,base+i*z+off,ae⟩))
 |ptr (id off a:Nat) (h:J id=aa (aa a)):R J H (.ptr id off) (.pointer (aa ⟨a,off,ae⟩))
 |ptr0 (id off a:Nat) (h:J id=aa ae):R J H (.ptr id off) (.pointer (aa ⟨a,off,ae⟩))
 |rs (id off len c a:Nat) (h:J id=aa (aa a)):R J H (.rs id off len) (.slice (aa ⟨a,off,ae⟩) len c)
 |rs0 (id off len c a:Nat) (h:J id=aa ae):R J H (.rs id off len) (.slice (aa ⟨a,off,ae⟩) len c)
 |fn (f:Nat) (xs ys:List PV) (us vs:Array av) (hl:xs.length=us.toList.length) (h: ∀(i:Nat) (x:PV) (u:av),xs[i]?=aa x->us.toList[i]?=aa u->R J H x u)
      (fe:ys.length=vs.toList.length) (h': ∀(i:Nat) (x:PV) (u:av),ys[i]?=aa x->vs.toList[i]?=aa u->R J H x u):R J H (.fn f xs ys) (.func (.func f) us vs)
def RL(J:Nu)(H:St)(xs:au PV)(us:au av):Prop:=xs.length=us.length/\∀(i:Nat) (x:PV) (u:av),xs[i]?=aa x->us[i]?=aa u->R J H x u
inductive Ow(J:Nu)(I:Ga)(H:St)(k:K):PV->av->Prop where
 |nil (x:PV):Ow J I H k x (.slice ae 0 0)
 |exact(x:PV) (id off len:Nat) (rcs:List av) (m:wB) (hr:Fz J H id rcs m):Ow J I H k x (.slice (aa ⟨id,off,ae⟩) len len)
 |zer (x:PV) (b o:Nat):Ow J I H k x (.slice (aa ⟨b,o,aa 1⟩) 0 0)
 |tip (z:Nat) (es:List PV) (id off c:Nat) (rcs:List av) (m:wB) (hr:Fz J H id rcs m) (ht:m.tip=ah) (hw:m.wr=ah) (hg:m.grp.isSome=ah)
      (hb:off+es.length*m.z=rcs.length) (hk:I id=aa k):Ow J I H k (.sl z es) (.slice (aa ⟨id,off,ae⟩) es.length c)
 |tup (x:PV) (xs:List PV) (u:av) (us:List av) (hx:x.one=ah) (h:Ow J I H k x u):Ow J I H k (.tup (x::xs)) (.tuple ⟨u::us⟩)
structure Keep(J:Nu)(I:Ga)(H H':St):Prop where
 vers:H'.vers=H.vers
 next:H.next<=H'.next
 dom: ∀a,H'.get a=ae->H.get a=ae
 row: ∀a,(∀k,J k≠aa (aa a))->∀cs m,H.get a=aa (.cells cs m)->∃b,H'.get a=aa (.cells cs {m with tip:=b})/\(m.tip=aj->b=aj)/\(I a=aa .out->b=m.tip)
def Mon(H:St)(J J':Nu):Prop:=(∀id x,J id=aa x->J' id=aa x∨J' id=aa ae)/\(∀id a,J' id=aa (aa a)->J id=aa (aa a)∨H.get a=ae)
def Mon.refl(H:St)(J:Nu):Mon H J J:=⟨λ_ _ h=> .inl h,λ_ _ h=> .inl h⟩
def Mon.trans{H H':St}{J J' J'':Nu}(h:Mon H J J')(h':Mon H' J' J'')(hd: ∀a,H'.get a=ae->H.get a=ae):Mon H J J'':=by
 refine⟨λid x e=>?_,λid a e=>?_⟩
 .rcases h.1 id x e with h1|h1
  .exact h'.1 id x h1
  .rcases h'.1 id ae h1 with h2|h2<;>exact .inr h2
 .rcases h'.2 id a e with h1|h1
  .rcases h.2 id a h1 with h2|h2
   .exact .inl h2
   .exact .inr h2
  .exact .inr (hd a h1)
def pZ{H H':St}(h:H'.vers=H.vers)(m:wB):H'.good m=H.good m:=by
 simp only[St.good,St.ver,h]
def row_of_get{H:St}{id:Nat}{cs:au av}{m:wB}(h:H.get id=aa (.cells cs m))(hg:H.good m=ah):H.row id=aa (cs,m):=by
 simp only[St.row,h,hg,aI]
def fS{H:St}{id:Nat}{cs:au av}{m:wB}(h:H.row id=aa (cs,m)):H.get id=aa (.cells cs m)/\H.good m=ah:=by
 unfold St.row at h;split at h
 .rename_i cq m' e;cases hg:H.good m' with
  |true=>rw[hg,aI]at h;simp only[aA,aB]at h;obtain⟨rfl,rfl⟩:=h;exact⟨e,hg⟩
  |false=>rw[hg,aJ]at h;cases h
 .cases h
def Keep.refl(J:Nu)(I:Ga)(H:St):Keep J I H H:=⟨rfl,aS _,λ_ h=>h,λa _ cs m h=>⟨m.tip,by rw[h],id,λ_=>rfl⟩⟩
def Fz.keep{J J':Nu}{I:Ga}{H H':St}{id:Nat}{cs:au av}{m:wB}(h:Fz J H id cs m)(k:Keep J I H H')(hm:Mon H J J'):
    ∃b,Fz J' H' id cs {m with tip:=b}:=by
 obtain⟨hr,hn⟩:=h;obtain⟨hg,bf⟩:=fS hr;obtain⟨b,hb,_⟩:=k.row id hn cs m hg;refine⟨b,row_of_get hb ?_,λj hj=>?_⟩
 .rw[pZ k.vers];exact bf
 .rcases hm.2 j id hj with h1|h1
  .exact hn j h1
  .rw[h1]at hg;cases hg
def R.keep{J J':Nu}{I:Ga}{H H':St}(k:Keep J I H H')(hm:Mon H J J'){x:PV}{u:av}(r:R J H x u):R J' H' x u:=by
 induction r with
 |und u=>exact .und u
 |v x h=>exact .v x h
 |str s=>exact .str s
 |agg xs us hl _ ih=>exact .agg xs us hl ih
 |tup xs us hl _ ih=>exact .tup xs us hl ih
 |nil=>exact .nil
 |emp0=>exact .emp0
 |emp1 id off c rcs m hr=>obtain⟨b,hf⟩:=hr.keep k hm;exact .emp1 id off c rcs _ hf
 |emp2 b o s c=>exact .emp2 b o s c
 |sl z es id off c rcs m hz hs hr ln hb _ ih=>
  obtain⟨b,hf⟩:=hr.keep k hm;exact .sl z es id off c rcs _ hz hs hf ln hb ih
 |pin z es i off id base rcs m hs hr hb _ ih=>
  obtain⟨b,hf⟩:=hr.keep k hm;exact .pin z es i off id base rcs _ hs hf hb ih
 |ptr id off a h=>
  rcases hm.1 id _ h with h1|h1
  .exact .ptr id off a h1
  .exact .ptr0 id off a h1
 |ptr0 id off a h=>
  rcases hm.1 id _ h with h2|h2<;>exact .ptr0 id off a h2
 |rs id off len c a h=>
  rcases hm.1 id _ h with h1|h1
  .exact .rs id off len c a h1
  .exact .rs0 id off len c a h1
 |rs0 id off len c a h=>
  rcases hm.1 id _ h with h2|h2<;>exact .rs0 id off len c a h2
 |fn f xs ys us vs hl _ fe _ ih tj=>exact .fn f xs ys us vs hl ih fe tj
def Ow.keep{J J':Nu}{I I1 I':Ga}{H H':St}{k k':K}{x:PV}{u:av}(o:Ow J I H k x u)(kp:Keep J I1 H H')(hm:Mon H J J')
    (h: ∀i,I i=aa k->H.get i≠ae->I1 i=aa .out/\I' i=aa k'):Ow J' I' H' k' x u:=by
 induction o with
 |nil x=>exact .nil x
 |exact x id off len rcs m hr=>obtain⟨b,hf⟩:=hr.keep kp hm;exact .exact x id off len rcs _ hf
 |zer x b o=>exact .zer x b o
 |tup x xs u us hx _ ih=>exact .tup x xs u us hx ih
 |tip z es id off c rcs m hr ht hw hg hb hk=>
  obtain⟨hr0,hn⟩:=hr;obtain⟨bc,bf⟩:=fS hr0;obtain⟨h1,h2⟩:=h id hk (by rw[bc];simp)
  obtain⟨b,bm,_,hb2⟩:=kp.row id hn rcs m bc;have hbt:=hb2 h1;subst hbt;refine .tip z es id off c rcs m ⟨row_of_get bm (by rw[pZ kp.vers];exact bf),λj hj=>?_⟩ ht hw hg hb h2
  rcases hm.2 j id hj with h3|h3
  .exact hn j h3
  .rw[h3]at bc;cases bc
def mv(k k':K)(I:Ga):Ga:=λi=>if I i=aa k then aa k' else I i
def Ow.mv{J:Nu}{I:Ga}{H:St}{k k':K}{x:PV}{u:av}(o:Ow J I H k x u):Ow J (mv k k' I) H k' x u:=by
 induction o with
 |nil x=>exact .nil x
 |exact x id off len rcs m hr=>exact .exact x id off len rcs m hr
 |zer x b o=>exact .zer x b o
 |tup x xs u us hx _ ih=>exact .tup x xs u us hx ih
 |tip z es id off c rcs m hr ht hw hg hb hk=>exact .tip z es id off c rcs m hr ht hw hg hb (by simp[PI.mv,hk])
def Ow.mv_ne{J:Nu}{I:Ga}{H:St}{k k' j:K}{x:PV}{u:av}(o:Ow J I H j x u)(h:j≠k):Ow J (PI.mv k k' I) H j x u:=by
 induction o with
 |nil x=>exact .nil x
 |exact x id off len rcs m hr=>exact .exact x id off len rcs m hr
 |zer x b o=>exact .zer x b o
 |tup x xs u us hx _ ih=>exact .tup x xs u us hx ih
 |tip z es id off c rcs m hr ht hw hg hb hk=>exact .tip z es id off c rcs m hr ht hw hg hb (by simp[PI.mv,hk,h])
def Ow.weak{J:Nu}{I I':Ga}{H:St}{k k':K}{x:PV}{u:av}(o:Ow J I H k x u)(h: ∀i,I i=aa k->I' i=aa k'):Ow J I' H k' x u:=by
 induction o with
 |nil x=>exact .nil x
 |exact x id off len rcs m hr=>exact .exact x id off len rcs m hr
 |zer x b o=>exact .zer x b o
 |tup x xs u us hx _ ih=>exact .tup x xs u us hx ih
 |tip z es id off c rcs m hr ht hw hg hb hk=>exact .tip z es id off c rcs m hr ht hw hg hb (h id hk)
def Ow.slice{J:Nu}{I:Ga}{H:St}{k:K}{x:PV}{u:av}(o:Ow J I H k x u)(h:x.cells.all PV.one=ah):iH u=ah:=by
 cases o with
 |tup x xs u us _ _=>simp[PV.cells,PV.one]at h
 |_=>rfl
def ObjR(J:Nu)(I:Ga)(H:St)(id:Nat):lT->Prop
 | .box cs=> ∃a us,J id=aa (aa a)/\H.get a=aa (.cells us boxMeta)/\us.length=cs.length/\
      ∀(i:Nat) (x:PV) (b:Bool) (u:av),cs[i]?=aa (x,b)->us[i]?=aa u->R J H x u/\x.one=ah/\(b=ah->Ow J I H (.cell id i) x u)
 | .row z _ cs=> ∃a us,J id=aa (aa a)/\H.get a=aa (.cells us (eY z))/\us.length=cs.length/\cs.all PV.one=ah/\
      ∀(i:Nat) (x:PV) (u:av),cs[i]?=aa x->us[i]?=aa u->R J H x u
 | .map _=>False
 | .gone=>J id=aa ae
structure Mem(J:Nu)(I:Ga)(p:PSt)(H:St):Prop where
 le: ∀id x,J id=aa x->id<p.next
 lt: ∀id a,J id=aa (aa a)->a<H.next
 inj: ∀i j a,J i=aa (aa a)->J j=aa (aa a)->i=j
 live: ∀id a,J id=aa (aa a)->∃o,p.get id=aa o
 get: ∀id o,p.get id=aa o->ObjR J I H id o
 free: ∀a,H.next<=a->H.get a=ae
 ver: ∀g,H.ver g=0
def FR(J:Nu)(I:Ga)(H:St)(S:PS)(A:ia):Prop:=
 ∀t,R J H (S.at t).1 (A.at t)/\((S.at t).2=ah->Ow J I H (.slot t) (S.at t).1 (A.at t))
section
variable{J:Nu}{H:St}
def RL.nil:RL J H [] []:=⟨rfl,λi x u h=>by simp at h⟩
def RL.cons{x:PV}{u:av}{xs:au PV}{us:au av}(h:R J H x u)(r:RL J H xs us):RL J H (x::xs) (u::us):=by
 refine⟨by simp[r.1],λi y v hy hv=>?_⟩
 cases i with
 |zero=>simp at hy hv;subst hy;subst hv;exact h
 |succ i=>simp at hy hv;exact r.2 i y v hy hv
def RL.cons_inv{x:PV}{xs:au PV}{us:au av}(r:RL J H (x::xs) us): ∃u vs,us=u::vs/\R J H x u/\RL J H xs vs:=by
 cases us with
 |nil=>have:=r.1;simp at this
 |cons u vs=>exact⟨u,vs,rfl,r.2 0 x u (by simp) (by simp),by simpa using r.1,λi y v hy hv=>r.2 (i+1) y v (by simpa using hy) (by simpa using hv)⟩
def RL.nil_inv{us:au av}(r:RL J H [] us):us=[]:=by have:=r.1;simpa using this.symm
def RL.append{xs ys:au PV}{us vs:au av}(r:RL J H xs us)(s:RL J H ys vs):RL J H (xs++ys) (us++vs):=by
 induction xs generalizing us with
 |nil=>rw[r.nil_inv];exact s
 |cons x xs ih=>obtain⟨u,jp,rfl,h,r'⟩:=r.cons_inv;exact .cons h (ih r')
def RL.drop{xs:au PV}{us:au av}(r:RL J H xs us)(n:Nat):RL J H (xs.drop n) (us.drop n):=
 ⟨by simp[r.1],λi x u hx hu=>r.2 (n+i) x u (by simpa using hx) (by simpa using hu)⟩
def RL.take{xs:au PV}{us:au av}(r:RL J H xs us)(n:Nat):RL J H (xs.take n) (us.take n):=by
 refine⟨by simp[r.1],λi x u hx hu=>?_⟩
 rw[m6]at hx hu;split at hx
 .rename_i hi;rw[bJ hi]at hu;exact r.2 i x u hx hu
 .cases hx
def RL.get{xs:au PV}{us:au av}(r:RL J H xs us){i:Nat}{x:PV}(h:xs[i]?=aa x): ∃u,us[i]?=aa u/\R J H x u:=by
 have hi:i<xs.length:=by
  rcases b8 i xs.length with h'|h'
  .exact h'
  .simp[ed h']at h
 have:us[i]?=aa (us[i]'(r.1▸hi)):=aV _;exact⟨_,this,r.2 i x _ h this⟩
def RL.set{xs:au PV}{us:au av}(r:RL J H xs us){x:PV}{u:av}(h:R J H x u)(n:Nat):RL J H (xs.set n x) (us.set n u):=by
 refine⟨by simp[r.1],λi y v hy hv=>?_⟩
 rw[List.getElem?_set]at hy hv;split at hy
 .rename_i e;rw[bJ e]at hv;split at hy
  .split at hv
   .simp at hy hv;subst hy;subst hv;exact h
   .cases hv
  .cases hy
 .rename_i e;rw[bI e]at hv;exact r.2 i y v hy hv
def RL.keep{J':Nu}{I:Ga}{H':St}(k:Keep J I H H')(hm:Mon H J J'){xs:au PV}{us:au av}(r:RL J H xs us):RL J' H' xs us:=
 ⟨r.1,λi x u hx hu=>(r.2 i x u hx hu).keep k hm⟩
def R.agg_inv{xs:au PV}{u:av}(r:R J H (.agg xs) u): ∃us,u= .agg us/\RL J H xs us.toList:=by
 cases r with
 |agg _ us hl h=>exact⟨us,rfl,hl,h⟩
def R.tup_inv{xs:au PV}{u:av}(r:R J H (.tup xs) u): ∃us,u= .tuple us/\RL J H xs us.toList:=by
 cases r with
 |tup _ us hl h=>exact⟨us,rfl,hl,h⟩
def R.mkAgg{xs:au PV}{us:au av}(r:RL J H xs us):R J H (.agg xs) (.agg us.toArray):= .agg _ _ (by simpa using r.1) (by simpa using r.2)
def R.mkAgg'{xs:au PV}{us:Array av}(r:RL J H xs us.toList):R J H (.agg xs) (.agg us):= .agg _ _ r.1 r.2
def R.mkTup{xs:au PV}{us:au av}(r:RL J H xs us):R J H (.tup xs) (.tuple us.toArray):= .tup _ _ (by simpa using r.1) (by simpa using r.2)
def R.one{x:PV}{u:av}(r:R J H x u)(h:x.one=ah):one u=ah:=by
 cases r<;>first|rfl|assumption|(simp[PV.one]at h)|skip
 rename_i hp;cases u<;>first|rfl|simp[bZ]at hp
def RL.one{xs:au PV}{us:au av}(r:RL J H xs us)(h:xs.all PV.one=ah):us.all AI.one=ah:=by
 induction xs generalizing us with
 |nil=>rw[r.nil_inv];rfl
 |cons x xs ih=>
  obtain⟨u,jp,rfl,hx,r'⟩:=r.cons_inv;simp only[aP,aC]at h⊢;exact⟨hx.one h.1,ih r' h.2⟩
def CW{x:PV}(h:x.one=ah):x.cells=[x]:=by cases x<;>first|rfl|simp[PV.one]at h
def To{u:av}(h:AI.one u=ah):u.cells= #[u]:=by cases u<;>first|rfl|simp[AI.one]at h
def R.cells{x:PV}{u:av}(r:R J H x u)(h:x.cells.all PV.one=ah):RL J H x.cells u.cells.toList:=by
 cases x with
 |agg cs=>obtain⟨us,rfl,hl⟩:=r.agg_inv;exact hl
 |_=>
  first
  |(rw[To (r.one (by simpa [PV.cells]using h))];exact .cons r .nil)
mutual
def R.wk: ∀{x:PV} {u:av},R J H x u->R J H (wk x) u
 | .agg cs,u,r=>by
  obtain⟨us,rfl,hl⟩:=r.agg_inv;exact .mkAgg' (RL.wks hl)
 | .tup cs,u,r=>by
  obtain⟨us,rfl,hl⟩:=r.tup_inv;exact .tup _ _ (RL.wks hl).1 (RL.wks hl).2
 | .nil,u,r=>by cases r;exact .emp0
 | .sl z [],u,r=>by
  cases r with
  |sl _ _ id off c rcs m hz hs hr hm hb hh=>exact .emp1 _ _ _ _ _ hr
 | .sl z (e::es),u,r=>r
 | .v _,u,r=>r
 | .str _,u,r=>r
 | .emp,u,r=>r
 | .pin ..,u,r=>r
 | .ptr ..,u,r=>r
 | .rs ..,u,r=>r
 | .mp _,u,r=>r
 | .fn ..,u,r=>r
 | .und,u,r=>r
def RL.wks: ∀{xs:au PV} {us:au av},RL J H xs us->RL J H (wks xs) us
 |[],us,r=>r
 |x::xs,us,r=>by
  obtain⟨u,jp,rfl,hx,r'⟩:=r.cons_inv;exact .cons (R.wk hx) (RL.wks r')
end
end
section
variable{P:az}{J:Nu}{I:Ga}{H:St}{S:PS}{A:ia}
def R.ofV0{x:av}(h:bZ x=ah):R J H (CF x) x:=by
 cases x with
 |string s=>exact .str s
 |slice a l c=>
  cases a with
  |none=>simp only[bZ,aC]at h;have h1:=aE h.1;have h2:=aE h.2;subst h1;subst h2;exact .nil
  |some a=>simp[bZ]at h
 |agg cs=>simp[bZ]at h
 |tuple cs=>simp[bZ]at h
 |_=>exact .v _ h
def RL.ofVs{xs:au av}(h:xs.all bZ=ah):RL J H (ofVs xs) xs:=by
 induction xs with
 |nil=>exact .nil
 |cons x xs ih=>
  simp only[aP,aC]at h;exact .cons (.ofV0 h.1) (ih h.2)
def R.ofV1{x:av}(h:dP x=ah):R J H (CF x) x:=by
 cases x with
 |agg cs=>exact .mkAgg' (.ofVs h)
 |_=>exact .ofV0 h
def Rv{xs:au av}(h:xs.all bZ=ah):(ofVs xs).all PV.one=ah:=by
 induction xs with
 |nil=>rfl
 |cons x xs ih=>
  simp only[aP,aC]at h;simp only[PI.ofVs,aP,aC];refine⟨?_,ih h.2⟩;have h1:=h.1;cases x with
  |slice a l c=>cases a<;>first|rfl|simp[bZ]at h1
  |_=>first|rfl|simp[bZ]at h1
def xH(xs:au av):(ofVs xs).length=xs.length:=by
 induction xs with
 |nil=>rfl
 |cons x xs ih=>simp[PI.ofVs,ih]
def rA{x:PV}{w u:av}(h:sN x=aa w)(r:R J H x u):u=w/\bZ w=ah:=by
 cases r<;>simp only[sN]at h<;>try cases h
 .rename_i hp;rw[hp]at h;simp only[aI,aA]at h;subst h;exact⟨rfl,hp⟩
 .exact⟨rfl,rfl⟩
def aNG{xs:au PV}{ws us:au av}(h:aCG xs=aa ws)(r:RL J H xs us):us=ws/\ws.all bZ=ah:=by
 induction xs generalizing ws us with
 |nil=>simp only[aCG,aA]at h;subst h;exact⟨r.nil_inv,rfl⟩
 |cons x xs ih=>
  obtain⟨u,jp,rfl,hx,r'⟩:=r.cons_inv;simp only[aCG]at h;split at h
  .rename_i a l h1 h2;simp only[aA]at h;subst h;obtain⟨rfl,hp⟩:=rA h1 hx;obtain⟨rfl,hq⟩:=ih h2 r';exact⟨rfl,by simp[hp,hq]⟩
  .cases h
def aNH{xs:au PV}{ws us:au av}(h:Tu xs=aa ws)(r:RL J H xs us):us=ws/\ws.all bZ=ah:=by
 induction xs generalizing ws us with
 |nil=>simp only[Tu,aA]at h;subst h;exact⟨r.nil_inv,rfl⟩
 |cons x xs ih=>
  obtain⟨u,jp,rfl,hx,r'⟩:=r.cons_inv;simp only[Tu]at h;split at h
  .rename_i a l h1 h2;simp only[aA]at h;subst h;obtain⟨rfl,hp⟩:=rA h1 hx;obtain⟨rfl,hq⟩:=ih h2 r';exact⟨rfl,by simp[hp,hq]⟩
  .cases h
def KX{x:PV}{w u:av}(h:aEE x=aa w)(r:R J H x u):u=w/\dP w=ah:=by
 cases x with
 |agg cs=>
  obtain⟨us,rfl,hl⟩:=r.agg_inv;simp only[aEE,aF]at h;obtain⟨l,h1,rfl⟩:=h;obtain⟨h2,h3⟩:=aNG h1 hl;refine⟨by rw[<-h2],by simpa [dP]using h3⟩
 |_=>
  simp only[aEE]at h;obtain⟨h1,h2⟩:=rA h r;refine⟨h1,?_⟩;cases w with
  |agg cs=>simp[bZ]at h2
  |_=>exact h2
def kK{s:Sem av}{w:av}(h:dU P s=aa w):dP w=ah:=by
 unfold dU at h;split at h
 .rename_i v e;cases hp:dP v with
  |true=>rw[hp,aI]at h;simp only[aA]at h;subst h;exact hp
  |false=>rw[hp,aJ]at h;cases h
 .cases h
def dL(F:FR J I H S A){x:a8}(hx:cM P x=ah):R J H (dG S x) (ev A x):=by
 cases x with
 |tmp t=>exact(F t).1
 |const v=>exact .ofV1 hx
 |global g=>exact .und _
 |func f=>exact .fn f [] [] #[] #[] rfl (λi x u h=>by simp at h) rfl (λi x u h=>by simp at h)
def BE(F:FR J I H S A){xs:au a8}(hx:xs.all (cM P)=ah):RL J H (xs.map (dG S)) (xs.map (ev A)):=by
 induction xs with
 |nil=>exact .nil
 |cons x xs ih=>
  simp only[aP,aC]at hx;exact .cons (dL F hx.1) (ih hx.2)
def Q7{t:aw}{cs:au PV}{us:Array av}{off:Nat}{v:PV}(r:RL J H cs us.toList)(h:sX P t cs off=aa v): ∃u,Ck P t us off=aa u/\R J H v u:=by
 unfold sX at h;unfold Ck;split at h
 .rename_i e;rw[e];split at h
  .rename_i n en;simp only[en];cases hb:ao ((cs.drop off).take n).length n with
   |false=>rw[hb,aJ]at h;cases h
   |true=>
    rw[hb,aI]at h;simp only[aA]at h;subst h;refine⟨_,rfl,.mkAgg' ?_⟩;have:=(r.drop off).take n;simpa [Array.toList_extract,List.extract_eq_take_drop]using this
  .cases h
 .rename_i e;rw[e];obtain⟨u,hu,hr⟩:=r.get h;exact⟨u,by simpa using hu,hr⟩
 .cases h
def AY{t:aw}{cs:au PV}{us:au av}{off base:Nat}{v:PV}(hb:base+cs.length<=us.length)
    (r: ∀(i:Nat) (x:PV) (u:av),cs[i]?=aa x->us[base+i]?=aa u->R J H x u) (h:sX P t cs off=aa v):
    ∃u,(match mB P t with
      |some ah=>match iN P t with
        |some n=>(cut us (base+off) n).map λl=>Value.agg l.toArray
        |none=>ae
      |some aj=>us[base+off]?
      |none=>ae)=aa u/\R J H v u:=by
 unfold sX at h;split at h
 .rename_i e;rw[e];split at h
  .rename_i n en;simp only[en];cases bm:ao ((cs.drop off).take n).length n with
   |false=>rw[bm,aJ]at h;cases h
   |true=>
    rw[bm,aI]at h;simp only[aA]at h;subst h;have hn:=aE bm;simp only[og,oh]at hn;have hl:((us.drop (base+off)).take n).length=n:=by simp only[og,oh];omega
    refine⟨.agg ((us.drop (base+off)).take n).toArray,?_,.mkAgg ⟨?_,?_⟩⟩
    .simp only[cut,dZ,hl,bN,aI,aK]
    .simp only[og,oh];omega
    .intro i x u hx hu;rw[m6]at hx hu;split at hx
     .rename_i hi;rw[bJ hi]at hu;rw[m7]at hx hu;exact r (off+i) x u hx (by rw[<-Nat.add_assoc];exact hu)
     .cases hx
  .cases h
 .rename_i e;rw[e];have hi:off<cs.length:=by
   rcases b8 off cs.length with h'|h'
   .exact h'
   .simp[ed h']at h
  have hu:us[base+off]?=aa (us[base+off]'(by omega)):=aV _
  exact⟨_,hu,r off v _ h hu⟩
 .cases h
def iZ{z:Nat}{es:au PV}(hs: ∀e∈es,e.cells.length=z):(fM es).length=es.length*z:=by
 induction es with
 |nil=>simp[fM]
 |cons e es ih=>
  have:=ih (λx hx=>hs x (aG _ hx))
  simp only[fM,aN,aZ,aM]at this⊢;rw[hs e (by simp),this,Nat.add_mul];omega
def aHU{z:Nat}{es:au PV}(hs: ∀e∈es,e.cells.length=z){i j:Nat}{e:PV}(he:es[i]?=aa e)(hj:j<z):(fM es)[i*z+j]?=e.cells[j]?:=by
 induction es generalizing i with
 |nil=>simp at he
 |cons x es ih=>
  simp only[fM,aN];have hx:=hs x (by simp)
  cases i with
  |zero=>
   simp only[aU,aA]at he;subst he;rw[Nat.zero_mul,ir,i7 (by omega)]
  |succ i=>
   simp only[aT]at he;have:=ih (λy hy=>hs y (aG _ hy)) he
   rw[eo (by rw[hx,Nat.succ_mul];omega),hx]
   rw[show(i+1)*z+j-z=i*z+j by rw[Nat.succ_mul];omega]
   exact this
def jG{N:Type}{l:au N}{i:Nat}{x:N}(h:l[i]?=aa x):x∈l:=ef h
def Fi{I:Ga}{p:PSt}(M:Mem J I p H){t:aw}{a v:PV}{w:av}(r:R J H a w)(h:kW P p t a=aa v): ∃u,iM P H t w=aa u/\R J H v u:=by
 cases a<;>simp only[kW]at h<;>try cases h
 .rename_i es i off;cases r with
  |pin z _ _ _ id base rcs m hs hr hb hh=>
  split at h
  .rename_i e he;have hz:=(hs e (jG he)).1;have hs:=λe he=>(hs e he).1
   have hi:i<es.length:=by
    rcases b8 i es.length with h'|h'
    .exact h'
    .simp[ed h']at he
   have hiz:i*z+z<=es.length*z:=by rw[<-Nat.succ_mul];exact Nat.mul_le_mul_right _ hi
   have:=AY (J:=J) (H:=H) (us:=rcs) (base:=base+i*z) (by rw[hz];omega) (λj x u hx hu=>by
    have hj:j<z:=by
     rcases b8 j e.cells.length with h'|h'
     .omega
     .simp[ed h']at hx
    exact hh (i*z+j) x u (by rw[aHU hs he hj];exact hx) (by rw[<-Nat.add_assoc];exact hu)) h
   obtain⟨u,hu,bz⟩:=this;refine⟨u,?_,bz⟩;simp only[iM,hr.1];exact hu
  .cases h
 .rename_i id off;cases r with
  |ptr _ _ a hν=>
   split at h
   .rename_i cs hg;obtain⟨a',us,h1,h2,h3,h4⟩:=M.get id _ hg;rw[hν]at h1;simp only[aA]at h1;subst h1;have:=AY (J:=J) (H:=H) (us:=us) (base:=0) (by simp[h3]) (λj x u hx hu=>by
     rw[m8]at hx;cases hc:cs[j]? with
     |none=>rw[hc]at hx;cases hx
     |some c=>
      rw[hc]at hx;simp only[aK,aA]at hx;subst hx;exact(h4 j c.1 c.2 u hc (by simpa using hu)).1) h
    obtain⟨u,hu,bz⟩:=this;refine⟨u,?_,bz⟩;simp only[iM,row_of_get h2 rfl];simp only[ir]at hu;exact hu
   .rename_i z ag cs hg;obtain⟨a',us,h1,h2,h3,h5,h4⟩:=M.get id _ hg;rw[hν]at h1;simp only[aA]at h1;subst h1;have:=AY (J:=J) (H:=H) (us:=us) (base:=0) (by simp[h3]) (λj x u hx hu=>h4 j x u hx (by simpa using hu)) h
    obtain⟨u,hu,bz⟩:=this;refine⟨u,?_,bz⟩;simp only[iM,row_of_get h2 rfl];simp only[ir]at hu;exact hu
   .cases h
  |ptr0 _ _ _ hν=>
   split at h
   .rename_i cs hg;obtain⟨a',us,h1,_⟩:=M.get id _ hg;rw[hν]at h1;cases h1
   .rename_i z ag cs hg;obtain⟨a',us,h1,_⟩:=M.get id _ hg;rw[hν]at h1;cases h1
   .cases h
end
section
variable{P:az}{J:Nu}{I:Ga}{H:St}{S:PS}{A:ia}
def aC9{t:aw}{v x:PV}{u:av}{f:Nat}(r:R J H v u)(h:Fm P t v f=aa x): ∃w,GJ P t u f=aa w/\R J H x w:=by
 unfold Fm at h;unfold GJ;split at h
 .rename_i fs e;rw[e];split at h
  .rename_i fd e2;simp only[e2];split at h
   .rename_i cs;obtain⟨us,rfl,hl⟩:=r.agg_inv;exact Q7 hl h
   .cases h
  .cases h
 .cases h
def ID{t:aw}{v x:PV}{u:av}{f:Nat}(r:R J H v u)(h:jB P t v f=aa x): ∃w,gZ P t u f=aa w/\R J H x w:=by
 unfold jB at h;unfold gZ;split at h
 .rename_i fs e;rw[e];split at h
  .rename_i fd e2;simp only[e2];split at h
   .rename_i n e3;simp only[e3];cases hb:ao n 0 with
    |true=>rw[hb,aI]at h;cases h
    |false=>
     rw[hb,aJ]at h;split at h
     .simp only[aA]at h;subst h;cases r with
      |ptr id off a hν=>simp only[hb,aJ];exact⟨_,rfl,.ptr _ _ _ hν⟩
      |ptr0 id off a hν=>simp only[hb,aJ];exact⟨_,rfl,.ptr0 _ _ _ hν⟩
     .rename_i es i off;simp only[aA]at h;subst h;cases r with
      |pin z _ _ _ id base rcs m hs hr hb2 hh=>simp only[hb,aJ];exact⟨_,rfl,by rw[Nat.add_assoc];exact .pin z es i _ id base rcs m hs hr hb2 hh⟩
     .cases h
   .cases h
  .cases h
 .cases h
def IC{t:aw}{v x i:PV}{u w:av}(r:R J H v u)(ri:R J H i w)(h:gX P t v i=aa x): ∃y,kH P t u w=aa y/\R J H x y:=by
 unfold gX at h;split at h
 .rename_i k n;have hw:w= .int k n:=by cases ri;rfl
  subst hw;simp only[kH];split at h
  .rename_i e he;simp only[he];split at h
   .rename_i z hz;split at h
    .rename_i z' es;cases r with
     |sl _ _ id off c rcs m h1 hs hr hm hb hh=>
      simp only[hz];cases hc:ao z z'&&dJ n es.length with
      |false=>rw[hc,aJ]at h;cases h
      |true=>
       rw[hc,aI]at h;simp only[aA]at h;subst h;simp only[aC]at hc;have gz:=aE hc.1;subst gz;rw[hc.2,aI];refine⟨_,rfl,?_⟩;have:=R.pin (J:=J) (H:=H) z es n.toNat 0 id off rcs m hs hr hb hh;simpa using this
    .rename_i id off len;cases hc:dJ n len with
     |false=>rw[hc,aJ]at h;cases h
     |true=>
      rw[hc,aI]at h;simp only[aA]at h;subst h;cases r with
      |rs _ _ _ c a hν=>simp only[hz,hc,aI];exact⟨_,rfl,.ptr _ _ _ hν⟩
      |rs0 _ _ _ c a hν=>simp only[hz,hc,aI];exact⟨_,rfl,.ptr0 _ _ _ hν⟩
    .cases h
   .cases h
  .rename_i len e he;simp only[he];split at h
   .rename_i z hz;split at h
    .rename_i id off;cases hc:dJ n len with
     |false=>rw[hc,aJ]at h;cases h
     |true=>
      rw[hc,aI]at h;simp only[aA]at h;subst h;cases r with
      |ptr _ _ a hν=>simp only[hz,hc,aI];exact⟨_,rfl,.ptr _ _ _ hν⟩
      |ptr0 _ _ a hν=>simp only[hz,hc,aI];exact⟨_,rfl,.ptr0 _ _ _ hν⟩
    .rename_i es j off;cases hc:dJ n len with
     |false=>rw[hc,aJ]at h;cases h
     |true=>
      rw[hc,aI]at h;simp only[aA]at h;subst h;cases r with
      |pin z0 _ _ _ id base rcs m hs hr hb2 hh=>simp only[hz,hc,aI];exact⟨_,rfl,by rw[Nat.add_assoc];exact .pin z0 es j _ id base rcs m hs hr hb2 hh⟩
    .cases h
   .cases h
  .cases h
 .cases h
def Fj{w:av}(h:bZ w=ah):dP w=ah:=by cases w<;>first|exact h|simp[bZ]at h
def aC7{t:aw}{v x i:PV}{u w:av}(r:R J H v u)(ri:R J H i w)(h:CB P t v i=aa x): ∃y,GI P t u w=aa y/\R J H x y:=by
 unfold CB at h;unfold GI;split at h
 .rename_i e;rw[e];split at h
  .rename_i a b ha hb;obtain⟨rfl,vi⟩:=rA ha r;obtain⟨rfl,hpb⟩:=rA hb ri;simp only[aF]at h;obtain⟨y,hy,rfl⟩:=h;exact⟨y,by simp only[vi,hpb,n8,aI];exact hy,.ofV1 (kK hy)⟩
  .cases h
 .rename_i len e he;rw[he];split at h
  .rename_i k n cs;have hw:w= .int k n:=by cases ri;rfl
   subst hw;obtain⟨us,rfl,hl⟩:=r.agg_inv;split at h
   .rename_i z hz;cases hc:dJ n len with
    |false=>rw[hc,aJ]at h;cases h
    |true=>
     rw[hc,aI]at h;simp only[hz,hc,aI];exact Q7 hl h
   .cases h
  .cases h
 .cases h
def aOv{op:BinOp}{t:aw}{x y:a8}{a b v:PV}(ra:R J H a (ev A x))(rb:R J H b (ev A y))(h:pJ P op t x y a b=aa v):
    ∃w,(bif dP (ev A x)&&dP (ev A y)then dU P (do eqGuard op t x y (ev A x) (ev A y);binOp op t (ev A x) (ev A y))
      else match P.underlying t with
        |some (.slice _)=>aIY op (ev A x) (ev A y)
        |_=>ae)=aa w/\R J H v w:=by
 unfold pJ at h;split at h
 .rename_i u w hu hw;obtain⟨h1,hp1⟩:=KX hu ra;obtain⟨h2,hp2⟩:=KX hw rb;simp only[aF]at h;obtain⟨y',hy,rfl⟩:=h;rw[h1,h2,hp1,hp2];exact⟨y',by simpa using hy,.ofV1 (kK hy)⟩
 .split at h
  .rename_i e he _;unfold a1e at h;split at h
   .generalize ev A x=u1 at*;generalize ev A y=u2 at*;cases ra;cases rb;rw[he];simp only[dP,bZ,iv,aJ];cases op<;>simp only[aA,reduceCtorEq]at h<;>subst h<;>exact⟨_,rfl,.v _ rfl⟩
   .cases h
  .cases h
def a1b{op:UnOp}{a v:PV}{u:av}(r:R J H a u)(h:bBf P op a=aa v): ∃w,(bif bZ u then dU P (Op.unary op u)else ae)=aa w/\R J H v w:=by
 unfold bBf at h;split at h
 .rename_i u' hu;obtain⟨rfl,hp⟩:=rA hu r;simp only[aF]at h;obtain⟨y,hy,rfl⟩:=h;exact⟨y,by rw[hp];exact hy,.ofV1 (kK hy)⟩
 .cases h
def aGp{s d:aw}{a v:PV}{u:av}(r:R J H a u)(h:Az P s d a=aa v): ∃w,(bif bZ u then dU P (convert s d u)else ae)=aa w/\R J H v w:=by
 unfold Az at h;split at h
 .rename_i u' hu;obtain⟨rfl,hp⟩:=rA hu r;simp only[aF]at h;obtain⟨y,hy,rfl⟩:=h;exact⟨y,by rw[hp];exact hy,.ofV1 (kK hy)⟩
 .cases h
def RX(place:Nat): ∀(c:au PV) (c':au av) (k:Nat) (A:au PV) (A':Array av),RL J H c c'->RL J H A A'.toList->
    RL J H (Cz A (place+k) c) ((c'.zipIdx k).foldl (λ(cs:Array av) x=>cs.setIfInBounds (place+x.2) x.1) A').toList:=by
 intro c;induction c with
 |nil=>intro c' k A A' h hA;rw[h.nil_inv];exact hA
 |cons x c ih=>
  intro c' k A A' h hA;obtain⟨u,us,rfl,hx,hr⟩:=h.cons_inv;simp only[List.zipIdx_cons,List.foldl_cons,Cz];have:=ih us (k+1) (A.set (place+k) x) (A'.setIfInBounds (place+k) u) hr (by rw[Array.toList_setIfInBounds];exact hA.set hx _)
  exact this
def PRs(J:Nu)(H:St)(ps:au (Nat×PV))(qs:au (Nat×av)):Prop:=ps.map (·.1)=qs.map (·.1)/\RL J H (ps.map (·.2)) (qs.map (·.2))
def PRs.of(F:FR J I H S A){parts:au (Nat×a8)}(h:(parts.map (·.2)).all (cM P)=ah):
    PRs J H (parts.map λ(i,x)=>(i,dG S x)) (parts.map λ(i,x)=>(i,ev A x)):=by
 refine⟨by simp[Function.comp_def],?_⟩
 have:=BE (P:=P) F h;simpa [Function.comp_def]using this
def Q9(place:Nat->f9 (Nat×Nat)): ∀(ps:au (Nat×PV)) (qs:au (Nat×av)) (B:au PV) (B':Array av) (r:au PV),PRs J H ps qs->RL J H B B'.toList->BD place B ps=aa r->
    ∃r',Instr.fill place B' qs=aa r'/\RL J H r r'.toList:=by
 intro ps;induction ps with
 |nil=>
  intro qs B B' r hp hB h;have:qs=[]:=by have:=hp.1;simpa using this.symm
  subst this;simp only[BD,aA]at h;subst h;exact⟨B',rfl,hB⟩
 |cons q ps ih=>
  intro qs B B' r hp hB h;obtain⟨i,x⟩:=q;cases qs with
  |nil=>have:=hp.1;simp at this
  |cons q' qs=>
   obtain⟨i',u⟩:=q';have h1:=hp.1;simp only[aO,List.cons.injEq]at h1;obtain⟨rfl,h1⟩:=h1;have h2:=hp.2;simp only[aO]at h2;obtain⟨u',jp,he,hx,hr⟩:=h2.cons_inv;simp only[List.cons.injEq]at he;obtain⟨rfl,rfl⟩:=he;simp only[BD]at h;simp only[Instr.fill];split at h
   .cases h
   .rename_i off size e;simp only[e];cases hc:ao x.cells.length size&&aq (off+size) B.length&&x.cells.all PV.one with
    |false=>rw[hc,aJ]at h;cases h
    |true=>
     rw[hc,aI]at h;simp only[aC]at hc;have hcs:=hx.cells hc.2;have bu:=aE hc.1.1;have hle:=bR hc.1.2;have gj:u.cells.size=size:=by have:=hcs.1;simp at this;omega
     have hBl:B.length=B'.size:=by have:=hB.1;simpa using this
     rw[bI (by simp[gj];omega)]
     refine ih qs _ _ r ⟨h1,hr⟩ ?_ h;have:=RX (J:=J) (H:=H) off x.cells u.cells.toList 0 B B' hcs hB;rw[<-Array.foldl_toList,Array.toList_zipIdx];exact this
def tU{t:aw}{z:au PV}(h:zeroCells P t=aa z): ∃w,cU P (zeroValue t)=aa w/\w.cells.toList.all bZ=ah/\z=ofVs w.cells.toList:=by
 unfold zeroCells at h;split at h
 .rename_i w e;cases hc:w.cells.toList.all bZ with
  |false=>rw[hc,aJ]at h;cases h
  |true=>rw[hc,aI]at h;simp only[aA]at h;exact⟨w,e,hc,h.symm⟩
 .cases h
def aDb{t:aw}{ps:au (Nat×PV)}{qs:Array (Nat×av)}{v:PV}(hp:PRs J H ps qs.toList)(h:A4 P t ps=aa v): ∃w,Be P t qs=aa w/\R J H v w:=by
 unfold A4 at h;split at h
 .rename_i z hz;obtain⟨w,hw,dm,rfl⟩:=tU hz;unfold Be;simp only[hw,dm,aI];split at h
  .rename_i fs e;simp only[e];split at h
   .rename_i pl e2;simp only[e2];simp only[aF]at h;obtain⟨cs,hf,rfl⟩:=h;obtain⟨cq,jl,hr⟩:=Q9 _ _ _ _ _ _ hp (.ofVs dm) hf;exact⟨_,by rw[jl];rfl,.mkAgg' hr⟩
   .cases h
  .rename_i n e he;simp only[he];split at h
   .rename_i s e2;simp only[e2];simp only[aF]at h;obtain⟨cs,hf,rfl⟩:=h;obtain⟨cq,jl,hr⟩:=Q9 _ _ _ _ _ _ hp (.ofVs dm) hf;exact⟨_,by rw[jl];rfl,.mkAgg' hr⟩
   .cases h
  .cases h
 .cases h
def aOr{t:aw}{v x:PV}{u:av}(r:R J H v u)(h:DQ P t v=aa x): ∃w,VD P t u=aa w/\R J H x w:=by
 unfold DQ at h;unfold VD;split at h
 .rename_i e he;simp only[he];split at h<;>(try cases h)<;>(cases r<;>exact⟨_,rfl,.v _ rfl⟩)
 .rename_i he;simp only[he];split at h<;>(try cases h)
  cases r with
  |str s=>refine⟨_,rfl,?_⟩;simp only[i64,goInt,Array.length_toList];exact .v _ rfl
 .rename_i n e he;simp only[he];cases h;exact⟨_,rfl,.v _ rfl⟩
 .cases h
def Fh{mx:Bool}{ts:Array aw}{ty:aw}{as:au PV}{us:Array av}{x:PV}(r:RL J H as us.toList)(h:pS P mx ts ty as=aa x):
    ∃w,(bif us.toList.all bZ then dU P (bif mx then Builtin.max_ ts ty us else Builtin.min_ ts ty us)else ae)=aa w/\R J H x w:=by
 unfold pS at h;split at h
 .rename_i l hl;obtain⟨h1,h2⟩:=aNH hl r;simp only[aF]at h;obtain⟨y,hy,rfl⟩:=h;refine⟨y,?_,.ofV1 (kK hy)⟩;rw[h1,h2,aI,<-hy];rw[show us=l.toArray by rw[<-h1]]
 .cases h
end
def sE(S:PS)(t k:Nat)(x:PV×Bool):PS.at (PS.set S t x) k=if k=t then x else S.at k:=by
 simp only[PS.at,PS.set,dZ,Bool.cond_decide]
def Eo(A:ia)(t k:Nat)(x:av):Slots.at (Tr.set A t x) k=if k=t then x else A.at k:=by
 simp only[Slots.at,Tr.get_set];split<;>rfl
def G2(I I':Ga):Prop:= ∀i,(I i=aa .out->I' i=aa .out)/\∀id off,I i=aa (.cell id off)->I' i=aa (.cell id off)
def G2.refl(I:Ga):G2 I I:=λi=>⟨id,λ_ _=>id⟩
def G2.trans{I I' I'':Ga}(h:G2 I I')(h':G2 I' I''):G2 I I'':=λi=>⟨λe=>(h' i).1 ((h i).1 e),λid off e=>(h' i).2 id off ((h i).2 id off e)⟩
def G2.mv{I:Ga}{k k':K}(h:k≠ .out)(h': ∀id off,k≠ .cell id off):G2 I (PI.mv k k' I):=by
 intro i;refine⟨λe=>?_,λid off e=>?_⟩<;>simp only[PI.mv,e]
 .rw[bI (by simpa using Ne.symm h)]
 .rw[bI (by simpa using Ne.symm (h' id off))]
section
variable{P:az}{J:Nu}{I:Ga}{H:St}{S:PS}{A:ia}
def ObjR.g2{I':Ga}{id:Nat}{o:lT}(h:ObjR J I H id o)(g: ∀i off,I i=aa (.cell id off)->I' i=aa (.cell id off)):ObjR J I' H id o:=by
 cases o with
 |box cs=>
  obtain⟨a,us,h1,h2,h3,h4⟩:=h;refine⟨a,us,h1,h2,h3,λi x b u hx hu=>?_⟩
  obtain⟨h5,h6,h7⟩:=h4 i x b u hx hu;exact⟨h5,h6,λhb=>(h7 hb).weak λj hj=>g j i hj⟩
 |_=>exact h
def Mem.g2{I':Ga}{p:PSt}(M:Mem J I p H)(g:G2 I I'):Mem J I' p H:=
 ⟨M.le,M.lt,M.inj,M.live,λid o h=>(M.get id o h).g2 λi off e=>(g i).2 id off e,M.free,M.ver⟩
def FR.put(F:FR J I H S A){v:PV}{u:av}{own:Bool}(r:R J H v u)(ho:own=ah->Ow J I H .hand v u)(d:f9 Tmp):
    ∃I',FR J I' H (S.put d v own) (A.store d u)/\G2 I I':=by
 cases d with
 |none=>exact⟨I,F,.refl I⟩
 |some d=>
  refine⟨PI.mv .hand (.slot d) I,λt=>?_,.mv (by simp) (by simp)⟩
  simp only[PS.put,Slots.store,sE,Eo];by_cases e:t=d
  .subst e;simp only[bQ];exact⟨r,λh=>(ho h).mv⟩
  .simp only[bI e];exact⟨(F t).1,λh=>((F t).2 h).mv_ne (by simp)⟩
def FR.keeps(F:FR J I H S A)(ts:au Nat):FR J I H (keeps S ts) A:=by
 induction ts with
 |nil=>intro k;exact⟨.und _,λh=>by cases h⟩
 |cons t ts ih=>
  intro k;simp only[PI.keeps,sE];split
  .rename_i e;subst e;exact F k
  .exact ih k
def RF(F:FR J I H S A)(x:a8)(hx:cM P x=ah): ∃I',FR J I' H (oX S x) A/\(jC S x=ah->Ow J I' H .hand (dG S x) (ev A x))/\G2 I I'/\∀i k,I i=aa (.arg k)->I' i=aa (.arg k):=by
 cases x with
 |tmp t=>
  have hF:=F t;simp only[oX,jC,dG,ev];refine⟨PI.mv (.slot t) .hand I,λk=>?_,λh=>?_,.mv (by simp) (by simp),λi k hi=>by simp[PI.mv,hi]⟩
  .rw[sE];split
   .rename_i hk;subst hk;exact⟨hF.1,λh=>by cases h⟩
   .rename_i hk;exact⟨(F k).1,λh=>((F k).2 h).mv_ne (by simpa using hk)⟩
  .simp only[Bool.or_eq_true]at h;rcases h with h|h
   .exact(hF.2 h).mv
   .have hr:=hF.1;generalize (S.at t).1=v at hr h;generalize A.at t=u at hr;cases v<;>simp only[lV]at h<;>try cases h
    cases hr;exact .nil _
 |const v=>
  refine⟨I,F,λh=>?_,.refl I,λ_ _ h=>h⟩
  cases v with
  |slice a l c=>
   cases a with
   |none=>
    simp only[cM,dP,bZ,aC]at hx;have h1:=aE hx.1;have h2:=aE hx.2;subst h1;subst h2;exact .nil _
   |some a=>simp only[jC]at h;cases h
  |_=>simp only[jC]at h;cases h
 |global g=>exact⟨I,F,λh=>(by cases h),.refl I,λ_ _ h=>h⟩
 |func f=>exact⟨I,F,λh=>(by cases h),.refl I,λ_ _ h=>h⟩
def zG(F:FR J I H S A)(x:a8)(hx:cM P x=ah): ∃I',FR J I' H (oX S x) A/\(jC S x=ah->Ow J I' H .hand (dG S x) (ev A x))/\G2 I I':=by
 obtain⟨I',h1,h2,h3,_⟩:=RF F x hx;exact⟨I',h1,h2,h3⟩
def xG{P:az}{a:Array a8}(h:a.all (cM P)=ah):a.toList.all (cM P)=ah:=by simpa using h
def Q6(F:FR J I H S A){o:Oper}(ho:o.op.operands.all (cM P)=ah){v:PV}{take own:Bool}{S':PS}(h:eK P take S o=aa (v,own,S')):
    ∃u I',gN P (ev A) o=aa u/\R J H v u/\FR J I' H S' A/\(own=ah->Ow J I' H .hand v u)/\G2 I I':=by
 have fin: ∀{x:f9 PV},x.map (λv=>(v,aj,S))=aa (v,own,S')->∀{y:f9 av},(∀v',x=aa v'->∃u,y=aa u/\R J H v' u)->
      ∃u I',y=aa u/\R J H v u/\FR J I' H S' A/\(own=ah->Ow J I' H .hand v u)/\G2 I I':=by
  intro x hx y hy;simp only[aF,aB]at hx;obtain⟨v',h1,rfl,rfl,rfl⟩:=hx;obtain⟨u,h2,h3⟩:=hy v' h1;exact⟨u,I,h2,h3,F,λh=>(by cases h),.refl I⟩
 replace ho:=xG ho
 obtain⟨dst,op,ty,pos,af,g⟩:=o;cases op with
 |move x=>
  simp only[Op.operands,aP,m9,bF]at ho;cases take with
  |true=>
   simp only[eK,aI,aA,aB]at h;obtain⟨rfl,rfl,rfl⟩:=h;obtain⟨I',h1,h2,h3⟩:=zG F x ho;exact⟨_,I',rfl,dL F ho,h1,h2,h3⟩
  |false=>
   simp only[eK,aJ,aA,aB]at h;obtain⟨rfl,rfl,rfl⟩:=h;exact⟨_,I,rfl,dL F ho,F,λh=>(by cases h),.refl I⟩
 |assign x=>
  simp only[Op.operands,aP,m9,bF]at ho;cases take with
  |true=>
   simp only[eK,aI,aA,aB]at h;obtain⟨rfl,rfl,rfl⟩:=h;obtain⟨I',h1,h2,h3⟩:=zG F x ho;exact⟨_,I',rfl,dL F ho,h1,h2,h3⟩
  |false=>
   simp only[eK,aJ,aA,aB]at h;obtain⟨rfl,rfl,rfl⟩:=h;exact⟨_,I,rfl,dL F ho,F,λh=>(by cases h),.refl I⟩
 |pick c a b=>
  simp only[Op.operands,aP,m9,bF,aC]at ho;have hc:=dL F ho.1;simp only[eK]at h;simp only[gN];split at h
  .rename_i e2;rw[e2]at hc;simp only[aA,aB]at h;obtain⟨rfl,rfl,rfl⟩:=h;generalize ev A c=w at hc;cases hc;exact⟨_,I,rfl,dL F ho.2.1,F,λh=>(by cases h),.refl I⟩
  .rename_i e2;rw[e2]at hc;simp only[aA,aB]at h;obtain⟨rfl,rfl,rfl⟩:=h;generalize ev A c=w at hc;cases hc;exact⟨_,I,rfl,dL F ho.2.2,F,λh=>(by cases h),.refl I⟩
  .cases h
 |build t parts=>
  simp only[eK]at h;refine fin h λv' hv=>aDb ?_ hv
  have:=PRs.of (P:=P) F (parts:=parts.toList) (by simpa [Op.operands]using ho)
  simpa using this
 |nilCheck x=>
  simp only[Op.operands,aP,m9,bF]at ho;have hx:=dL F ho;simp only[eK]at h;simp only[gN];split at h
  .rename_i id off e2;rw[e2]at hx;simp only[aA,aB]at h;obtain⟨rfl,rfl,rfl⟩:=h;generalize ev A x=w at hx⊢;cases hx with
   |ptr _ _ a hν=>exact⟨_,I,rfl,.ptr _ _ _ hν,F,λh=>(by cases h),.refl I⟩
   |ptr0 _ _ a hν=>exact⟨_,I,rfl,.ptr0 _ _ _ hν,F,λh=>(by cases h),.refl I⟩
  .rename_i es i off e2;rw[e2]at hx;simp only[aA,aB]at h;obtain⟨rfl,rfl,rfl⟩:=h;generalize ev A x=w at hx⊢;cases hx with
   |pin z _ _ _ id base rcs m hs hr hb2 hh=>exact⟨_,I,rfl,.pin z es i _ id base rcs m hs hr hb2 hh,F,λh=>(by cases h),.refl I⟩
  .cases h
 |binOp op t x y ty=>
  simp only[eK]at h;simp only[Op.operands,aP,m9,bF,aC]at ho;exact fin h λv' hv=>aOv (dL F ho.1) (dL F ho.2) hv
 |unOp op t x=>
  simp only[eK]at h;simp only[Op.operands,aP,m9,bF]at ho;exact fin h λv' hv=>a1b (dL F ho) hv
 |convert s d x=>
  simp only[eK]at h;simp only[Op.operands,aP,m9,bF]at ho;exact fin h λv' hv=>aGp (dL F ho) hv
 |makeFunc fn first captured=>
  simp only[Op.operands,Array.toList_append,oe,aC]at ho;cases fn with
  |func f=>
   simp only[eK,aA,aB]at h;obtain⟨rfl,rfl,rfl⟩:=h;have h1:=(BE F ho.1).wks;have h2:=(BE F ho.2).wks;refine⟨_,I,rfl,.fn f _ _ _ _ ?_ ?_ ?_ ?_,F,λh=>(by cases h),.refl I⟩
   .simpa using h1.1
   .simpa using h1.2
   .simpa using h2.1
   .simpa using h2.2
  |_=>simp only[eK]at h;cases h
 |fieldAddr s x f=>
  simp only[eK]at h;simp only[Op.operands,aP,m9,bF]at ho;exact fin h λv' hv=>ID (dL F ho) hv
 |field s x f=>
  simp only[eK]at h;simp only[Op.operands,aP,m9,bF]at ho;exact fin h λv' hv=>aC9 (dL F ho) hv
 |indexAddr t x i=>
  simp only[eK]at h;simp only[Op.operands,aP,m9,bF,aC]at ho;exact fin h λv' hv=>IC (dL F ho.1) (dL F ho.2) hv
 |index t x i=>
  simp only[eK]at h;simp only[Op.operands,aP,m9,bF,aC]at ho;exact fin h λv' hv=>aC7 (dL F ho.1) (dL F ho.2) hv
 |extract t i=>
  simp only[Op.operands,aP,m9,bF]at ho;have hx:=dL F ho;simp only[eK]at h;simp only[gN];split at h
  .rename_i vs e2;rw[e2]at hx;obtain⟨us,hu,hl⟩:=hx.tup_inv;cases mu:(take&&ao i 0)with
   |false=>
    rw[mu,aJ]at h;simp only[hu];refine fin h λv' hv=>?_
    obtain⟨u,h1,h2⟩:=hl.get hv;exact⟨u,by simpa using h1,h2⟩
   |true=>
    rw[mu,aI]at h;simp only[aC,Nat.beq_eq]at mu;obtain⟨_,rfl⟩:=mu;simp only[aF,aB]at h;obtain⟨v',hv,rfl,rfl,rfl⟩:=h;obtain⟨u,h1,h2⟩:=hl.get hv;obtain⟨I',f1,f2,f3⟩:=zG F t ho;refine⟨u,I',by rw[hu];simpa using h1,h2,f1,λhw=>?_,f3⟩
    have:=f2 hw;rw[e2,hu]at this;cases this with
    |tup x xs u' jp _ hh=>
     simp only[aU,aA]at hv;subst hv;have h1':u'=u:=by simpa using h1
     subst h1';exact hh
  .cases h
 |call c=>
  obtain⟨callee,args,argTypes⟩:=c;simp only[Op.operands,Call.operands,Array.toList_append,oe,aC]at ho;simp only[gN];cases callee with
  |builtin b=>
   cases b with
   |len=>
    simp only[eK]at h;simp only[qA];split at h
    .rename_i t x ht hx;simp only[ht,hx];have hxo:cM P x=ah:=by
      have:x∈args.toList:=by
       have:=Array.mem_of_getElem? hx;simpa using this
      exact(bK.1 ho.2) x this
     exact fin h λv' hv=>aOr (dL F hxo) hv
    .cases h
   |min=>
    simp only[eK]at h;simp only[qA];have:=BE F ho.2;exact fin h λv' hv=>Fh (mx:=aj) (by simpa using this) hv
   |max=>
    simp only[eK]at h;simp only[qA];have:=BE F ho.2;exact fin h λv' hv=>Fh (mx:=ah) (by simpa using this) hv
   |_=>simp only[eK]at h;cases h
  |_=>simp only[eK]at h;cases h
 |_=>simp only[eK]at h;cases h
end
def GoOut(H:St)(I I':Ga):Prop:= ∀i,H.get i≠ae->I i=aa .out->I' i=aa .out
def GoOut.refl(H:St)(I:Ga):GoOut H I I:=λ_ _ h=>h
def GoOut.trans{H H':St}{I I' I'':Ga}(h:GoOut H I I')(h':GoOut H' I' I'')(hd: ∀a,H'.get a=ae->H.get a=ae):GoOut H I I'':=λi e hi=>h' i (λe'=>e (hd i e')) (h i e hi)
def G2.out{H:St}{I I':Ga}(g:G2 I I'):GoOut H I I':=λi _ h=>(g i).1 h
def mM{p:PSt}{id:Nat}{o:lT}(h:id<p.next)(k:Nat):(p.upd id o).get k=if k=id then aa o else p.get k:=by
 simp only[PSt.get,PSt.upd,Tr.get_set,iW,Bool.cond_decide];by_cases e:k=id
 .subst e;simp[h]
 .simp[e]
def jR{p:PSt}{id:Nat}{o:lT}(h:p.get id=aa o):id<p.next:=by
 simp only[PSt.get,iW,Bool.cond_decide]at h;by_cases e:id<p.next
 .exact e
 .simp[e]at h
def OF{p q:Prop}[Decidable p][Decidable q](h: ¬(p/\q)):(decide p&&decide q)=aj:=by
 by_cases hp:p<;>by_cases hq:q<;>simp_all
section
variable{P:az}{J:Nu}{I:Ga}{H:St}{S:PS}{A:ia}
def LQ{z:Nat}{es:au PV}{id off c:Nat}(r:R J H (.sl z es) (.slice (aa ⟨id,off,ae⟩) es.length c)):R J H (eO z es) (.slice (aa ⟨id,off,ae⟩) es.length c):=by
 cases es with
 |nil=>cases r with|sl _ _ _ _ _ rcs m hz hs hr hm hb hh=>exact .emp1 _ _ _ _ _ hr
 |cons e es=>exact r
def JW{z:Nat}: ∀{es:au PV} (hs: ∀e∈es,e.cells.length=z) (l:Nat),fM (es.drop l)=(fM es).drop (l*z):=by
 intro es;induction es with
 |nil=>intro hs l;simp[fM]
 |cons e es ih=>
  intro hs l;cases l with
  |zero=>simp
  |succ l=>
   have:=ih (λx hx=>hs x (aG _ hx)) l
   simp only[List.drop_succ_cons,this];simp only[fM,aN];have he:=hs e (by simp)
   have h1:e.cells.drop ((l+1)*z)=[]:=eu (by rw[he,Nat.succ_mul];omega)
   have h2:(l+1)*z-z=l*z:=by rw[Nat.succ_mul];omega
   rw[List.drop_append,h1,he,h2,aW]
def JV{z:Nat}: ∀{es:au PV} (hs: ∀e∈es,e.cells.length=z) (l:Nat),fM (es.take l)=(fM es).take (l*z):=by
 intro es;induction es with
 |nil=>intro hs l;simp[fM]
 |cons e es ih=>
  intro hs l;cases l with
  |zero=>simp[fM]
  |succ l=>
   have:=ih (λx hx=>hs x (aG _ hx)) l
   simp only[fM,List.take_succ_cons,aN]at this⊢;have he:=hs e (by simp)
   have h1:e.cells.take ((l+1)*z)=e.cells:=List.take_of_length_le (by rw[he,Nat.succ_mul];omega)
   have h2:(l+1)*z-z=l*z:=by rw[Nat.succ_mul];omega
   rw[this,List.take_append,h1,he,h2]
def R.sub{z:Nat}{es:au PV}{id off n c:Nat}(r:R J H (.sl z es) (.slice (aa ⟨id,off,ae⟩) n c)){l h:Nat}(h1:l<=h)(h2:h<=es.length)(c':Nat):
    R J H (eO z ((es.take h).drop l)) (.slice (aa ⟨id,off+l*z,ae⟩) (h-l) c'):=by
 cases r with
 |sl _ _ _ _ _ rcs m hz hs hr hm hb hh=>
  have hlen:((es.take h).drop l).length=h-l:=by simp;omega
  have hle:(h-l)*z+l*z<=es.length*z:=by rw[<-Nat.add_mul];exact Nat.mul_le_mul_right _ (by omega)
  rw[<-hlen];refine LQ (.sl z _ id _ c' rcs m hz (λe he=>hs e (List.mem_of_mem_take (List.mem_of_mem_drop he))) hr hm (by rw[hlen];omega) λi x u hx hu=>?_)
  have jd: ∀e∈es.take h,e.cells.length=z:=λe he=>(hs e (List.mem_of_mem_take he)).1
  rw[JW jd,JV (λe he=>(hs e he).1),m7,m6]at hx
  split at hx
  .exact hh (l*z+i) x u hx (by rw[<-Nat.add_assoc];exact hu)
  .cases hx
def OR(J:Nu)(H:St)(xs:f9 PV)(us:f9 av):Prop:=match xs,us with|some x,aa u=>R J H x u|none,ae=>True|_,_=>False
def aAK{xs:f9 PV}{us:f9 av}{l:f9 av}(h:Ub xs=aa l)(hr:OR J H xs us):
    us=l/\bZ (us.getD (.bool ah))=ah:=by
 cases xs with
 |none=>
  cases us with
  |none=>simp only[Ub,aA]at h;exact⟨h,rfl⟩
  |some u=>exact False.elim hr
 |some x=>
  cases us with
  |none=>exact False.elim hr
  |some u=>
   simp only[Ub]at h;split at h
   .rename_i v hv;simp only[aA]at h;subst h;obtain⟨rfl,hp⟩:=rA hv hr;exact⟨rfl,hp⟩
   .cases h
def CE{xs:f9 PV}{us:f9 av}{l:f9 Int}(h:pK xs=aa l)(hr:OR J H xs us):
    pN us=aa l:=by
 cases xs with
 |none=>
  cases us with
  |none=>simp only[pK,aA]at h;subst h;rfl
  |some u=>exact False.elim hr
 |some x=>
  cases us with
  |none=>exact False.elim hr
  |some u=>
   simp only[pK]at h;split at h
   .rename_i e;cases e
   .rename_i k n e;cases e;cases hr;simp only[aA]at h;subst h;rfl
   .cases h
def OR.of(F:FR J I H S A){x:f9 a8}(h: ∀y,x=aa y->cM P y=ah):OR J H (x.map (dG S)) (x.map (ev A)):=by
 cases x with
 |none=>trivial
 |some y=>exact dL F (h y rfl)
def aC3{p:PSt}(M:Mem J I p H){t:aw}{v w:PV}{u:av}{lo hi mx:f9 PV}{mq kn mx':f9 av}{own:Bool}(r:R J H v u)
    (rl:OR J H lo mq) (rh:OR J H hi kn) (rm:OR J H mx mx') (h:mG P p t v lo hi mx=aa (w,own)):
    ∃y,yG P H t u mq kn mx'=aa y/\R J H w y/\(own=ah->Ow J I H .hand w y):=by
 unfold mG at h;unfold yG;split at h
 .rename_i e;rw[e];split at h
  .rename_i s l hh _ _ hl ko;cases r with
   |str ba=>
   obtain⟨rfl,dm⟩:=aAK hl rl;obtain⟨rfl,hph⟩:=aAK ko rh;cases mx' with
   |some _=>exact False.elim rm
   |none=>
    simp only[aF,aB]at h;obtain⟨y,hy,rfl,rfl⟩:=h;refine⟨y,?_,.ofV1 (kK hy),λh=>(by cases h)⟩
    simp only[Option.isNone_none,dm,hph,n8,aI];exact hy
  .cases h
 .rename_i e he;rw[he];split at h
  .rename_i z l hh m hz hl ko hm;have el:=CE hl rl;have eh:=CE ko rh;have em:=CE hm rm;split at h
   .rename_i id off len;split at h
    .rename_i z' ag cs hg;obtain⟨a,us,h1,h2,_⟩:=M.get id _ hg;cases r with
     |rs0 _ _ _ c a' hν=>rw[hν]at h1;cases h1
     |rs _ _ _ c a' hν=>
      rw[hν]at h1;simp only[aA]at h1;subst h1;cases hc:ao z z'&&ak (0<=l.getD 0)&&ak (l.getD 0<hh.getD (len:Int))&&ak (hh.getD (len:Int)<=(len:Int))with
      |false=>rw[hc,aJ]at h;cases h
      |true=>
       rw[hc,aI]at h;simp only[aA,aB]at h;obtain⟨rfl,rfl⟩:=h;simp only[aC,aD]at hc;obtain⟨⟨⟨gz,hl0⟩,hlh⟩,qq⟩:=hc;have gz:=aE gz;subst gz;have mw:rU H a' z=ah:=by
        simp only[rU,row_of_get h2 rfl,dZ];simp[eY]
       simp only[hz,el,eh,em,CL,Bool.and_false,iv,aJ,mw,aI];rw[show(ak (0<=l.getD 0)&&ak (l.getD 0<=hh.getD (len:Int))&&ak (hh.getD (len:Int)<=(len:Int)))=ah by simp;omega]
       simp only[aI,dZ];have key: ∀c',R J H (.rs id (off+(l.getD 0).toNat*z) ((hh.getD (len:Int)).toNat-(l.getD 0).toNat)) (.slice (aa ⟨a',off+(l.getD 0).toNat*z,ae⟩) ((hh.getD (len:Int)).toNat-(l.getD 0).toNat) c'):=λc'=> .rs _ _ _ _ _ hν
       by_cases hA:c=len/\(hh.getD (len:Int)).toNat=len
       .rw[show(ak (c=len)&&ak ((hh.getD (len:Int)).toNat=len))=ah by simp[hA.1,hA.2]]
        rw[show ak ((l.getD 0).toNat=len)=aj by simp;omega]
        simp only[aI,aJ];refine⟨_,rfl,?_,λh=>(by cases h)⟩
        have:=key (len-(l.getD 0).toNat);rw[hA.2]at this⊢;exact this
       .rw[show(ak (c=len)&&ak ((hh.getD (len:Int)).toNat=len))=aj by exact OF hA]
        simp only[aJ];by_cases hB:(hh.getD (len:Int)).toNat=len/\(l.getD 0).toNat=0
        .rw[show(ak ((hh.getD (len:Int)).toNat=len)&&ak ((l.getD 0).toNat=0))=ah by simp[hB.1,hB.2]]
         simp only[aI];refine⟨_,rfl,?_,λh=>(by cases h)⟩
         have:=key c;rw[hB.1,hB.2]at this⊢;simpa using this
        .rw[show(ak ((hh.getD (len:Int)).toNat=len)&&ak ((l.getD 0).toNat=0))=aj by exact OF hB]
         rw[show ak (l.getD 0<(len:Int))=ah by simp;omega]
         simp only[aJ,aI];exact⟨_,rfl,key _,λh=>(by cases h)⟩
    .cases h
   .rename_i z' es;cases r with
    |sl _ _ id off c rcs mm hz1 hs hr hm1 hb hhr=>
     cases hc:ao z z'&&ak (0<=l.getD 0)&&ak (l.getD 0<=hh.getD (es.length:Int))&&ak (hh.getD (es.length:Int)<=(es.length:Int))with
     |false=>rw[hc,aJ]at h;cases h
     |true=>
      rw[hc,aI]at h;simp only[aA,aB]at h;obtain⟨rfl,rfl⟩:=h;simp only[aC,aD]at hc;obtain⟨⟨⟨gz,hl0⟩,hlh⟩,qq⟩:=hc;have gz:=aE gz;subst gz;have mw:rU H id z=ah:=by simp only[rU,hr.1,dZ,hm1];simp
      simp only[hz,el,eh,em,CL,Bool.and_false,iv,aJ,mw,aI];rw[show(ak (0<=l.getD 0)&&ak (l.getD 0<=hh.getD (es.length:Int))&&ak (hh.getD (es.length:Int)<=(es.length:Int)))=ah by simp;omega]
      simp only[aI,dZ];have r0:R J H (.sl z es) (.slice (aa ⟨id,off,ae⟩) es.length c):= .sl z es id off c rcs mm hz1 hs hr hm1 hb hhr;have key:=λc'=>R.sub r0 (l:=(l.getD 0).toNat) (h:=(hh.getD (es.length:Int)).toNat) (by omega) (by omega) c'
      by_cases hA:c=es.length/\(hh.getD (es.length:Int)).toNat=es.length
      .rw[show(ak (c=es.length)&&ak ((hh.getD (es.length:Int)).toNat=es.length))=ah by simp[hA.1,hA.2]]
       simp only[aI];by_cases hE:(l.getD 0).toNat=es.length
       .rw[show ak ((l.getD 0).toNat=es.length)=ah by simp[hE]]
        simp only[aI];refine⟨_,rfl,?_,λh=>(by cases h)⟩
        rw[hA.2,hE,eu (by simp)]
        exact .emp1 _ _ _ _ _ hr
       .rw[show ak ((l.getD 0).toNat=es.length)=aj by simp[hE]]
        simp only[aJ];refine⟨_,rfl,?_,λh=>(by cases h)⟩
        have:=key (es.length-(l.getD 0).toNat);rw[hA.2]at this⊢;exact this
      .rw[show(ak (c=es.length)&&ak ((hh.getD (es.length:Int)).toNat=es.length))=aj by exact OF hA]
       simp only[aJ];by_cases hB:(hh.getD (es.length:Int)).toNat=es.length/\(l.getD 0).toNat=0
       .rw[show(ak ((hh.getD (es.length:Int)).toNat=es.length)&&ak ((l.getD 0).toNat=0))=ah by simp[hB.1,hB.2]]
        simp only[aI];refine⟨_,rfl,?_,λh=>(by cases h)⟩
        have:=key c;rw[hB.1,hB.2]at this⊢;simpa using this
       .rw[show(ak ((hh.getD (es.length:Int)).toNat=es.length)&&ak ((l.getD 0).toNat=0))=aj by exact OF hB]
        simp only[aJ];by_cases hE:l.getD 0<(es.length:Int)
        .rw[show ak (l.getD 0<(es.length:Int))=ah by simp;omega]
         simp only[aI];exact⟨_,rfl,key _,λh=>(by cases h)⟩
        .rw[show ak (l.getD 0<(es.length:Int))=aj by simp;omega]
         simp only[aJ];refine⟨_,rfl,?_,λh=>(by cases h)⟩
         rw[eu (by simp;omega)]
         exact .emp2 _ _ _ _
   .cases hc:ak (0<=l.getD 0)&&ak (l.getD 0<=hh.getD 0)&&ak (hh.getD 0<=0)with
    |false=>rw[hc,aJ]at h;cases h
    |true=>
     rw[hc,aI]at h;simp only[aA,aB]at h;obtain⟨rfl,rfl⟩:=h;simp only[aC,aD]at hc;have sd:mx'=ae:=by
      cases mx' with
      |none=>rfl
      |some w=>cases w<;>simp[pN]at em
     subst sd;cases r with
     |emp0=>
      simp only[hz,el,eh,em,CL,Bool.and_false,iv,aJ];rw[show(ak (0<=l.getD 0)&&ak (l.getD 0<=hh.getD ((0:Nat):Int))&&ak (hh.getD ((0:Nat):Int)<=((0:Nat):Int)))=ah by simp;omega]
      exact⟨_,rfl,.emp0,λh=>(by cases h)⟩
     |emp1 id off c rcs m hr=>
      simp only[hz,el,eh,em,CL,Bool.and_false,iv,aJ];rw[show(ak (0<=l.getD 0)&&ak (l.getD 0<=hh.getD ((0:Nat):Int))&&ak (hh.getD ((0:Nat):Int)<=((0:Nat):Int)))=ah by simp;omega]
      have hl0:(l.getD 0).toNat=0:=by omega
      have hh0:(hh.getD ((0:Nat):Int)).toNat=0:=by simp;omega
      simp only[aI,hl0,hh0];cases mw:rU H id z with
      |false=>simp only[aJ];exact⟨_,rfl,.emp1 _ _ _ _ _ hr,λh=>(by cases h)⟩
      |true=>
       simp only[aI];cases gy:ao c 0&&ao 0 0 with
       |true=>
        simp only[aI];exact⟨_,rfl,.emp1 _ _ _ _ _ hr,λh=>(by cases h)⟩
       |false=>
        simp only[aJ];exact⟨_,rfl,.emp1 _ _ _ _ _ hr,λh=>(by cases h)⟩
     |emp2 b o s c=>
      simp only[hz,el,eh,em,CL,Bool.and_false,iv,aJ];rw[show(ak (0<=l.getD 0)&&ak (l.getD 0<=hh.getD ((0:Nat):Int))&&ak (hh.getD ((0:Nat):Int)<=((0:Nat):Int)))=ah by simp;omega]
      exact⟨_,rfl,.emp2 _ _ _ _,λh=>(by cases h)⟩
   .rename_i z' es m';cases r with
    |sl _ _ id off c rcs mm hz1 hs hr hm1 hb hhr=>
     cases hc:ao z z'&&ak (0<=l.getD 0)&&ak (l.getD 0<hh.getD (es.length:Int))&&ak (hh.getD (es.length:Int)<=(es.length:Int))&&hh.isSome&&ak (hh.getD (es.length:Int)=m')with
     |false=>
      rw[hc,aJ]at h;cases hc2:List.isEmpty es&&(ak (0<=l.getD 0)&&ak (l.getD 0<=hh.getD 0)&&ak (hh.getD 0<=0)&&hh.isSome&&ak (m'=0))with
      |false=>rw[hc2,aJ]at h;cases h
      |true=>
       rw[hc2,aI]at h;simp only[aA,aB]at h;obtain⟨rfl,rfl⟩:=h;simp only[aC,aD,List.isEmpty_iff]at hc2;obtain⟨rfl,⟨⟨⟨hl0,hlh⟩,hh0⟩,vu⟩,rfl⟩:=hc2;have hb:(ak (0<=l.getD 0)&&ak (l.getD 0<=hh.getD ((0:Nat):Int))&&ak (hh.getD ((0:Nat):Int)<=((0:Nat):Int)))=ah:=by simp;omega
       have hq:(ao 0 0&&CL (aa 0)&&hh.isSome)=ah:=by rw[vu];rfl
       simp only[hz,el,eh,em,aX,hb,hq,aI];exact⟨_,rfl,.emp2 0 0 1 0,λ_=> .zer _ 0 0⟩
     |true=>
      rw[hc,aI]at h;simp only[aA,aB]at h;obtain⟨rfl,rfl⟩:=h;simp only[aC,aD]at hc;obtain⟨⟨⟨⟨⟨gz,hl0⟩,hlh⟩,qq⟩,vu⟩,hhm⟩:=hc;have gz:=aE gz;subst gz;have mw:rU H id z=ah:=by simp only[rU,hr.1,dZ,hm1];simp
      simp only[hz,el,eh,em,CL,Bool.and_false,iv,aJ,mw,aI];rw[show(ak (0<=l.getD 0)&&ak (l.getD 0<=hh.getD (es.length:Int))&&ak (hh.getD (es.length:Int)<=(es.length:Int)))=ah by simp;omega]
      simp only[aI];rw[show ao es.length 0=aj by rw[dZ];exact bH (by omega)]
      simp only[iv,aJ];rw[show(ak (hh.getD (es.length:Int)=m')&&ak (l.getD 0<m')&&hh.isSome)=ah by simp[vu,hhm];omega]
      simp only[aI];have r0:R J H (.sl z es) (.slice (aa ⟨id,off,ae⟩) es.length c):= .sl z es id off c rcs mm hz1 hs hr hm1 hb hhr;exact⟨_,rfl,R.sub r0 (by omega) (by omega) _,λ_=> .exact _ _ _ _ rcs mm hr⟩
   .cases hc:ak (0<=l.getD 0)&&ak (l.getD 0<=hh.getD 0)&&ak (hh.getD 0<=0)with
    |false=>rw[hc,aJ]at h;cases h
    |true=>
     rw[hc,aI]at h;simp only[aA,aB]at h;obtain⟨rfl,rfl⟩:=h;simp only[aC,aD]at hc;have sd:mx'=ae:=by
      cases mx' with
      |none=>rfl
      |some w=>cases w<;>simp[pN]at em
     subst sd;cases r with
     |nil=>
      simp only[hz,el,eh,em,CL,Bool.and_false,iv,aJ];rw[show(ak (0<=l.getD 0)&&ak (l.getD 0<=hh.getD ((0:Nat):Int))&&ak (hh.getD ((0:Nat):Int)<=((0:Nat):Int)))=ah by simp;omega]
      exact⟨_,rfl,.emp0,λh=>(by cases h)⟩
   .rename_i m';cases hc:ak (0<=l.getD 0)&&ak (l.getD 0<=hh.getD 0)&&ak (hh.getD 0<=0)&&hh.isSome&&ak (m'=0)with
    |false=>rw[hc,aJ]at h;cases h
    |true=>
     rw[hc,aI]at h;simp only[aA,aB]at h;obtain⟨rfl,rfl⟩:=h;simp only[aC,aD]at hc;obtain⟨⟨⟨⟨hl0,hlh⟩,hh0⟩,vu⟩,rfl⟩:=hc;have hb:(ak (0<=l.getD 0)&&ak (l.getD 0<=hh.getD ((0:Nat):Int))&&ak (hh.getD ((0:Nat):Int)<=((0:Nat):Int)))=ah:=by simp;omega
     have hq:(ao 0 0&&CL (aa 0)&&hh.isSome)=ah:=by rw[vu];rfl
     cases r with
     |emp0=>simp only[hz,el,eh,em,hb,hq,aI];exact⟨_,rfl,.emp0,λ_=> .nil _⟩
     |emp1 id off c rcs m hr=>simp only[hz,el,eh,em,hb,hq,aI];exact⟨_,rfl,.emp2 0 0 1 0,λ_=> .zer _ 0 0⟩
     |emp2 b o s c=>simp only[hz,el,eh,em,hb,hq,aI];exact⟨_,rfl,.emp2 0 0 1 0,λ_=> .zer _ 0 0⟩
   .rename_i m';cases hc:ak (0<=l.getD 0)&&ak (l.getD 0<=hh.getD 0)&&ak (hh.getD 0<=0)&&hh.isSome&&ak (m'=0)with
    |false=>rw[hc,aJ]at h;cases h
    |true=>
     rw[hc,aI]at h;simp only[aA,aB]at h;obtain⟨rfl,rfl⟩:=h;simp only[aC,aD]at hc;obtain⟨⟨⟨⟨hl0,hlh⟩,hh0⟩,vu⟩,rfl⟩:=hc;have hb:(ak (0<=l.getD 0)&&ak (l.getD 0<=hh.getD ((0:Nat):Int))&&ak (hh.getD ((0:Nat):Int)<=((0:Nat):Int)))=ah:=by simp;omega
     have hq:(ao 0 0&&CL (aa 0)&&hh.isSome)=ah:=by rw[vu];rfl
     cases r with
     |nil=>simp only[hz,el,eh,em,hb,hq,aI];exact⟨_,rfl,.emp0,λ_=> .nil _⟩
   .cases h
  .cases h
 .cases h
end
section
variable{P:az}{J J':Nu}{I I1 I':Ga}{H H':St}{S:PS}{A:ia}
def ObjR.keep{id:Nat}{o:lT}(h:ObjR J I H id o)(kp:Keep J I1 H H')(hm:Mon H J J')(hν:J' id=J id)(bc: ∀a,J id=aa (aa a)->H'.get a=H.get a)
    (hγ: ∀i off,I i=aa (.cell id off)->H.get i≠ae->I1 i=aa .out/\I' i=aa (.cell id off)):ObjR J' I' H' id o:=by
 cases o with
 |box cs=>
  obtain⟨a,us,h1,h2,h3,h4⟩:=h;refine⟨a,us,by rw[hν,h1],by rw[bc a h1,h2],h3,λi x b u hx hu=>?_⟩
  obtain⟨h5,h6,h7⟩:=h4 i x b u hx hu;exact⟨h5.keep kp hm,h6,λhb=>(h7 hb).keep kp hm λj hj hn=>hγ j i hj hn⟩
 |row z ag cs=>
  obtain⟨a,us,h1,h2,h3,h5,h4⟩:=h;exact⟨a,us,by rw[hν,h1],by rw[bc a h1,h2],h3,h5,λi x u hx hu=>(h4 i x u hx hu).keep kp hm⟩
 |map es=>exact h
 |gone=>show J' id=aa ae;rw[hν];exact h
def FR.keep(F:FR J I H S A)(kp:Keep J I1 H H')(hm:Mon H J J')(hγ: ∀i t,I i=aa (.slot t)->H.get i≠ae->I1 i=aa .out/\I' i=aa (.slot t)):FR J' I' H' S A:=
 λt=>⟨(F t).1.keep kp hm,λh=>((F t).2 h).keep kp hm λi hi hn=>hγ i t hi hn⟩
def FR.g(F:FR J I H S A)(hγ: ∀i t,I i=aa (.slot t)->I' i=aa (.slot t)):FR J I' H S A:=
 λt=>⟨(F t).1,λh=>((F t).2 h).weak λi hi=>hγ i t hi⟩
def Mem.upd{p:PSt}{id:Nat}{o o':lT}(M:Mem J I p H)(ho:p.get id=aa o)(hn:ObjR J I' H id o')(hγ: ∀i j off,j≠id->I i=aa (.cell j off)->I' i=aa (.cell j off)):Mem J I' (p.upd id o') H:=by
 have hid:=jR ho;refine⟨M.le,M.lt,M.inj,λk a hk=>?_,λk ob hk=>?_,M.free,M.ver⟩
 .rw[mM hid];split
  .exact⟨_,rfl⟩
  .exact M.live k a hk
 .rw[mM hid]at hk;split at hk
  .rename_i e;subst e;simp only[aA]at hk;subst hk;exact hn
  .rename_i e;exact(M.get k ob hk).g2 λi off hi=>hγ i k off e hi
def Mem.mark{p:PSt}{id:Nat}{o o':lT}(M:Mem J I p H)(ho:p.get id=aa o)(hn:ObjR J I' H id o')(hγ: ∀i j off,j≠id->I i=aa (.cell j off)->I' i=aa (.cell j off)):Mem J I' (p.mark id o') H:=by
 have M':=M.upd ho hn hγ;exact⟨M'.le,M'.lt,M'.inj,M'.live,M'.get,M'.free,M'.ver⟩
def aGk{p:PSt}(M:Mem J I p H)(F:FR J I H S A){t:aw}{a v:PV}{w u:av}(r:R J H a w)(h:kW P p t a=aa v)(hs:DU v=ah)(hu:iM P H t w=aa u):
    ∃I',Mem J I' (gP p a).1 H/\FR J I' H S A/\((gP p a).2=ah->Ow J I' H .hand v u)/\GoOut H I I':=by
 have ku:(gP p a)=(p,aj)->∃I',Mem J I' (gP p a).1 H/\FR J I' H S A/\((gP p a).2=ah->Ow J I' H .hand v u)/\GoOut H I I':=by
  intro e;rw[e];exact⟨I,M,F,λh=>(by cases h),.refl H I⟩
 cases a with
 |ptr id off=>
  cases hg:p.get id with
  |none=>exact ku (by simp only[gP,hg])
  |some ob=>
   cases ob with
   |box cs=>
    cases hc:cs[off]? with
    |none=>exact ku (by simp only[gP,hg,hc])
    |some c=>
     obtain⟨x,b⟩:=c;cases b with
     |false=>exact ku (by simp only[gP,hg,hc])
     |true=>
      have hobj:=M.get id _ hg;obtain⟨a',us,h1,h2,h3,h4⟩:=hobj;have hw:w= .pointer (aa ⟨a',off,ae⟩):=by
       cases r with
       |ptr _ _ _ hν=>rw[h1]at hν;simp only[aA]at hν;subst hν;rfl
       |ptr0 _ _ _ hν=>rw[h1]at hν;cases hν
      subst hw;have hvx:v=x/\us[off]?=aa u:=by
       simp only[kW,hg]at h;simp only[iM,row_of_get h2 rfl]at hu;unfold sX at h;split at h
       .split at h
        .rename_i n en;cases hb:ao (((cs.map (·.1)).drop off).take n).length n with
         |false=>rw[hb,aJ]at h;cases h
         |true=>rw[hb,aI]at h;simp only[aA]at h;subst h;cases hs
        .cases h
       .rename_i e;rw[e]at hu;simp only[m8,hc,aK,aA]at h;exact⟨h.symm,hu⟩
       .cases h
      obtain⟨rfl,hus⟩:=hvx;obtain⟨h5,h6,h7⟩:=h4 off v ah u hc hus;have jx:off<cs.length:=by
       rcases b8 off cs.length with h'|h'
       .exact h'
       .simp[ed h']at hc
      refine⟨PI.mv (.cell id off) .hand I,?_,?_,?_,?_⟩
      .simp only[gP,hg,hc];refine M.mark hg ⟨a',us,h1,h2,by simpa using h3,λi x b u' hx ki=>?_⟩ λi j o' hj hi=>?_
       .rw[List.getElem?_set]at hx;split at hx
        .rename_i e;subst e;simp only[aA,aB]at hx;obtain⟨rfl,rfl⟩:=hx;rw[hus]at ki;simp only[aA]at ki;subst ki;exact⟨h5,h6,λh=>(by cases h)⟩
        .rename_i e;obtain⟨h8,h9,h10⟩:=h4 i x b u' hx ki;exact⟨h8,h9,λhb=>(h10 hb).mv_ne (by simp;omega)⟩
       .simp only[PI.mv,hi];rw[bI (by simp;intro e;exact absurd e hj)]
      .exact F.g λi t hi=>by simp[PI.mv,hi]
      .intro _;exact(h7 rfl).mv
      .intro i _ hi;simp[PI.mv,hi]
   |_=>exact ku (by simp only[gP,hg])
 |_=>exact ku rfl
def aGl{p p':PSt}(M:Mem J I p H)(F:FR J I H S A){o:Oper}(ho:o.op.operands.all (cM P)=ah){take own:Bool}{v:PV}(h:oW P p S o take=aa (v,own,p')):
    ∃u I',mA P H (ev A) o=aa u/\R J H v u/\Mem J I' p' H/\FR J I' H S A/\(own=ah->Ow J I' H .hand v u)/\GoOut H I I':=by
 replace ho:=xG ho
 obtain⟨dst,op,ty,pos,af,g⟩:=o;cases op with
 |load t a=>
  simp only[Op.operands,aP,m9,bF]at ho;have ra:=dL F ho;simp only[oW]at h;simp only[mA];split at h
  .rename_i v' hv;obtain⟨u,hu,hr⟩:=Fi M ra hv;cases hc:take&&DU v' with
   |false=>
    rw[hc,aJ]at h;simp only[aA,aB]at h;obtain⟨rfl,rfl,rfl⟩:=h;exact⟨u,I,hu,hr,M,F,λh=>(by cases h),.refl H I⟩
   |true=>
    rw[hc,aI]at h;simp only[aA,aB]at h;obtain⟨rfl,rfl,rfl⟩:=h;simp only[aC]at hc;obtain⟨I',h1,h2,h3,h4⟩:=aGk M F ra hv hc.2 hu;exact⟨u,I',hu,hr,h1,h2,h3,h4⟩
  .cases h
 |slice t x lo hi mx=>
  simp only[Op.operands,Array.toList_append,oe,aC]at ho;simp only[oW,aF,aB]at h;obtain⟨⟨w,fq⟩,hw,rfl,rfl,rfl⟩:=h;have hl: ∀{y:f9 a8},y.toArray.toList.all (cM P)=ah->OR J H (y.map (dG S)) (y.map (ev A)):=by
   intro y hy;cases y with
   |none=>trivial
   |some y=>exact dL F (by simpa using hy)
  obtain⟨y,h1,h2,h3⟩:=aC3 M (dL F (P:=P) (by simpa using ho.1.1.1)) (hl ho.1.1.2) (hl ho.1.2) (hl ho.2) hw
  exact⟨y,I,h1,h2,M,F,h3,.refl H I⟩
 |_=>simp only[oW]at h;cases h
def cK(H:St)(id k:Nat)(o:AObj):(H.put id o).get k=if k=id then aa o else H.get k:=by
 simp only[St.get,St.put,Tr.get_set]
def lQ:Ga:=λ_=>aa .out
def Keep.put{id:Nat}{o:AObj}(h:H.get id=ae):Keep J lQ H (H.put id o):=by
 refine⟨rfl,aS _,λa ha=>?_,λa _ cs m hg=>⟨m.tip,?_,λh=>h,λ_=>rfl⟩⟩
 .rw[cK]at ha;split at ha
  .cases ha
  .exact ha
 .rw[cK,bI (by intro e;rw[e,h]at hg;cases hg)];exact hg
def mN{p:PSt}{o:lT}(k:Nat):(p.new o).get k=if k=p.next then aa o else p.get k:=by
 simp only[PSt.get,PSt.new,Tr.get_set,iW,Bool.cond_decide];by_cases e:k=p.next
 .subst e;simp
 .simp only[e,bP];by_cases h:k<p.next
  .simp[h,show k<p.next+1 by omega]
  .simp[h,show¬k<p.next+1 by omega]
def Mem.mk'{p:PSt}{id:Nat}{o:lT}{ob:AObj}(M:Mem J I p H)(F:FR J I H S A)(hf:H.get id=ae)(hlt:id<H.next)
    (hn: ∀J',J' p.next=aa (aa id)->Mon H J J'->ObjR J' I (H.put id ob) p.next o):
    ∃J',J' p.next=aa (aa id)/\Mem J' I (p.new o) (H.put id ob)/\FR J' I (H.put id ob) S A/\Mon H J J'/\(∀k,k<p.next->J' k=J k):=by
 have ca: ∀x,J p.next≠aa x:=λx hx=>Nat.lt_irrefl _ (M.le _ _ hx)
 have e1:(λk=>if k=p.next then aa (aa id)else J k) p.next=aa (aa id):=by simp
 have gq:Mon H J (λk=>if k=p.next then aa (aa id)else J k):=by
  refine⟨λk x hk=>?_,λk a hk=>?_⟩
  .by_cases e:k=p.next
   .subst e;exact absurd hk (ca x)
   .simp only[e,bP];exact .inl hk
  .by_cases e:k=p.next
   .simp only[e,bQ,aA]at hk;subst hk;exact .inr hf
   .simp only[e,bP]at hk;exact .inl hk
 refine⟨λk=>if k=p.next then aa (aa id)else J k,e1,⟨λk x hk=>?_,λk a hk=>?_,λi j a hi hj=>?_,λk a hk=>?_,λk ob' hk=>?_,λa ha=>?_,M.ver⟩,?_,gq,λk hk=>bI (by omega)⟩
 .show k<p.next+1
  by_cases e:k=p.next
  .omega
  .simp only[e,bP]at hk;have:=M.le _ _ hk;omega
 .show a<H.next
  by_cases e:k=p.next
  .simp only[e,bQ,aA]at hk;omega
  .simp only[e,bP]at hk;exact M.lt _ _ hk
 .have ne: ∀k a,J k=aa (aa a)->a≠id:=by
   intro k a hk e;subst e;obtain⟨o',gk⟩:=M.live _ _ hk;have:=M.get _ _ gk;cases o' with
   |box cs=>obtain⟨a',us,h1,h2,_⟩:=this;rw[hk]at h1;simp only[aA]at h1;subst h1;rw[hf]at h2;cases h2
   |row z ag cs=>obtain⟨a',us,h1,h2,_⟩:=this;rw[hk]at h1;simp only[aA]at h1;subst h1;rw[hf]at h2;cases h2
   |map es=>exact this.elim
   |gone=>rw[show J k=aa ae from this]at hk;cases hk
  by_cases e:i=p.next<;>by_cases e':j=p.next
  .omega
  .simp only[e,e',bQ,bP,aA]at hi hj;subst hi;exact absurd rfl (ne _ _ hj)
  .simp only[e,e',bQ,bP,aA]at hi hj;subst hj;exact absurd rfl (ne _ _ hi)
  .simp only[e,e',bP]at hi hj;exact M.inj _ _ _ hi hj
 .rw[mN];by_cases e:k=p.next
  .simp[e]
  .simp only[e,bP]at hk⊢;exact M.live _ _ hk
 .rw[mN]at hk;by_cases e:k=p.next
  .subst e;simp only[bQ,aA]at hk;subst hk;exact hn _ e1 gq
  .simp only[e,bP]at hk;refine(M.get k ob' hk).keep (Keep.put hf) gq (by simp[e]) (λa ha=>?_) λi off hi _=>⟨rfl,hi⟩
   rw[cK,bI];intro e2;subst e2;have:=M.get k ob' hk;cases ob' with
   |box cs=>obtain⟨a',us,h1,h2,_⟩:=this;rw[ha]at h1;simp only[aA]at h1;subst h1;rw[hf]at h2;cases h2
   |row z ag cs=>obtain⟨a',us,h1,h2,_⟩:=this;rw[ha]at h1;simp only[aA]at h1;subst h1;rw[hf]at h2;cases h2
   |map es=>exact this.elim
   |gone=>rw[show J k=aa ae from this]at ha;cases ha
 .rw[cK,bI (by have:H.next<=a:=ha;omega)];exact M.free a ha
 .exact F.keep (Keep.put hf) gq λi t hi _=>⟨rfl,hi⟩
def Mem.fz{p:PSt}{id:Nat}{ob:AObj}(M:Mem J I p H)(F:FR J I H S A)(hf:H.get id=ae)(hlt:id<H.next):
    Mem J I p (H.put id ob)/\FR J I (H.put id ob) S A/\∀k,J k≠aa (aa id):=by
 have du: ∀k,J k≠aa (aa id):=by
  intro k hk;obtain⟨o',gk⟩:=M.live _ _ hk;have:=M.get _ _ gk;cases o' with
  |box cs=>obtain⟨a',us,h1,h2,_⟩:=this;rw[hk]at h1;simp only[aA]at h1;subst h1;rw[hf]at h2;cases h2
  |row z ag cs=>obtain⟨a',us,h1,h2,_⟩:=this;rw[hk]at h1;simp only[aA]at h1;subst h1;rw[hf]at h2;cases h2
  |map es=>exact this.elim
  |gone=>rw[show J k=aa ae from this]at hk;cases hk
 refine⟨⟨M.le,M.lt,M.inj,M.live,λk o hk=>?_,λa ha=>?_,M.ver⟩,?_,du⟩
 .refine(M.get k o hk).keep (Keep.put hf) (.refl H J) rfl (λa ha=>?_) λi off hi _=>⟨rfl,hi⟩
  rw[cK,bI (λe=>du k (by rw[<-e];exact ha))]
 .rw[cK,bI (by have:H.next<=a:=ha;omega)];exact M.free a ha
 .exact F.keep (Keep.put hf) (.refl H J) λi t hi _=>⟨rfl,hi⟩
end
def aAA(xs cs:au PV)(off:Nat)(h:off+xs.length<=cs.length):Cz cs off xs=cs.take off++xs++cs.drop (off+xs.length):=by
 induction xs generalizing cs off with
 |nil=>simp[Cz]
 |cons x xs ih=>
  simp only[aM]at h;simp only[Cz];rw[ih _ _ (by simp;omega)]
  have h1:(cs.set off x).take (off+1)=cs.take off++ [x]:=by
   rw[List.take_add_one,List.take_set_of_le (aS _),List.getElem?_set_self (by omega)];rfl
  have h2:(cs.set off x).drop (off+1+xs.length)=cs.drop (off+(xs.length+1)):=by
   rw[List.drop_set_of_lt (by omega)];congr 1;omega
  rw[h1,h2];simp
def Fb(xs cs:au av)(off:Nat)(h:off+xs.length<=cs.length):jJ cs off xs=cs.take off++xs++cs.drop (off+xs.length):=by
 induction xs generalizing cs off with
 |nil=>simp[jJ]
 |cons x xs ih=>
  simp only[aM]at h;simp only[jJ];rw[ih _ _ (by simp;omega)]
  have h1:(cs.set off x).take (off+1)=cs.take off++ [x]:=by
   rw[List.take_add_one,List.take_set_of_le (aS _),List.getElem?_set_self (by omega)];rfl
  have h2:(cs.set off x).drop (off+1+xs.length)=cs.drop (off+(xs.length+1)):=by
   rw[List.drop_set_of_lt (by omega)];congr 1;omega
  rw[h1,h2];simp
def R2(a b:au PV):fM (a++b)=fM a++fM b:=by simp[fM]
def RY{s:Nat}{es:au PV}(hs: ∀e∈es,e.cells.length=s){i:Nat}(hi:i<es.length){y:PV}(hy:y.cells.length=s):fM (es.set i y)=Cz (fM es) (i*s) y.cells:=by
 have hle:i*s+s<=es.length*s:=by rw[<-Nat.succ_mul];exact Nat.mul_le_mul_right _ hi
 rw[aAA _ _ _ (by rw[hy,iZ hs];exact hle),hy,<-JV hs,show i*s+s=(i+1)*s by rw[Nat.succ_mul],<-JW hs]
 rw[List.set_eq_take_append_cons_drop,bJ hi];simp[fM]
def oQ(x:PV):(wk x).cells=wks x.cells:=by
 cases x with
 |sl z es=>cases es<;>simp[wk,wks,PV.cells]
 |_=>simp[wk,wks,PV.cells]
def lD(xs:au PV):(wks xs).length=xs.length:=by
 induction xs with
 |nil=>rfl
 |cons x xs ih=>simp[wks,ih]
def Tm{x:PV}(h:x.pur=ah):(wk x).pur=ah:=by
 cases x with
 |sl z es=>cases es<;>rfl
 |_=>first|rfl|simp[PV.pur]at h
def D5{xs:au PV}(h:xs.all PV.pur=ah):(wks xs).all PV.pur=ah:=by
 induction xs with
 |nil=>rfl
 |cons x xs ih=>
  simp only[aP,aC]at h;simp only[wks,aP,aC];exact⟨Tm h.1,ih h.2⟩
def Ea{x:PV}(h:x.pur=ah):x.one=ah:=by cases x<;>first|rfl|simp[PV.pur]at h
def wW{xs:au PV}(h:xs.all PV.pur=ah):xs.all PV.one=ah:=by
 rw[bK]at h⊢;exact λx hx=>Ea (h x hx)
def Ru{xs:au av}(h:xs.all bZ=ah):(ofVs xs).all PV.pur=ah:=by
 induction xs with
 |nil=>rfl
 |cons x xs ih=>
  simp only[aP,aC]at h;simp only[PI.ofVs,aP,aC];refine⟨?_,ih h.2⟩;have h1:=h.1;cases x with
  |slice a l c=>cases a<;>first|rfl|simp[bZ]at h1
  |_=>first|rfl|simp[bZ]at h1
section
variable{P:az}{J J':Nu}{I I1 I':Ga}{H H':St}{S:PS}{A:ia}
def aHV{k:Nat->K}{xs:au PV}{us:au av}(r:RL J H xs us)(h1:xs.all PV.one=ah){i:Nat}{x:PV}{b:Bool}{u:av}(hx:(xs.map λc=>fl c aj)[i]?=aa (x,b))(hu:us[i]?=aa u):
    R J H x u/\x.one=ah/\(b=ah->Ow J I H (k i) x u):=by
 rw[m8]at hx;cases hc:xs[i]? with
 |none=>rw[hc]at hx;cases hx
 |some c=>
  rw[hc]at hx;simp only[aK,aA]at hx;have hr:=r.2 i c u hc hu;have ho:=(bK.1 h1) c (jG hc);cases c<;>simp only[fl,aB]at hx<;>obtain⟨rfl,rfl⟩:=hx<;>first|(exact⟨hr,ho,λh=>(by cases h)⟩)|skip
  cases hr;exact⟨.emp0,rfl,λ_=> .nil _⟩
def RL.zeros{z:au PV}{w:au av}(r:RL J H z w)(n:Nat):RL J H (jY z n) (eU w n):=by
 induction n with
 |zero=>exact .nil
 |succ n ih=>exact r.append ih
def RZ(x:PV)(n:Nat):fM (pI x n)=jY x.cells n:=by
 induction n with
 |zero=>rfl
 |succ n ih=>simp only[pI,jY,<-ih];simp[fM]
def IA(x:PV)(n:Nat):(pI x n).length=n:=by
 induction n with
 |zero=>rfl
 |succ n ih=>simp[pI,ih]
def TF{x y:PV}{n:Nat}(h:y∈pI x n):y=x:=by
 induction n with
 |zero=>simp[pI]at h
 |succ n ih=>simp only[pI,List.mem_cons]at h;exact h.elim id ih
def wK{a:Bool}{s:Nat}{x:PV}(h:shape a s x=ah):x.cells.length=s/\x.cells.all PV.pur=ah:=by
 cases x<;>simp only[shape,aC]at h
 case agg cs=>exact⟨aE h.1.2,h.2⟩
 all_goals
  refine⟨(aE h.1.2).symm,?_⟩;simp only[PV.cells,aP,m9,bF];exact h.2
def QI{a:Bool}{s:Nat}: ∀(ps:au (Nat×PV)) (qs:au (Nat×av)) (es es':au PV) (B:Array av),PRs J H ps qs->(∀e∈es,e.cells.length=s/\e.cells.all PV.pur=ah)->RL J H (fM es) B.toList->
    qD a s es ps=aa es'->∃B',Instr.fill (λi=>aa (i*s,s)) B qs=aa B'/\RL J H (fM es') B'.toList/\(∀e∈es',e.cells.length=s/\e.cells.all PV.pur=ah)/\es'.length=es.length:=by
 intro ps;induction ps with
 |nil=>
  intro qs es es' B hp hs hB h;have:qs=[]:=by have:=hp.1;simpa using this.symm
  subst this;simp only[qD,aA]at h;subst h;exact⟨B,rfl,hB,hs,rfl⟩
 |cons q ps ih=>
  intro qs es es' B hp hs hB h;obtain⟨i,x⟩:=q;cases qs with
  |nil=>have:=hp.1;simp at this
  |cons q' qs=>
   obtain⟨i',u⟩:=q';have h1:=hp.1;simp only[aO,List.cons.injEq]at h1;obtain⟨rfl,h1⟩:=h1;have h2:=hp.2;simp only[aO]at h2;obtain⟨u',jp,he,hx,hr⟩:=h2.cons_inv;simp only[List.cons.injEq]at he;obtain⟨rfl,rfl⟩:=he;simp only[qD]at h;cases hc:Nat.blt i es.length&&shape a s x with
   |false=>rw[hc,aJ]at h;cases h
   |true=>
    rw[hc,aI]at h;simp only[aC,iW,aD]at hc;obtain⟨ja,hxp⟩:=wK hc.2;have hcs:=hx.cells (wW hxp);have hcw:=hcs.wks;have co: ∀e∈es,e.cells.length=s:=λe he=>(hs e he).1
    have hle:i*s+s<=es.length*s:=by rw[<-Nat.succ_mul];exact Nat.mul_le_mul_right _ hc.1
    have gj:u.cells.size=s:=by have:=hcs.1;simp at this;omega
    have hBl:B.size=es.length*s:=by have:=hB.1;rw[iZ co]at this;simpa using this.symm
    simp only[Instr.fill];rw[bI (by simp[gj];omega)]
    have me:(wk x).cells.length=s:=by rw[oQ,lD,ja]
    obtain⟨B',hB1,hB2,hB3,hB4⟩:=ih qs (es.set i (wk x)) es' (u.cells.zipIdx.foldl (λcs (c,j)=>cs.setIfInBounds (i*s+j) c) B) ⟨h1,hr⟩ (λe he=>by
            rcases List.mem_or_eq_of_mem_set he with h'|h'
            · exact hs e h'
            · subst h';exact⟨me,by rw[oQ];exact D5 hxp⟩) (by
            have:=RX (J:=J) (H:=H) (i*s) (wks x.cells) u.cells.toList 0 (fM es) B hcw hB;rw[RY co hc.1 me,oQ];rw[<-Array.foldl_toList,Array.toList_zipIdx];exact this) h
    exact⟨B',hB1,hB2,hB3,by simpa using hB4⟩
def aDc{p p':PSt}{id:Nat}(M:Mem J I p H)(F:FR J I H S A)(hf:H.get id=ae)(hlt:id<H.next){o:Oper}(ho:o.op.operands.all (cM P)=ah){v:PV}{own:Bool}
    (h:fR P p S o=aa (v,own,p')):
    ∃u ob J' I',gK P (ev A) o id=aa (u,ob)/\R J' (H.put id ob) v u/\Mem J' I' p' (H.put id ob)/\FR J' I' (H.put id ob) S A/\(own=ah->Ow J' I' (H.put id ob) .hand v u)/\
      Mon H J J'/\GoOut H I I'/\p.next<=p'.next/\(∀k,k<p.next->J' k=J k)/\(p'.dirty=p.dirty/\p'.wr=p.wr)/\(∀k,k<p.next->p'.mem.get k=p.mem.get k):=by
 replace ho:=xG ho
 have go:GoOut H I I:= .refl H I;have kw: ∀(ob:lT) (k:Nat),k<p.next->(p.new ob).mem.get k=p.mem.get k:=λob k hk=>by simp only[PSt.new,Tr.get_set];rw[bI (by omega)]
 obtain⟨dst,op,ty,pos,af,g⟩:=o;cases op with
 |alloc t=>
  simp only[fR]at h;split at h
  .rename_i z hz;obtain⟨w,hw,hp,rfl⟩:=tU hz;simp only[aA,aB]at h;obtain⟨rfl,rfl,rfl⟩:=h;obtain⟨J',h1,h2,h3,h4,h5⟩:=M.mk' (o:= .box ((ofVs w.cells.toList).map λc=>fl c aj)) (ob:= .cells w.cells.toList boxMeta) F hf hlt λJ' h1 _=>
    ⟨id,w.cells.toList,h1,by rw[cK,bJ rfl],by simp[xH],λi x b u hx hu=>aHV (k:=λi=> .cell p.next i) (.ofVs hp) (Rv hp) hx hu⟩
   exact⟨_,_,J',I,by simp only[gK,hw,hp,aI],.ptr _ _ _ h1,h2,h3,λh=>(by cases h),h4,go,by simp[PSt.new],h5,⟨rfl,rfl⟩,kw _⟩
  .cases h
 |box t x=>
  simp only[Op.operands,aP,m9,bF]at ho;have rx:=dL F ho;simp only[fR]at h;cases hc:(dG S x).cells.all PV.one with
  |false=>rw[hc,aJ]at h;cases h
  |true=>
   rw[hc,aI]at h;simp only[aA,aB]at h;obtain⟨rfl,rfl,rfl⟩:=h;have hcs:=rx.cells hc;obtain⟨J',h1,h2,h3,h4,h5⟩:=M.mk' (o:= .box ((dG S x).cells.map λc=>fl c aj)) (ob:= .cells (ev A x).cells.toList boxMeta) F hf hlt λJ' h1 hm=>
    ⟨id,(ev A x).cells.toList,h1,by rw[cK,bJ rfl],by rw[iw];exact hcs.1.symm,λi y b u hx hu=>aHV (k:=λi=> .cell p.next i) (hcs.keep (Keep.put hf) hm) hc hx hu⟩
   exact⟨_,_,J',I,by simp only[gK,hcs.one hc,aI],.ptr _ _ _ h1,h2,h3,λh=>(by cases h),h4,go,by simp[PSt.new],h5,⟨rfl,rfl⟩,kw _⟩
 |buildSlice t len parts=>
  simp only[fR]at h;simp only[gK];split at h
  .rename_i e he;simp only[he];split at h
   .rename_i s a z hs ha hz;obtain⟨w,hw,hp,rfl⟩:=tU hz;simp only[hs,hw];cases hc:aq (len*s) 1000000&&ao (ofVs w.cells.toList).length s&&aq 1 s&&(a||ao s 1)with
    |false=>rw[hc,aJ]at h;cases h
    |true=>
     rw[hc,aI]at h;simp only[aC]at hc;obtain⟨⟨⟨hc1,hc2⟩,hc3⟩,hc4⟩:=hc;have me:w.cells.toList.length=s:=by have:=aE hc2;rw[xH]at this;exact this
     split at h
     .rename_i es pq;simp only[aA,aB]at h;obtain⟨rfl,rfl,rfl⟩:=h;have hzc:(bif a then PV.agg (ofVs w.cells.toList)else(ofVs w.cells.toList).headD .und).cells=ofVs w.cells.toList:=by
       cases a with
       |true=>rfl
       |false=>
        simp only[Bool.false_or]at hc4;have hs1:=aE hc4;simp only[aJ];cases hl:w.cells.toList with
        |nil=>rw[hl]at me;simp at me;omega
        |cons y ys=>
         have:ys=[]:=by rw[hl]at me;simp at me;exact List.eq_nil_of_length_eq_zero (by omega)
         subst this;rw[hl]at hp;have:=Rv hp;simp only[PI.ofVs,aP,m9,bF]at this;simp only[PI.ofVs,List.headD_cons];exact CW this
      have kj:PRs J H (parts.toList.map λ(i,x)=>(i,dG S x)) (parts.toList.map λ(i,x)=>(i,ev A x)):=PRs.of (P:=P) F (by simpa [Op.operands]using ho)
      have hzero:RL J H (fM (pI (wk (bif a then PV.agg (ofVs w.cells.toList)else(ofVs w.cells.toList).headD .und)) len)) (eU w.cells.toList len).toArray.toList:=by
       rw[RZ,oQ,hzc];simpa using RL.zeros (RL.wks (RL.ofVs hp)) len
      obtain⟨B',hB1,hB2,hB3,hB4⟩:=QI (a:=a) (s:=s) _ _ _ es _ kj (λe he=>by
                rw[TF he,oQ,hzc,lD,xH];exact⟨me,D5 (Ru hp)⟩) hzero pq
      rw[IA]at hB4;obtain⟨M',F',du⟩:=M.fz (ob:= .cells B'.toList (eY s)) F hf hlt;have bh:Fz J (H.put id (.cells B'.toList (eY s))) id B'.toList (eY s):=⟨row_of_get (by rw[cK,bJ rfl]) rfl,du⟩
      refine⟨.slice (aa ⟨id,0,ae⟩) len len,.cells B'.toList (eY s),J,I,?_,?_,M',F',λ_=> .exact _ _ _ _ _ _ bh,.refl H J,go,aS _,λ_ _=>rfl,⟨rfl,rfl⟩,λ_ _=>rfl⟩
      .rw[show(w.cells.toList.all bZ&&aq (len*s) 1000000&&ao w.cells.size s&&aq 1 s)=ah by
        simp only[hp,hc1,hc3,iu,bF];rw[dZ];simpa using me]
       simp only[aI];rw[Array.toList_map,hB1];rfl
      .rw[<-hB4];refine LQ (.sl s es id 0 es.length B'.toList (eY s) (bR hc3) hB3 bh rfl ?_ λi x u hx hu=>?_)
       .have:=hB2.1;rw[iZ (λe he=>(hB3 e he).1)]at this;omega
       .rw[ir]at hu;exact(hB2.2 i x u hx hu).keep (Keep.put hf) (.refl H J)
     .cases h
   .cases h
  .cases h
 |makeSlice t l c=>
  simp only[Op.operands,aP,m9,bF,aC]at ho;have rl:=dL F ho.1;have rc:=dL F ho.2;simp only[fR]at h;simp only[gK];split at h
  .rename_i e n k he hl nj;rw[hl]at rl;rw[nj]at rc;generalize ev A l=ul at rl⊢;generalize ev A c=uc at rc⊢;cases rl;cases rc;simp only[he];split at h
   .rename_i info a hi ha;simp only[hi];split at h
    .rename_i z hz;simp only[hz];cases hc:ak (0<=n)&&ak (n<=k)&&ak (k*(info.bytes:Int)<=1073741824)&&ak (k<=1073741824)&&z.cells.toList.all bZ&&ao z.cells.size info.size&&aq 1 info.size&&(a||ao info.size 1)with
     |false=>rw[hc,aJ]at h;cases h
     |true=>
      rw[hc,aI]at h;have nj:=hc;simp only[aC]at hc;rw[show(ak (0<=n)&&ak (n<=k)&&ak (k*(info.bytes:Int)<=1073741824)&&ak (k<=1073741824)&&z.cells.toList.all bZ&&ao z.cells.size info.size&&aq 1 info.size)=ah by
       simp only[hc.1.1.1.1.1.1.1,hc.1.1.1.1.1.1.2,hc.1.1.1.1.1.2,hc.1.1.1.1.2,hc.1.1.1.2,hc.1.1.2,hc.1.2,n8]]
      simp only[aI];by_cases hn0:n=0
      .subst hn0;simp only[bN,aI,aA,aB]at h;obtain⟨rfl,rfl,rfl⟩:=h;by_cases hk:(0:Int)=k
       .simp only[hk,bN,aI];rw[<-hk];obtain⟨M',F',du⟩:=M.fz (ob:= .cells [] (eY info.size)) F hf hlt;have bh:Fz J (H.put id (.cells [] (eY info.size))) id [] (eY info.size):=⟨row_of_get (by rw[cK,bJ rfl]) rfl,du⟩
        refine⟨.slice (aa ⟨id,0,ae⟩) 0 0,.cells [] (eY info.size),J,I,rfl,?_,M',F',λ_=> .exact _ _ _ _ _ _ bh,.refl H J,go,aS _,(by simp),(by simp),(by simp)⟩
        exact .sl info.size [] id 0 0 [] _ (bR hc.1.2) (λe he=>by simp at he) bh rfl (by simp) (λi x u hx=>by simp[fM]at hx)
       .simp only[hk,decide_false,aJ];obtain⟨M',F',du⟩:=M.fz (ob:= .cells [] {wr:=ah,tip:=ah,z:=info.size,grp:=aa (id,0)}) F hf hlt;have bf:(H.put id (.cells [] {wr:=ah,tip:=ah,z:=info.size,grp:=aa (id,0)})).good {wr:=ah,tip:=ah,z:=info.size,grp:=aa (id,0)}=ah:=by
         show ao (H.ver id) 0=ah;rw[M.ver id];rfl
        have bh:Fz J (H.put id (.cells [] {wr:=ah,tip:=ah,z:=info.size,grp:=aa (id,0)})) id [] {wr:=ah,tip:=ah,z:=info.size,grp:=aa (id,0)}:=⟨row_of_get (by rw[cK,bJ rfl]) bf,du⟩
        refine⟨.slice (aa ⟨id,0,ae⟩) 0 1,.cells [] _,J,λi=>if i=id then aa .hand else I i,rfl,?_,?_,?_,λ_=>?_,.refl H J,?_,aS _,(by simp),(by simp),(by simp)⟩
        .exact .sl info.size [] id 0 1 [] _ (bR hc.1.2) (λe he=>by simp at he) bh rfl (by simp) (λi x u hx=>by simp[fM]at hx)
        .refine⟨M'.le,M'.lt,M'.inj,M'.live,λk o hk=>?_,M'.free,M'.ver⟩
         refine(M.get k o hk).keep (I1:=lQ) (Keep.put hf) (.refl H J) rfl (λa ha=>?_) λi off hi hn=>⟨rfl,?_⟩
         .rw[cK,bI (λe=>du k (by rw[<-e];exact ha))]
         .show(if i=id then aa K.hand else I i)=_
          rw[bI (λe=>hn (by rw[e];exact hf))];exact hi
        .refine F.keep (I1:=lQ) (Keep.put hf) (.refl H J) λi t hi hn=>⟨rfl,?_⟩
         show(if i=id then aa K.hand else I i)=_
         rw[bI (λe=>hn (by rw[e];exact hf))];exact hi
        .exact .tip info.size [] id 0 1 [] _ bh rfl rfl rfl (by simp) (by simp)
        .intro i hn hi;show(if i=id then aa K.hand else I i)=aa K.out;rw[bI (λe=>hn (by rw[e];exact hf))];exact hi
      .by_cases hnk:n=k
       .subst hnk;simp only[hn0,decide_false,aJ,bN,aI,aA,aB]at h;obtain⟨rfl,rfl,rfl⟩:=h;simp only[bN,aI];have dm:=hc.1.1.1.2;have kf:RL J H (jY (wks (ofVs z.cells.toList)) n.toNat) (eU z.cells.toList n.toNat):=RL.zeros (RL.wks (RL.ofVs dm)) _;obtain⟨J',h1,h2,h3,h4,h5⟩:=M.mk' (o:= .row info.size a (jY (wks (ofVs z.cells.toList)) n.toNat)) (ob:= .cells (eU z.cells.toList n.toNat) (eY info.size)) F hf hlt λJ' h1 hm=>
         ⟨id,eU z.cells.toList n.toNat,h1,by rw[cK,bJ rfl],kf.1.symm,by
          rw[bK];intro x hx;have: ∀m,x∈jY (wks (ofVs z.cells.toList)) m->x∈wks (ofVs z.cells.toList):=by
           intro m;induction m with
           |zero=>intro h;simp[jY]at h
           |succ m ih=>intro h;simp only[jY,oa]at h;exact h.elim (λh=>h) ih
          exact(bK.1 (wW (D5 (Ru dm)))) x (this _ hx),λi x u hx hu=>(kf.2 i x u hx hu).keep (Keep.put hf) hm⟩
        exact⟨_,_,J',I,rfl,.rs _ _ _ _ _ h1,h2,h3,λh=>(by cases h),h4,go,by simp[PSt.new],h5,⟨rfl,rfl⟩,kw _⟩
       .simp only[hn0,hnk,decide_false,aJ]at h;cases h
    .cases h
   .cases h
  .cases h
 |_=>simp only[fR]at h;cases h
end
section
variable{P:az}{J J':Nu}{I I1 I':Ga}{H H':St}{S:PS}{A:ia}
def Keep.weak(k:Keep J I1 H H')(h: ∀a,I a=aa .out->I1 a=aa .out):Keep J I H H':=
 ⟨k.vers,k.next,k.dom,λa hn cs m hg=>by
  obtain⟨b,h1,h2,h3⟩:=k.row a hn cs m hg;exact⟨b,h1,h2,λhh=>h3 (h a hh)⟩⟩
def Keep.trans{H'':St}(k:Keep J I H H')(hm:Mon H J J')(k':Keep J' I' H' H'')(hg:GoOut H I I'):Keep J I H H'':=by
 refine⟨k'.vers.trans k.vers,Nat.le_trans k.next k'.next,λa ha=>k.dom a (k'.dom a ha),λa hn cs m bc=>?_⟩
 obtain⟨b,h1,h2,h3⟩:=k.row a hn cs m bc;obtain⟨b',h4,h5,h6⟩:=k'.row a (λj hj=>by
  rcases hm.2 j a hj with e|e
  .exact hn j e
  .rw[bc]at e;cases e) cs _ h1
 refine⟨b',h4,λht=>h5 (h2 ht),λho=>?_⟩
 rw[h6 (hg a (by rw[bc];simp) ho)]
 exact h3 ho
def Keep.write{id a:Nat}{o:AObj}(hν:J id=aa (aa a))(hd:H.get a≠ae):Keep J lQ H (H.put a o):=by
 refine⟨rfl,aS _,λk hk=>?_,λk hn cs m hg=>⟨m.tip,?_,λh=>h,λ_=>rfl⟩⟩
 .rw[cK]at hk;split at hk
  .cases hk
  .exact hk
 .rw[cK,bI (λe=>hn id (by rw[e];exact hν))];exact hg
def Mem.write{p:PSt}{id a:Nat}{o:lT}{ob ob':AObj}(M:Mem J I p H)(F:FR J I H S A)(hν:J id=aa (aa a))(hg:H.get a=aa ob)(hp: ∃o',p.get id=aa o')
    (hn:ObjR J I' (H.put a ob') id o) (hγ: ∀i j off,j≠id->I i=aa (.cell j off)->I' i=aa (.cell j off)) (hs: ∀i t,I i=aa (.slot t)->I' i=aa (.slot t)):
    Mem J I' (p.upd id o) (H.put a ob')/\FR J I' (H.put a ob') S A:=by
 have kp:Keep J lQ H (H.put a ob'):=Keep.write hν (by rw[hg];simp)
 obtain⟨o',gk⟩:=hp;have hid:=jR gk;refine⟨⟨M.le,M.lt,M.inj,λk a hk=>?_,λk ob2 hk=>?_,λk hk=>?_,M.ver⟩,F.keep kp (.refl H J) λi t hi _=>⟨rfl,hs i t hi⟩⟩
 .rw[mM hid];split
  .exact⟨_,rfl⟩
  .exact M.live k a hk
 .rw[mM hid]at hk;split at hk
  .rename_i e;subst e;simp only[aA]at hk;subst hk;exact hn
  .rename_i e;refine(M.get k ob2 hk).keep kp (.refl H J) rfl (λa' cp=>?_) λi off hi _=>⟨rfl,hγ i k off e hi⟩
   rw[cK,bI (λe2=>e (M.inj k id a (by rw[<-e2];exact cp) hν))]
 .rw[cK,bI (λe=>by subst e;have:=M.lt _ _ hν;have h2:H.next<=k:=hk;omega)];exact M.free k hk
def uW{N:Type}{cs xs:au N}{off i:Nat}{x:N}(h:off+xs.length<=cs.length)(hi:(cs.take off++xs++cs.drop (off+xs.length))[i]?=aa x):
    (i<off/\cs[i]?=aa x)∨(off<=i/\i<off+xs.length/\xs[i-off]?=aa x)∨(off+xs.length<=i/\cs[i]?=aa x):=by
 have hl:(cs.take off).length=off:=by simp;omega
 rcases b8 i off with h1|h1
 .left;rw[aQ,i7 (by omega),m6,bJ h1]at hi
  exact⟨h1,hi⟩
 .rcases b8 i (off+xs.length)with h2|h2
  .right;left;rw[aQ,eo (by omega),hl,i7 (by omega)]at hi
   exact⟨h1,h2,hi⟩
  .right;right;rw[eo (by simp;omega),m7]at hi
   refine⟨h2,?_⟩;rw[<-hi];congr 1;simp;omega
def LY{id:Nat}{l:au Nat}:id∈HS id l:=by
 unfold HS;cases h:l.contains id with
 |true=>simpa using h
 |false=>simp
def aC2{p p':PSt}(M:Mem J I p H)(F:FR J I H S A){t:aw}{a x:PV}{w u:av}{own:Bool}(ra:R J H a w)(rx:R J H x u)(kv:own=ah->Ow J I H .hand x u)(h:qE P p t a x own=aa p'):
    ∃H' I',jU P H t w u=aa H'/\Mem J I' p' H'/\FR J I' H' S A/\Keep J I H H'/\GoOut H I I'/\p'.next=p.next/\H'.next=H.next/\(∃i0 a0,J i0=aa (aa a0)/\i0∈p'.wr/\∀b,b≠a0->H'.get b=H.get b):=by
 cases a<;>simp only[qE]at h<;>try cases h
 rename_i id off;split at h
 .rename_i cs n hg hn;cases hc:ao x.cells.length n&&aq (off+n) cs.length&&x.cells.all PV.one with
  |false=>rw[hc,aJ]at h;cases h
  |true=>
   rw[hc,aI]at h;simp only[aA]at h;subst h;simp only[aC]at hc;obtain⟨⟨hc1,hc2⟩,hc3⟩:=hc;have ja:=aE hc1;have hle:=bR hc2;have hcs:=rx.cells hc3;obtain⟨a',us,h1,h2,h3,h4⟩:=M.get id _ hg;have hw:w= .pointer (aa ⟨a',off,ae⟩):=by
    cases ra with
    |ptr _ _ _ hν=>rw[h1]at hν;simp only[aA]at hν;subst hν;rfl
    |ptr0 _ _ _ hν=>rw[h1]at hν;cases hν
   subst hw;have gj:u.cells.toList.length=n:=by rw[<-hcs.1,ja]
   have cb:jU P H t (.pointer (aa ⟨a',off,ae⟩)) u=aa (H.put a' (.cells (jJ us off u.cells.toList) boxMeta)):=by
    simp only[jU,row_of_get h2 rfl,hn];rw[show(boxMeta.wr&&ao u.cells.size n&&aq (off+n) us.length&&u.cells.toList.all one)=ah by
     rw[hcs.one hc3,dZ,CG];simp only[Array.length_toList]at gj;simp[boxMeta,gj,h3,hle]]
    rfl
   have di:=Fb u.cells.toList us off (by rw[gj,h3];exact hle)
   have hkp:Keep J lQ H (H.put a' (.cells (jJ us off u.cells.toList) boxMeta)):=Keep.write h1 (by rw[h2];simp)
   have hobj: ∀I',(∀i k,I i=aa (.cell id k)->I' i=aa (.cell id k))->(∀i,own=ah->I i=aa .hand->I' i=aa (.cell id off))->
          ObjR J I' (H.put a' (.cells (jJ us off u.cells.toList) boxMeta)) id (.box (cs.take off++x.cells.map (λc=>fl c own)++cs.drop (off+n))):=by
    intro I' hγ hγ2;refine⟨a',jJ us off u.cells.toList,h1,by rw[cK,bJ rfl],?_,λi y b v hy hv=>?_⟩
    .rw[di];simp[h3];simp only[Array.length_toList]at gj;omega
    .rw[show off+n=off+(x.cells.map λc=>fl c own).length by simp[ja]]at hy
     rw[di,gj]at hv;rw[show off+n=off+u.cells.toList.length by rw[gj]]at hv
     have nv:=uW (by simp[ja];exact hle) hy
     have fh:=uW (by rw[gj,h3];exact hle) hv
     rw[iw,ja]at nv;rw[gj]at fh;rcases nv with⟨e1,e2⟩|⟨e1,e2,e3⟩|⟨e1,e2⟩
     .rcases fh with⟨f1,f2⟩|⟨f1,f2,f3⟩|⟨f1,f2⟩
      .obtain⟨g1,g2,g3⟩:=h4 i y b v e2 f2;exact⟨g1.keep hkp (.refl H J),g2,λhb=>(g3 hb).keep hkp (.refl H J) λj hj _=>⟨rfl,hγ j i hj⟩⟩
      .omega
      .omega
     .rcases fh with⟨f1,f2⟩|⟨f1,f2,f3⟩|⟨f1,f2⟩
      .omega
      .cases own with
       |false=>
        obtain⟨g1,g2,g3⟩:=aHV (I:=I) (k:=λ_=> .hand) hcs hc3 e3 f3
        refine⟨g1.keep hkp (.refl H J),g2,λhb=>?_⟩
        have:=g3 hb;rw[m8]at e3;cases gy:x.cells[i-off]? with
        |none=>rw[gy]at e3;cases e3
        |some c=>
         rw[gy]at e3;simp only[aK,aA]at e3;have hr:=hcs.2 _ c v gy f3;cases c<;>simp only[fl,aB]at e3<;>obtain⟨rfl,rfl⟩:=e3<;>first|(cases hb)|skip
         cases hr;exact .nil _
       |true=>
        have how:=kv rfl;have co:iH u=ah:=how.slice hc3;have hxc:x.cells=[x]:=by
         cases x with
         |agg ys=>obtain⟨jp,rfl,_⟩:=rx.agg_inv;cases co
         |_=>rfl
        have huc:u.cells.toList=[u]:=by cases u<;>first|rfl|cases co
        rw[hxc]at e3;rw[huc]at f3;have hn1:n=1:=by rw[<-ja,hxc];rfl
        have hio:i=off:=by omega
        subst hio;simp only[Nat.sub_self,aO,List.map_nil,aU,aA]at e3 f3;subst f3;have hx1:x.one=ah:=by rw[hxc]at hc3;simpa using hc3
        have hk:Ow J I' (H.put a' (.cells (jJ us i u.cells.toList) boxMeta)) (.cell id i) x u:=how.keep hkp (.refl H J) λj hj _=>⟨rfl,hγ2 j rfl hj⟩
        cases x<;>simp only[fl,aB]at e3<;>obtain⟨rfl,rfl⟩:=e3<;>first|(exact⟨rx.keep hkp (.refl H J),hx1,λ_=>hk⟩)|skip
        cases rx;exact⟨.emp0,rfl,λ_=> .nil _⟩
      .omega
     .rcases fh with⟨f1,f2⟩|⟨f1,f2,f3⟩|⟨f1,f2⟩
      .omega
      .omega
      .obtain⟨g1,g2,g3⟩:=h4 i y b v e2 f2;exact⟨g1.keep hkp (.refl H J),g2,λhb=>(g3 hb).keep hkp (.refl H J) λj hj _=>⟨rfl,hγ j i hj⟩⟩
   have hmv: ∀i k,I i=aa k->k≠ .hand->PI.mv .hand (.cell id off) I i=aa k:=λi k hi hk=>by
    simp only[PI.mv,hi];rw[bI (by simpa using hk)]
   obtain⟨M',F'⟩:=M.write (I':=PI.mv .hand (.cell id off) I) F h1 h2 ⟨_,hg⟩ (hobj _ (λi k hi=>hmv i _ hi (by simp)) λi _ hi=>by simp[PI.mv,hi]) (λi j o' hj hi=>hmv i _ hi (by simp)) (λi t hi=>hmv i _ hi (by simp))
   exact⟨_,_,cb,M',F',hkp.weak λ_ _=>rfl,λi _ hi=>hmv i _ hi (by simp),rfl,rfl,id,a',h1,LY,λb hb=>by rw[cK,bI hb]⟩
 .rename_i z ag cs n hg hn;cases hc:ao x.cells.length n&&aq (off+n) cs.length&&x.cells.all PV.one with
  |false=>rw[hc,aJ]at h;cases h
  |true=>
   rw[hc,aI]at h;simp only[aA]at h;subst h;simp only[aC]at hc;obtain⟨⟨hc1,hc2⟩,hc3⟩:=hc;have ja:=aE hc1;have hle:=bR hc2;have hcs:=rx.cells hc3;obtain⟨a',us,h1,h2,h3,h5,h4⟩:=M.get id _ hg;have hw:w= .pointer (aa ⟨a',off,ae⟩):=by
    cases ra with
    |ptr _ _ _ hν=>rw[h1]at hν;simp only[aA]at hν;subst hν;rfl
    |ptr0 _ _ _ hν=>rw[h1]at hν;cases hν
   subst hw;have gj:u.cells.toList.length=n:=by rw[<-hcs.1,ja]
   have cb:jU P H t (.pointer (aa ⟨a',off,ae⟩)) u=aa (H.put a' (.cells (jJ us off u.cells.toList) (eY z))):=by
    simp only[jU,row_of_get h2 rfl,hn];rw[show((eY z).wr&&ao u.cells.size n&&aq (off+n) us.length&&u.cells.toList.all one)=ah by
     rw[hcs.one hc3,dZ,CG];simp only[Array.length_toList]at gj;simp[eY,gj,h3,hle]]
    rfl
   have di:=Fb u.cells.toList us off (by rw[gj,h3];exact hle)
   have hkp:Keep J lQ H (H.put a' (.cells (jJ us off u.cells.toList) (eY z))):=Keep.write h1 (by rw[h2];simp)
   have me:(wks x.cells).length=n:=by rw[lD,ja]
   obtain⟨M',F'⟩:=M.write (I':=I) (o:= .row z ag (cs.take off++wks x.cells++cs.drop (off+n))) (ob':= .cells (jJ us off u.cells.toList) (eY z)) F h1 h2 ⟨_,hg⟩
    ⟨a',jJ us off u.cells.toList,h1,by rw[cK,bJ rfl],by rw[di];simp[h3,lD,ja];simp only[Array.length_toList]at gj;omega,by
     have hw1:(wks x.cells).all PV.one=ah:=by
      have: ∀ys:au PV,ys.all PV.one=ah->(wks ys).all PV.one=ah:=by
       intro ys;induction ys with
       |nil=>intro _;rfl
       |cons y ys ih=>
        intro h;simp only[aP,aC]at h;simp only[wks,aP,aC];refine⟨?_,ih h.2⟩;have:=h.1;cases y with
        |sl z es=>cases es<;>rfl
        |_=>first|rfl|exact this
      exact this _ hc3
     rw[oe,oe,hw1];simp only[bF,aC,bK]at h5⊢;exact⟨λy hy=>h5 y (List.mem_of_mem_take hy),λy hy=>h5 y (List.mem_of_mem_drop hy)⟩,λi y v hy hv=>by
     rw[show off+n=off+(wks x.cells).length by rw[me]]at hy
     rw[di,gj]at hv;rw[show off+n=off+u.cells.toList.length by rw[gj]]at hv
     have nv:=uW (by rw[me];exact hle) hy
     have fh:=uW (by rw[gj,h3];exact hle) hv
     rw[me]at nv;rw[gj]at fh;rcases nv with⟨e1,e2⟩|⟨e1,e2,e3⟩|⟨e1,e2⟩
     .rcases fh with⟨f1,f2⟩|⟨f1,f2,f3⟩|⟨f1,f2⟩
      .exact(h4 i y v e2 f2).keep hkp (.refl H J)
      .omega
      .omega
     .rcases fh with⟨f1,f2⟩|⟨f1,f2,f3⟩|⟨f1,f2⟩
      .omega
      .exact(hcs.wks.2 _ y v e3 f3).keep hkp (.refl H J)
      .omega
     .rcases fh with⟨f1,f2⟩|⟨f1,f2,f3⟩|⟨f1,f2⟩
      .omega
      .omega
      .exact(h4 i y v e2 f2).keep hkp (.refl H J)⟩ (λi j o' hj hi=>hi) (λi t hi=>hi)
   exact⟨_,_,cb,M',F',hkp.weak λ_ _=>rfl,.refl H I,rfl,rfl,id,a',h1,LY,λb hb=>by rw[cK,bI hb]⟩
 .cases h
end
section
variable{P:az}{J J':Nu}{I I1 I':Ga}{H H':St}{S:PS}{A:ia}
def B3(cs:au av)(off:Nat):cut cs off 0=aa []:=by simp[cut,dZ]
def a4x{cs:au av}{off n:Nat}(h:off+n<=cs.length):cut cs off n=aa ((cs.drop off).take n):=by
 simp only[cut,dZ];rw[show ak (((cs.drop off).take n).length=n)=ah by simp;omega];rfl
def K4{z:Nat}{es:au PV}{id off n c:Nat}(r:R J H (.sl z es) (.slice (aa ⟨id,off,ae⟩) n c)):
    n=es.length/\1<=z/\(∀e∈es,e.cells.length=z/\e.cells.all PV.pur=ah)/\∃rcs m l,Fz J H id rcs m/\m.z=z/\off+es.length*z<=rcs.length/\cut rcs off (es.length*z)=aa l/\RL J H (fM es) l:=by
 cases r with
 |sl _ _ _ _ _ rcs m hz hs hr hm hb hh=>
  refine⟨rfl,hz,hs,rcs,m,_,hr,hm,hb,a4x hb,?_⟩;have gl:=iZ (λe he=>(hs e he).1)
  refine⟨by simp[gl];omega,λi x u hx hu=>?_⟩
  rw[m6]at hu;split at hu
  .rw[m7]at hu;exact hh i x u hx hu
  .cases hu
def Ff{z:Nat}{d:TypeDesc}{x:PV}{u:av}{xs:au PV}(r:R J H x u)(hz1:1<=z)(h:zA z d x=aa xs):
    ∃vals,vJ H z u=aa (xs.length,vals)/\RL J H (fM xs) vals/\(∀e∈xs,e.cells.length=z/\e.cells.all PV.pur=ah)/\IM d u=ah:=by
 unfold zA at h;split at h
 .cases x<;>simp only[qL]at h<;>try cases h
  .cases r;exact⟨[],rfl,.nil,λe he=>by simp at he,rfl⟩
  .cases r with
   |emp0=>exact⟨[],rfl,.nil,λe he=>by simp at he,rfl⟩
   |emp1 id off c rcs m hr=>exact⟨[],by simp only[vJ,hr.1,Nat.zero_mul,B3];rfl,.nil,λe he=>by simp at he,rfl⟩
   |emp2 b o s c=>exact⟨[],rfl,.nil,λe he=>by simp at he,rfl⟩
  .rename_i z' es;cases hc:ao z z' with
   |false=>rw[hc,aJ]at h;cases h
   |true=>
    rw[hc,aI]at h;simp only[aA]at h;subst h;have gz:=aE hc;subst gz;cases r with
    |sl _ _ id off c rcs m hz hs hr hm hb hh=>
     obtain⟨_,_,jd,nk,m',l,bz,_,bm,hl,hrl⟩:=K4 (.sl z es id off c rcs m hz hs hr hm hb hh);exact⟨l,by simp only[vJ,bz.1,hl];rfl,hrl,jd,rfl⟩
 .split at h
  .rename_i s;cases hc:ao z 1 with
   |false=>rw[hc,aJ]at h;cases h
   |true=>
    rw[hc,aI]at h;simp only[aA]at h;subst h;have gz:=aE hc;subst gz;cases r with
    |str ba=>
     refine⟨_,by simp only[vJ,aI];rw[show ao 1 1=ah from rfl,aI,iw,Array.length_toList];rfl,?_,λe he=>?_,rfl⟩
     .have: ∀bs:au UInt8,RL J H (fM (bs.map λb=>PV.v (.int .u8 b.toNat))) (bs.map λb=>Value.int .u8 b.toNat):=by
       intro bs;induction bs with
       |nil=>exact .nil
       |cons b bs ih=>simp only[aO,fM,aN,PV.cells,aR];exact .cons (.v _ rfl) ih
      exact this _
     .obtain⟨b,_,rfl⟩:=List.mem_map.1 he;exact⟨rfl,rfl⟩
  .cases h
 .cases h
def FV{p:PSt}{id z:Nat}{es xs:au PV}{old vals:au av}{m:wB}(M:Mem J I p H)(F:FR J I H S A)(hf:H.get id=ae)(hlt:id<H.next)(hz:1<=z)
    (ph: ∀e∈es++xs,e.cells.length=z/\e.cells.all PV.pur=ah) (ho:RL J H (fM es) old) (hv:RL J H (fM xs) vals) (hm:m.z=z) (ht:m.tip=ah) (hw:m.wr=ah) (hg:m.grp.isSome=ah) (bf:H.good m=ah) (c:Nat) (bi:es++xs≠ []):
    ∃I',R J (H.put id (.cells (old++vals) m)) (eO z (es++xs)) (.slice (aa ⟨id,0,ae⟩) (es.length+xs.length) c)/\Mem J I' p (H.put id (.cells (old++vals) m))/\FR J I' (H.put id (.cells (old++vals) m)) S A/\
      Ow J I' (H.put id (.cells (old++vals) m)) .hand (eO z (es++xs)) (.slice (aa ⟨id,0,ae⟩) (es.length+xs.length) c)/\Keep J lQ H (H.put id (.cells (old++vals) m))/\GoOut H I I':=by
 obtain⟨M',F',du⟩:=M.fz (ob:= .cells (old++vals) m) F hf hlt;have bh:Fz J (H.put id (.cells (old++vals) m)) id (old++vals) m:=⟨row_of_get (by rw[cK,bJ rfl]) bf,du⟩
 have dj:=ho.append hv;rw[<-R2]at dj;have gl:=iZ (λe he=>(ph e he).1)
 have hlen:(old++vals).length=(es++xs).length*z:=by rw[<-gl];exact dj.1.symm
 have mj:eO z (es++xs)= .sl z (es++xs):=by
  cases hh:es++xs with
  |nil=>exact absurd hh bi
  |cons a l=>rfl
 have jy: ∀i k,I i=aa k->H.get i≠ae->(if i=id then aa K.hand else I i)=aa k:=λi k hi hn=>by
  rw[bI (λe=>hn (by rw[e];exact hf))];exact hi
 refine⟨λi=>if i=id then aa .hand else I i,?_,?_,?_,?_,Keep.put hf,λi hn hi=>jy i _ hi hn⟩
 .rw[mj,<-aZ];exact .sl z (es++xs) id 0 c _ m hz ph bh hm (by rw[hlen];omega) λi x u hx hu=>(dj.2 i x u hx (by simpa using hu)).keep (Keep.put hf) (.refl H J)
 .refine⟨M'.le,M'.lt,M'.inj,M'.live,λk o hk=>?_,M'.free,M'.ver⟩
  refine(M.get k o hk).keep (I1:=lQ) (Keep.put hf) (.refl H J) rfl (λa ha=>?_) λi off hi hn=>⟨rfl,jy i _ hi hn⟩
  rw[cK,bI (λe=>du k (by rw[<-e];exact ha))]
 .exact F.keep (I1:=lQ) (Keep.put hf) (.refl H J) λi t hi hn=>⟨rfl,jy i _ hi hn⟩
 .rw[mj,<-aZ];exact .tip z (es++xs) id 0 c _ m bh ht hw hg (by rw[hm,hlen];omega) (by simp)
def tQ{z:Nat}{x:PV}{es:au PV}(h:qL z x=aa es):((x= .emp∨x= .nil)/\es=[])∨x= .sl z es:=by
 cases x<;>simp only[qL]at h<;>try cases h
 .exact .inl ⟨.inr rfl,rfl⟩
 .exact .inl ⟨.inl rfl,rfl⟩
 .rename_i z' es';cases hc:ao z z' with
  |false=>rw[hc,aJ]at h;cases h
  |true=>
   rw[hc,aI]at h;simp only[aA]at h;subst h;have gz:=aE hc;subst gz;exact .inr rfl
def YV{p:PSt}(M:Mem J I p H)(z id:Nat):H.good (iF z id)=ah:=by
 show ao (H.ver id) 0=ah;rw[M.ver id];rfl
def T8{p:PSt}{id:Nat}(M:Mem J I p H)(F:FR J I H S A)(hf:H.get id=ae)(hlt:id<H.next){c:Call}{s x:a8}(hs:cM P s=ah)(hx:cM P x=ah){v:PV}{own:Bool}{S':PS}
    (h:zC P S c s x=aa (v,own,S')):
    ∃u H' I',oO P H id c (ev A s) (ev A x)=aa (u,H')/\R J H' v u/\Mem J I' p H'/\FR J I' H' S' A/\(own=ah->Ow J I' H' .hand v u)/\Keep J I H H'/\GoOut H I I'/\H'.next=H.next:=by
 unfold zC at h;unfold oO;split at h
 .rename_i t t1 ht;simp only[ht];split at h
  .rename_i e d he hd;simp only[he,hd];split at h
   .rename_i info hi;simp only[hi];split at h
    .rename_i es xs z pq hxs hz;cases hc:aq 1 info.size&&aq 1 info.bytes&&ao z.cells.size info.size with
     |false=>rw[hc,aJ]at h;cases h
     |true=>
      rw[hc,aI]at h;simp only[aC]at hc;have hz1:=bR hc.1.1;obtain⟨vals,pg,hvals,hxe,kc⟩:=Ff (dL F hx) hz1 hxs;obtain⟨I0,F0,how,g0⟩:=zG F s hs;have M0:=M.g2 g0;have rs:=dL F hs;have jf:vals.all one=ah:=hvals.one (by
       rw[bK];intro y hy;simp only[fM,List.mem_flatMap]at hy;obtain⟨e,he,hy⟩:=hy;exact Ea ((bK.1 (hxe e he).2) y hy))
      have co:iH (ev A s)=ah:=by
       rcases tQ pq with⟨h1|h1,_⟩|h1<;>rw[h1]at rs<;>generalize ev A s=w at rs<;>cases rs<;>rfl
      simp only[kc,aI,pg,hz];rw[show(vals.all one&&aq 1 info.size&&aq 1 info.bytes&&ao z.cells.size info.size&&iH (ev A s))=ah by
       simp only[jf,hc.1.1,hc.1.2,hc.2,co,n8]]
      simp only[aI];cases hx0:xs with
      |nil=>
       subst hx0;simp only[aA,aB]at h;obtain⟨rfl,rfl,rfl⟩:=h;exact⟨ev A s,H,I0,rfl,rs,M0,F0,how,.refl J I H,g0.out,rfl⟩
      |cons x0 xs0=>
       rw[hx0]at h;simp only at h;rw[<-hx0]at h;have hlen:xs.length≠0:=by rw[hx0];simp
       have bi:es++xs≠ []:=by rw[hx0];simp
       rw[<-hx0];rw[show ao xs.length 0=aj by rw[dZ];simp[hlen]]
       simp only[aJ];cases hc2:jC S s&&aq ((es.length+xs.length)*info.bytes) 1073741824 with
       |false=>rw[hc2,aJ]at h;cases h
       |true=>
        rw[hc2,aI]at h;simp only[aA,aB]at h;obtain⟨rfl,rfl,rfl⟩:=h;simp only[aC]at hc2;have how:=how hc2.1;have cw:=hc2.2;have hgt:=YV M0 info.size id;have hfin: ∀{old:au av},RL J H (fM es) old->(∀e∈es,e.cells.length=info.size/\e.cells.all PV.pur=ah)->
                    nN H id info.size info.bytes xs.length vals (ev A s)=aa (.slice (aa ⟨id,0,ae⟩) (es.length+xs.length) (es.length+xs.length+1),H.put id (.cells (old++vals) (iF info.size id)))->
                    ∃u H' I',nN H id info.size info.bytes xs.length vals (ev A s)=aa (u,H')/\R J H' (eO info.size (es++xs)) u/\Mem J I' p H'/\FR J I' H' (oX S s) A/\(ah=ah->Ow J I' H' .hand (eO info.size (es++xs)) u)/\Keep J I H H'/\GoOut H I I'/\H'.next=H.next:=by
         intro old hold ph kt;obtain⟨I',k1,k2,k3,k4,k5,k6⟩:=FV (m:=iF info.size id) M0 F0 hf hlt hz1 (λe he=>(oa.1 he).elim (ph e) (hxe e)) hold hvals rfl rfl rfl rfl hgt (es.length+xs.length+1) bi
         exact⟨_,_,I',kt,k1,k2,k3,λ_=>k4,k5.weak λ_ _=>rfl,GoOut.trans (H':=H) g0.out k6 (λ_ h=>h),rfl⟩
        rcases tQ pq with⟨h1,rfl⟩|h1
        ·
         have rse:R J H .emp (ev A s):=by
          rcases h1 with h1|h1<;>rw[h1]at rs
          .exact rs
          .generalize ev A s=w at rs⊢;cases rs;exact .emp0
         simp only[aX,ir]at cw hfin⊢;refine hfin (old:=[]) .nil (λe he=>by simp at he) ?_
         have mf:Ow J I0 H .hand .emp (ev A s)∨ev A s= .slice ae 0 0:=by
          rcases h1 with h1|h1<;>rw[h1]at how rs
          .exact .inl how
          .right;generalize ev A s=w at rs;cases rs;rfl
         clear how hfin;generalize ev A s=w at rse mf;cases rse with
         |emp0=>simp only[nN,cw,aI];rfl
         |emp1 id0 off c rcs m hr=>
          have:c=0:=by
           rcases mf with how|how
           .cases how;rfl
           .cases how
          subst this;simp only[nN,ir,cw,aI,hr.1,Nat.zero_mul,B3];rfl
         |emp2 b o s' c=>
          rcases mf with how|how
          .cases how;have hq:(ao 1 1&&aq (xs.length*info.bytes) 1073741824)=ah:=by rw[cw];rfl
           simp only[nN,hq,aI];rfl
          .cases how
        .rw[h1]at rs how;obtain⟨ph,wg⟩:(∀e∈es,e.cells.length=info.size/\e.cells.all PV.pur=ah)/\∃id0 off cc rcs m l,ev A s= .slice (aa ⟨id0,off,ae⟩) es.length cc/\Fz J H id0 rcs m/\m.z=info.size/\off+es.length*info.size<=rcs.length/\cut rcs off (es.length*info.size)=aa l/\RL J H (fM es) l:=by
          generalize ev A s=w at rs;cases rs with
          |sl _ _ id0 off cc rcs m hz hs hr hm hb hh=>
           obtain⟨_,_,jd,nk,m',l,k1,k2,k3,k4,k5⟩:=K4 (.sl info.size es id0 off cc rcs m hz hs hr hm hb hh);exact⟨jd,id0,off,cc,nk,m',l,rfl,k1,k2,k3,k4,k5⟩
         obtain⟨id0,off,cc,rcs,m,l,hw,hr,ln,hb,hl,hrl⟩:=wg;by_cases gy:cc=es.length
         .refine hfin hrl ph ?_;rw[hw,gy];simp only[nN,cw,aI,hr.1,hl];rw[show ao es.length es.length=ah by simp[dZ]]
          rfl
         .rw[hw]at how⊢;cases how with
          |exact=>exact absurd rfl gy
          |tip z0 es0 _ _ _ rcs2 m2 hr2 ht gn hg hb2 hk=>
           have:rcs2=rcs/\m2=m:=by have:=hr2.1;rw[hr.1]at this;simp only[aA,aB]at this;exact⟨this.1.symm,this.2.symm⟩
           obtain⟨rfl,rfl⟩:=this;obtain⟨bc,bf⟩:=fS hr.1;have hii:id0≠id:=λe=>by rw[e,hf]at bc;cases bc
           have kt:nN H id info.size info.bytes xs.length vals (.slice (aa ⟨id0,off,ae⟩) es.length cc)=
                          aa (.slice (aa ⟨id,0,ae⟩) (es.length+xs.length) (es.length+xs.length+1),(H.put id0 (.cells rcs2 {m2 with tip:=aj})).put id (.cells (l++vals) {m2 with lim:=l.length})):=by
            simp only[nN,cw,aI,hr.1,hl];rw[show ao cc es.length=aj by rw[dZ];simp[gy]]
            simp only[aJ];rw[show(m2.tip&&m2.wr&&ao m2.z info.size&&ao (off+es.length*info.size) rcs2.length&&m2.grp.isSome)=ah by
             rw[ln]at hb2;simp only[ht,gn,hg,dZ,ln,hb2,bN,n8]]
            rfl
           have kp:Keep J (λi=>if i=id0 then ae else aa .out) H (H.put id0 (.cells rcs2 {m2 with tip:=aj})):=by
            refine⟨rfl,aS _,λa ha=>?_,λa hn cs m bj=>?_⟩
            .rw[cK]at ha;split at ha
             .cases ha
             .exact ha
            .by_cases e:a=id0
             .subst e;rw[bc]at bj;simp only[aA,AObj.cells.injEq]at bj;obtain⟨rfl,rfl⟩:=bj;refine⟨aj,by rw[cK,bJ rfl],λ_=>rfl,λh=>?_⟩
              simp at h
             .exact⟨m.tip,by rw[cK,bI e];exact bj,λh=>h,λ_=>rfl⟩
           have vq: ∀i k,I0 i=aa k->k≠ .hand->(if i=id0 then ae else aa K.out)=aa K.out:=λi k hi jg=>by
            rw[bI];intro e;rw[e,hk]at hi;simp only[aA]at hi;exact jg hi.symm
           have M1:Mem J I0 p (H.put id0 (.cells rcs2 {m2 with tip:=aj})):=by
            refine⟨M0.le,M0.lt,M0.inj,M0.live,λk o jg=>?_,λa ha=>?_,M0.ver⟩
            .refine(M0.get k o jg).keep kp (.refl H J) rfl (λa ha=>?_) λi fu hi _=>⟨vq i _ hi (by simp),hi⟩
             rw[cK,bI (λe=>hr.2 k (by rw[<-e];exact ha))]
            .rw[cK,bI (λe=>by subst e;rw[M0.free a ha]at bc;cases bc)];exact M0.free a ha
           have F1:FR J I0 (H.put id0 (.cells rcs2 {m2 with tip:=aj})) (oX S s) A:=F0.keep kp (.refl H J) λi t hi _=>⟨vq i _ hi (by simp),hi⟩
           obtain⟨I',k1,k2,k3,k4,k5,k6⟩:=FV (m:={m2 with lim:=l.length}) M1 F1 (by rw[cK,bI (Ne.symm hii)];exact hf) hlt hz1 (λe he=>(oa.1 he).elim (ph e) (hxe e)) (hrl.keep kp (.refl H J)) (hvals.keep kp (.refl H J)) ln ht gn hg (by exact bf) (es.length+xs.length+1) bi
           refine⟨_,_,I',kt,k1,k2,k3,λ_=>k4,?_,GoOut.trans g0.out k6 (λa ha=>kp.dom a ha),rfl⟩
           have kp':Keep J I0 H (H.put id0 (.cells rcs2 {m2 with tip:=aj})):=kp.weak λa ha=>by
            show(if a=id0 then ae else aa K.out)=aa K.out
            exact vq a _ ha (by simp)
           have:=Keep.trans (I:=I0) kp' (.refl H J) (k5.weak (I:=I0) λ_ _=>rfl) (.refl H I0)
           exact this.weak λa ha=>(g0 a).1 ha
    .cases h
   .cases h
  .cases h
 .cases h
end
end Go.PI
namespace Go.AI
section
variable{P:az}{Y:Mp}
def EJ(t:aw):cU P (typeInfo t)=P.info? t:=by
 unfold typeInfo;simp only[bind,Sem.bind,program,cU];cases P.info? t<;>rfl
def cC(t:aw):cU P (underlying t)=P.underlying t:=by
 unfold underlying;simp only[bind,Sem.bind,program,cU];cases P.underlying t<;>rfl
def dY(t:aw):cU P (Go.sizeOf t)=iN P t:=by
 unfold Go.sizeOf iN;rw[bT,EJ];cases P.info? t<;>rfl
def wJ(t:aw):cU P (isAgg t)=mB P t:=by
 unfold isAgg mB;rw[bT,cC];cases h:P.underlying t with
 |none=>rfl
 |some d=>cases d<;>rfl
def nX{s:Sem av}{v:av}(h:dU P s=aa v): ∃v',cU P s=aa v'/\VR Y v v':=by
 unfold dU at h;split at h<;>try cases h
 rename_i u hu;cases hp:dP u with
 |false=>simp[hp]at h
 |true=>simp only[hp,aI,aA]at h;subst h;exact⟨u,hu,.same1 hp⟩
def VRL.extract{xs us:Array av}(r:VRL Y xs.toList us.toList)(i j:Nat):VRL Y (xs.extract i j).toList (us.extract i j).toList:=by
 simp only[Array.toList_extract,List.extract_eq_take_drop];exact(r.drop i).take (j-i)
def VRL.size{xs us:Array av}(r:VRL Y xs.toList us.toList):xs.size=us.size:=by simpa using r.1
def Sz{t:aw}{cs us:Array av}{off:Nat}{v:av}(r:VRL Y cs.toList us.toList)(h:Ck P t cs off=aa v): ∃v',cU P (part t us off)=aa v'/\VR Y v v':=by
 unfold Ck at h;unfold part;rw[bT,wJ];cases ha:mB P t with
 |none=>simp[ha]at h
 |some b=>
  cases b with
  |true=>
   simp only[ha]at h;cases hs:iN P t with
   |none=>simp[hs]at h
   |some n=>
    simp only[hs,aA]at h;subst h;refine⟨.agg (us.extract off (off+n)),?_,.mkAgg' (r.extract _ _)⟩;simp only[aL,bQ,bT,dY,hs,cB]
  |false=>
   simp only[ha]at h;obtain⟨u,hu,hr⟩:=r.get (i:=off) (x:=v) (by simpa using h)
   refine⟨u,?_,hr⟩;have:us[off]?=aa u:=by simpa using hu
   simp[this,cB]
def aDq(place:Nat): ∀(c c':au av) (k:Nat) (A A':Array av),VRL Y c c'->VRL Y A.toList A'.toList->
    VRL Y ((c.zipIdx k).foldl (λ(cs:Array av) x=>cs.setIfInBounds (place+x.2) x.1) A).toList ((c'.zipIdx k).foldl (λ(cs:Array av) x=>cs.setIfInBounds (place+x.2) x.1) A').toList:=by
 intro c;induction c with
 |nil=>intro c' k A A' hc hA;rw[hc.nil_inv];simpa using hA
 |cons x c ih=>
  intro c' k A A' hc hA;obtain⟨u,c'',rfl,hx,nj⟩:=hc.cons_inv;simp only[List.zipIdx_cons,List.foldl_cons];refine ih _ _ _ _ nj ?_;simp only[Array.toList_setIfInBounds];exact hA.set hx _
def PR(Y:Mp):au (Nat×av)->au (Nat×av)->Prop
 |[],[]=>True
 |(i,x)::xs,(j,u)::us=>i=j/\VR Y x u/\PR Y xs us
 |_,_=>False
def Mi(place:Nat->f9 (Nat×Nat)): ∀(ps qs:au (Nat×av)) (A A':Array av) (r:Array av),PR Y ps qs->VRL Y A.toList A'.toList->Instr.fill place A ps=aa r->
    ∃r',Instr.fill place A' qs=aa r'/\VRL Y r.toList r'.toList:=by
 intro ps;induction ps with
 |nil=>
  intro qs A A' r hp hA h;cases qs with
  |nil=>simp only[Instr.fill,aA]at h;subst h;exact⟨A',rfl,hA⟩
  |cons q qs=>exact hp.elim
 |cons p ps ih=>
  intro qs A A' r hp hA h;obtain⟨i,x⟩:=p;cases qs with
  |nil=>exact hp.elim
  |cons q qs=>
   obtain⟨j,u⟩:=q;obtain⟨rfl,hx,qk⟩:=hp;have bu:u.cells.size=x.cells.size:=(hx.cells.size).symm;have hsA:A'.size=A.size:=hA.size.symm;simp only[Instr.fill]at h⊢;cases dm:place i with
   |none=>simp[dm]at h
   |some os=>
    obtain⟨off,size⟩:=os;simp only[dm]at h⊢;rw[bu,hsA];split at h
    .cases h
    .rename_i hn;rw[bI hn];refine ih _ _ _ _ qk ?_ h;have:=aDq (Y:=Y) off x.cells.toList u.cells.toList 0 A A' hx.cells hA;rw[<-Array.foldl_toList,<-Array.foldl_toList,Array.toList_zipIdx,Array.toList_zipIdx];exact this
def aKR{Z Z':a8->av}(l:au (Nat×a8))(h: ∀x∈l,VR Y (Z x.2) (Z' x.2)):PR Y (l.map λ(i,x)=>(i,Z x)) (l.map λ(i,x)=>(i,Z' x)):=by
 induction l with
 |nil=>trivial
 |cons x l ih=>exact⟨rfl,h x (by simp),ih λy hy=>h y (by simp[hy])⟩
def En{Z Z':a8->av}(l:au a8)(h: ∀x∈l,VR Y (Z x) (Z' x)):VRL Y (l.map Z) (l.map Z'):=by
 induction l with
 |nil=>exact .nil
 |cons x l ih=>exact .cons (h x (by simp)) (ih λy hy=>h y (by simp[hy]))
def aDR{t:aw}{ps qs:Array (Nat×av)}{v:av}(r:PR Y ps.toList qs.toList)(h:Be P t ps=aa v): ∃v',cU P (Instr.build t qs)=aa v'/\VR Y v v':=by
 unfold Be at h;cases hz:cU P (zeroValue t)with
 |none=>simp[hz]at h
 |some z=>
  simp only[hz]at h;cases hp:z.cells.toList.all bZ with
  |false=>simp[hp]at h
  |true=>
   simp only[hp,aI]at h;unfold Instr.build;simp only[bT,hz,aL,cC];cases hu:P.underlying t with
   |none=>simp[hu]at h
   |some d=>
    simp only[hu]at h;cases d with
    |struct fs=>
     simp only at h;cases hm:cU P (fs.mapM λf=>do pure (f.offset,<-Go.sizeOf f.type))with
     |none=>rw[hm]at h;cases h
     |some places=>
      simp only[hm,aF]at h;obtain⟨cs,hf,rfl⟩:=h;obtain⟨cq,jl,hr⟩:=Mi _ _ _ _ _ _ r (VRL.same hp) hf;refine⟨.agg cq,?_,.mkAgg' hr⟩;simp only[aL,bT,hm];rw[jl];rfl
    |array n e=>
     simp only at h;cases hs:iN P e with
     |none=>simp[hs]at h
     |some s=>
      simp only[hs,aF]at h;obtain⟨cs,hf,rfl⟩:=h;obtain⟨cq,jl,hr⟩:=Mi _ _ _ _ _ _ r (VRL.same hp) hf;refine⟨.agg cq,?_,.mkAgg' hr⟩;simp only[aL,bT,dY,hs];rw[jl];rfl
    |_=>simp at h
def kI(id off n:Nat):(Addr.mk id off ae).add n=⟨id,off+n,ae⟩:=by
 unfold Addr.add;split
 .rename_i h;subst h;rfl
 .rfl
def VR.ptr_inv{id off:Nat}{u:av}(r:VR Y (.pointer (aa ⟨id,off,ae⟩)) u): ∃p,Y id=aa p/\u= .pointer (aa ⟨p.b,p.o+off,ae⟩):=by
 cases r with
 |same _ h=>simp[bZ]at h
 |ptr _ _ p h=>exact⟨p,h,rfl⟩
def VR.slc_inv{id off len c:Nat}{u:av}(r:VR Y (.slice (aa ⟨id,off,ae⟩) len c) u):
    ∃p cap,Y id=aa p/\u= .slice (aa ⟨p.b,p.o+off,ae⟩) len cap/\(c=len->cap=len)/\len<=cap/\(p.o+off+cap*p.z<=p.e∨p.z=0):=by
 cases r with
 |same _ h=>simp[bZ]at h
 |slc _ _ _ _ cap p h hc hl he=>exact⟨p,cap,h,rfl,hc,hl,he⟩
def VR.nilslc_inv{len c:Nat}{u:av}(r:VR Y (.slice ae len c) u):len=0/\c=0/\u= .slice ae 0 0:=by
 cases r with
 |same _ h=>simp only[bZ,dZ,aC,aD]at h;obtain⟨rfl,rfl⟩:=h;exact⟨rfl,rfl,rfl⟩
def VR.int_inv{k:IntKind}{n:Int}{u:av}(r:VR Y (.int k n) u):u= .int k n:=r.eq0 rfl
def VR.bool_inv{b:Bool}{u:av}(r:VR Y (.bool b) u):u= .bool b:=r.eq0 rfl
def VR.string_inv{s:ByteArray}{u:av}(r:VR Y (.string s) u):u= .string s:=r.eq0 rfl
def IT{s:aw}{a b v:av}{f:Nat}(r:VR Y a b)(h:gZ P s a f=aa v): ∃v',cU P (Instr.fieldAt s b f)=aa v'/\VR Y v v':=by
 unfold gZ at h;unfold Instr.fieldAt;rw[bT,cC];split at h<;>try cases h
 rename_i fs hu;split at h<;>try cases h
 rename_i fd hf;split at h<;>try cases h
 rename_i n hn;split at h<;>try cases h
 rename_i id off;obtain⟨p,hp,rfl⟩:=r.ptr_inv;rw[dZ,Bool.cond_decide]at h;split at h
 .cases h
 .rename_i hn0;cases h;refine⟨.pointer (aa ⟨p.b,p.o+(off+fd.offset),ae⟩),?_,.ptr _ _ p hp⟩;simp only[hu,aL,hf,Instr.sureAddr,bT,cB,fieldPlace,dY,hn,bI hn0,kI,Nat.add_assoc]
def aDN{t:aw}{a b v:av}{f:Nat}(r:VR Y a b)(h:GJ P t a f=aa v): ∃v',cU P (Instr.field t b f)=aa v'/\VR Y v v':=by
 unfold GJ at h;unfold Instr.field;rw[bT,cC];split at h<;>try cases h
 rename_i fs hu;split at h<;>try cases h
 rename_i fd hf;split at h<;>try cases h
 obtain⟨us,rfl,hl⟩:=r.agg_inv;obtain⟨v',hv,hr⟩:=Sz hl h;refine⟨v',?_,hr⟩;simp only[hu,aL,hf,asAgg,bT,cB,hv]
def xO{i:Int}{n:Nat}:dJ i n=ah↔0<=i/\i<(n:Int):=by simp[dJ]
def IS{t:aw}{a b i j v:av}(r:VR Y a b)(ri:VR Y i j)(h:kH P t a i=aa v): ∃v',cU P (Instr.indexAt t b j)=aa v'/\VR Y v v':=by
 unfold kH at h;unfold Instr.indexAt;split at h<;>try cases h
 rename_i k n;obtain rfl:=ri.int_inv;rw[bT];simp only[asIntOf,cB,aL];rw[bT,cC];split at h<;>try cases h
 .rename_i e hu;split at h<;>try cases h
  rename_i id off len c;obtain⟨p,cap,hp,rfl,_⟩:=r.slc_inv;split at h<;>try cases h
  rename_i z hz;cases hin:dJ n len with
  |false=>simp[hin]at h
  |true=>
   simp only[hin,aI,aA]at h;subst h;rw[xO]at hin;refine⟨.pointer (aa ⟨p.b,p.o+(off+n.toNat*z),ae⟩),?_,.ptr _ _ p hp⟩;simp only[hu,aL,bT,cB,cC,bJ hin,dY,hz,kI,Nat.add_assoc]
 .rename_i len e hu;split at h<;>try cases h
  rename_i id off;obtain⟨p,hp,rfl⟩:=r.ptr_inv;split at h<;>try cases h
  rename_i z hz;cases hin:dJ n len with
  |false=>simp[hin]at h
  |true=>
   simp only[hin,aI,aA]at h;subst h;rw[xO]at hin;refine⟨.pointer (aa ⟨p.b,p.o+(off+n.toNat*z),ae⟩),?_,.ptr _ _ p hp⟩;simp only[hu,aL,bT,cB,cC,bJ hin,dY,hz,kI,Nat.add_assoc,Instr.sureAddr]
def aDL{t:aw}{a b i j v:av}(r:VR Y a b)(ri:VR Y i j)(h:GI P t a i=aa v): ∃v',cU P (Instr.index t b j)=aa v'/\VR Y v v':=by
 unfold GI at h;split at h<;>try cases h
 .rename_i hu;cases hp:(bZ a&&bZ i)with
  |false=>simp[hp]at h
  |true=>
   simp only[hp,aI]at h;simp only[aC]at hp;obtain rfl:=r.eq0 hp.1;obtain rfl:=ri.eq0 hp.2;exact nX h
 .rename_i len e hu;split at h<;>try cases h
  rename_i k n cs;obtain rfl:=ri.int_inv;obtain⟨us,rfl,hl⟩:=r.agg_inv;split at h<;>try cases h
  rename_i z hz;cases hin:dJ n len with
  |false=>simp[hin]at h
  |true=>
   simp only[hin,aI]at h;rw[xO]at hin;obtain⟨v',hv,hr⟩:=Sz hl h;refine⟨v',?_,hr⟩;unfold Instr.index;simp only[asIntOf,bT,cB,aL,cC,hu,bJ hin,dY,hz,hv]
def fV{n:Int}{k:IntKind}{y:Nat}{code:BoundsCode}(h0:0<=n)(h1:n<=(y:Int)):cU P (Instr.sliceBound (.int k n) y code)=aa n.toNat:=by
 unfold Instr.sliceBound;simp only[asIntOf,bT,cB,aL];rw[bJ ⟨h0,h1⟩];rfl
def fW{a:f9 av}{l:f9 Int}(h:pN a=aa l):(a=ae/\l=ae)∨∃k n,a=aa (.int k n)/\l=aa n:=by
 unfold pN at h;split at h
 .cases h;exact .inl ⟨rfl,rfl⟩
 .rename_i k n;cases h;exact .inr ⟨k,n,rfl,rfl⟩
 .cases h
def OR(Y:Mp):f9 av->f9 av->Prop
 |none,ae=>True
 |some x,aa u=>VR Y x u
 |_,_=>False
def Xj{Z Z':a8->av}(x:f9 a8)(h: ∀y,x=aa y->VR Y (Z y) (Z' y)):OR Y (x.map Z) (x.map Z'):=by
 cases x with
 |none=>trivial
 |some y=>exact h y rfl
def OR.int{a b:f9 av}{l:f9 Int}(r:OR Y a b)(h:pN a=aa l):b=a:=by
 rcases fW h with⟨rfl,rfl⟩|⟨k,n,rfl,rfl⟩
 .cases b with
  |none=>rfl
  |some x=>exact r.elim
 .cases b with
  |none=>exact r.elim
  |some x=>rw[VR.int_inv r]
def OR.plain{a b:f9 av}(r:OR Y a b)(h:bZ (a.getD (.bool ah))=ah):b=a:=by
 cases a with
 |none=>cases b with
  |none=>rfl
  |some x=>exact r.elim
 |some y=>cases b with
  |none=>exact r.elim
  |some x=>rw[VR.eq0 r h]
def kB{lo hi mx:f9 av}{len cap:Nat}{l h m:f9 Int}(hl:pN lo=aa l)(hh:pN hi=aa h)(hm:pN mx=aa m)
    (hmh:m≠ae->h≠ae) (h0:0<=l.getD 0) (h1:l.getD 0<=h.getD (len:Int)) (h2:h.getD (len:Int)<=m.getD (cap:Int)) (h3:m.getD (cap:Int)<=(cap:Int)) (h4:len<=cap):
    cU P (Instr.sliceBounds ah len cap lo hi mx)=aa ((l.getD 0).toNat,(h.getD (len:Int)).toNat,(m.getD (cap:Int)).toNat):=by
 unfold Instr.sliceBounds;rcases fW hm with⟨rfl,rfl⟩|⟨km,nm,rfl,rfl⟩
 .rcases fW hh with⟨rfl,rfl⟩|⟨kh,nh,rfl,rfl⟩
  .rcases fW hl with⟨rfl,rfl⟩|⟨kl,nl,rfl,rfl⟩
   .simp[bT,cB]
   .simp only[Option.getD_none,od]at*;simp only[bT,cB,aL,fV h0 h1,Int.toNat_natCast]
  .rcases fW hl with⟨rfl,rfl⟩|⟨kl,nl,rfl,rfl⟩
   .simp only[Option.getD_none,od]at*;simp only[bT,cB,aL,fV (show 0<=nh by omega) h2,Int.toNat_natCast,Int.toNat_zero]
   .simp only[Option.getD_none,od]at*;simp only[bT,cB,aL,fV (show 0<=nh by omega) h2,Int.toNat_natCast]
    rw[fV h0 (by omega)];rfl
 .rcases fW hh with⟨rfl,rfl⟩|⟨kh,nh,rfl,rfl⟩
  .exact absurd rfl (hmh (by simp))
  .rcases fW hl with⟨rfl,rfl⟩|⟨kl,nl,rfl,rfl⟩
   .simp only[Option.getD_none,od]at*;simp only[bT,cB,aL,fV (show 0<=nm by omega) h3,Int.toNat_zero]
    rw[fV (show 0<=nh by omega) (by omega)];rfl
   .simp only[Option.getD_none,od]at*;simp only[bT,cB,aL,fV (show 0<=nm by omega) h3]
    rw[fV (show 0<=nh by omega) (by omega)]
    simp only[aL];rw[fV h0 (by omega)];rfl
def aDF{H:St}{t:aw}{a b v:av}{lo hi mx mq kn mx':f9 av}(hZ: ∀id p z,Y id=aa p->rU H id z=ah->p.z=z)
    (r:VR Y a b) (rl:OR Y lo mq) (rh:OR Y hi kn) (rm:OR Y mx mx') (h:yG P H t a lo hi mx=aa v):
    ∃v',cU P (Instr.sliceAt t b mq kn mx')=aa v'/\VR Y v v':=by
 unfold yG at h;split at h<;>try cases h
 .rename_i hu;split at h<;>try cases h
  rename_i s;obtain rfl:=r.string_inv;cases hp:(mx.isNone&&bZ (lo.getD (.bool ah))&&bZ (hi.getD (.bool ah)))with
  |false=>simp[hp]at h
  |true=>
   simp only[hp,aI]at h;simp only[aC]at hp;obtain rfl:=rl.plain hp.1.2;obtain rfl:=rh.plain hp.2;have:mx=ae:=by simpa using hp.1.1
   subst this;obtain rfl:mx'=ae:=by cases mx' with|none=>rfl|some x=>exact rm.elim
   exact nX h
 .rename_i e hu;split at h<;>try cases h
  rename_i base len c;split at h<;>try cases h
  rename_i z l hh m hz hl ko hm;obtain rfl:=rl.int hl;obtain rfl:=rh.int ko;obtain rfl:=rm.int hm;simp only at h;cases hb:(ak (0<=l.getD 0)&&ak (l.getD 0<=hh.getD (len:Int))&&ak (hh.getD (len:Int)<=(len:Int)))with
  |false=>rw[hb]at h;cases h
  |true=>
   rw[hb]at h;simp only[aC,aD]at hb;obtain⟨⟨h0,h1⟩,h2⟩:=hb;simp only[aI]at h;have hS: ∀x,cU P (Instr.sliceAt t x mq kn mx')=cU P (Instr.slice t x mq kn mx'):=by
    intro x;unfold Instr.sliceAt;rw[bT,cC,hu];rfl
   rw[hS];by_cases hz0:(ao len 0&&CL m&&hh.isSome)=ah
   .rw[hz0,aI]at h;simp only[aA]at h;subst h;simp only[aC]at hz0;obtain⟨⟨hz1,hz2⟩,hz3⟩:=hz0;have hl0:=aE hz1;subst hl0;have hm0:m=aa 0:=by
     cases m with
     |none=>cases hz2
     |some n=>simp only[CL,aD]at hz2;rw[hz2]
    subst hm0;have hn:hh≠ae:=by intro e;subst e;cases hz3
    have e1:(l.getD 0).toNat=0:=by simp only[Int.natCast_zero]at h2 h1;omega
    have e2:(hh.getD ((0:Nat):Int)).toNat=0:=by simp only[Int.natCast_zero]at h2 h1⊢;omega
    have hB:=λcap=>kB (P:=P) (len:=0) (cap:=cap) hl ko hm (λ_=>hn) h0 h1 (by simp only[Int.natCast_zero,od]at h2⊢;omega) (by simp) (b7 _)
    cases base with
    |none=>
     obtain⟨_,rfl,rfl⟩:=r.nilslc_inv;refine⟨.slice ae 0 0,?_,.same _ rfl⟩;unfold Instr.slice;rw[bT,cC,hu];simp only[aL];rw[bT,hB 0];simp only[aL,bT,dY,hz,e1,e2,od,Int.toNat_zero,bQ,Nat.sub_self,cB]
    |some a=>
     obtain⟨a',cap,rfl⟩: ∃a' cap,b= .slice (aa a') 0 cap:=by
      cases r with
      |same _ hp=>simp[bZ]at hp
      |slc=>exact⟨_,_,rfl⟩
      |emp=>exact⟨_,_,rfl⟩
     refine⟨.slice (aa a') 0 0,?_,.emp _ 1 0 λ_=>rfl⟩
     unfold Instr.slice;rw[bT,cC,hu];simp only[aL];rw[bT,hB cap];simp only[aL,bT,dY,hz,e1,e2,od,Int.toNat_zero,bQ,Nat.sub_self,cB]
   rw[Bool.not_eq_true]at hz0;rw[hz0,aJ]at h;have hzero: ∀a' cap,len=0->mx'=ae->cU P (Instr.slice t (.slice (aa a') len cap) mq kn mx')=aa (.slice (aa a') len cap):=by
    rintro a' cap rfl rfl;unfold Instr.slice;rw[bT,cC,hu];simp only[aL];rcases fW hm with⟨_,rfl⟩|⟨_,_,e,_⟩
    .have hB:=kB (P:=P) (len:=0) (cap:=cap) hl ko hm (by simp) h0 h1 (by simp only[Option.getD_none,Int.natCast_zero]at h2⊢;omega) (by simp) (b7 _)
     simp only[Option.getD_none]at hB;rw[bT,hB];have e1:(l.getD 0).toNat=0:=by simp only[Int.natCast_zero]at h2 h1;omega
     have e2:(hh.getD ((0:Nat):Int)).toNat=0:=by simp only[Int.natCast_zero]at h2 h1⊢;omega
     simp only[aL,bT,dY,hz,e1,e2,Int.toNat_natCast,Nat.sub_self,Nat.sub_zero,cB,Nat.zero_mul];split
     .rfl
     .simp only[aK,Addr.add,bQ]
    .cases e
   by_cases hsp: ∃x y s,base=aa ⟨x,y,aa s⟩
   .obtain⟨x,y,s,rfl⟩:=hsp;simp only at h;cases hc0:(ao len 0&&mx'.isNone)with
    |false=>rw[hc0]at h;cases h
    |true=>
     rw[hc0]at h;simp only[aI,aA]at h;subst h;simp only[aC]at hc0;have hl0:=aE hc0.1;have sd:mx'=ae:=by simpa using hc0.2
     cases r with
     |same _ hp=>simp[bZ]at hp
     |emp a' _ cap hs=>exact⟨_,hzero a' cap rfl sd,.emp a' _ cap hs⟩
   by_cases hrz0: ∃id off,base=aa ⟨id,off,ae⟩/\rU H id z=aj
   .obtain⟨id,off,rfl,mw⟩:=hrz0;simp only[mw,aJ]at h;cases hc0:(ao len 0&&mx'.isNone)with
    |false=>rw[hc0]at h;cases h
    |true=>
     rw[hc0]at h;simp only[aI,aA]at h;subst h;simp only[aC]at hc0;have hl0:=aE hc0.1;have sd:mx'=ae:=by simpa using hc0.2
     obtain⟨p,cap,hp,rfl,hc,hlc,he⟩:=r.slc_inv;exact⟨_,hzero _ cap hl0 sd,r⟩
   unfold Instr.slice;rw[bT,cC,hu];simp only[aL];split at h
   ·
    obtain⟨rfl,rfl,rfl⟩:=r.nilslc_inv;cases hmx:mx'.isNone with
    |false=>simp[hmx]at h
    |true=>
     simp only[hmx,aI,aA]at h;subst h;have:mx'=ae:=by simpa using hmx
     subst this;rcases fW hm with⟨_,rfl⟩|⟨_,_,e,_⟩
     .have hB:=kB (P:=P) (len:=0) (cap:=0) hl ko hm (by simp) h0 h1 (by simpa using h2) (by simp) (aS _)
      refine⟨.slice ae 0 0,?_,.same _ rfl⟩;simp only[Option.getD_none]at hB;rw[bT,hB];have e1:(l.getD 0).toNat=0:=by simp only[Int.natCast_zero]at h2 h1;omega
      have e2:(hh.getD ((0:Nat):Int)).toNat=0:=by simp only[Int.natCast_zero]at h2 h1⊢;omega
      simp only[aL,bT,dY,hz,e1,e2,Int.toNat_natCast,bQ,Nat.sub_self,cB]
     .cases e
   .rename_i id off;obtain⟨p,cap,hp,rfl,hc,hlc,he⟩:=r.slc_inv;cases mw:rU H id z with
    |false=>exact absurd ⟨id,off,rfl,mw⟩ hrz0
    |true=>
    rw[mw]at h;simp only[aI]at h;have vf:=hZ id p z hp mw;generalize hL:(l.getD 0).toNat=L at*;generalize hH:(hh.getD (len:Int)).toNat=σ at*;have hLH:L<=σ:=by omega
    have hHl:σ<=len:=by omega
    have hmul:p.o+(off+L*z)+(cap-L)*p.z<=p.e∨p.z=0:=by
     refine he.imp (λhe=>?_) _root_.id
     have:(cap-L)*p.z=cap*p.z-L*p.z:=Nat.sub_mul _ _ _;have h':L*p.z<=cap*p.z:=Nat.mul_le_mul_right _ (by omega)
     rw[<-vf];omega
    split at h
    ·
     rename_i sd;rcases fW hm with⟨rfl,_⟩|⟨_,_,_,e⟩
     .have hB:=kB (P:=P) (len:=len) (cap:=cap) hl ko hm (by simp) h0 h1 (by simp;omega) (by simp) hlc
      simp only[Option.getD_none,Int.toNat_natCast,hL,hH]at hB;simp only;rw[bT,hB];simp only[aL,bT,dY,hz,cB];refine⟨_,rfl,?_⟩;simp only[dZ,Bool.cond_decide,<-Bool.decide_and]at h;split at h
      .rename_i cy;obtain⟨cy,qq⟩:=cy;have gi:=hc cy;subst gi;split at h
       .rename_i hll;cases h;rw[bJ hll.symm,qq,hll,Nat.sub_self];exact .slc id off 0 0 0 p hp (λ_=>rfl) (aS _) (he.imp (λhe=>by simp;have:=b7 (cap*p.z);omega) _root_.id)
       .rename_i hll;cases h;rw[bI (by omega),qq]
        simp only[aK,kI,Nat.add_assoc];exact .slc id (off+L*z) (cap-L) (cap-L) (cap-L) p hp (λ_=>rfl) (aS _) hmul
      .split at h
       .rename_i cy qq;cases h;obtain⟨qq,hl0⟩:=qq;have: ¬cap=L∨cap=0:=by omega
        subst qq;subst hl0;have e3:(if cap=0 then aa (Addr.mk p.b (p.o+off) ae)else Option.map (λx=>x.add (0*z)) (aa (Addr.mk p.b (p.o+off) ae)))=aa (Addr.mk p.b (p.o+off) ae):=by
         split
         .rfl
         .simp[kI]
        rw[e3];exact .slc id off _ c cap p hp hc hlc he
       .split at h
        .rename_i hll;cases h;rw[bI (by omega)]
         simp only[aK,kI,Nat.add_assoc];exact .slc id (off+L*z) (σ-L) (σ-L+1) (cap-L) p hp (λe=>by omega) (by omega) hmul
        .cases h;rw[show σ-L=0 by omega]
         split
         .exact .emp _ 0 _ (λh=>by cases h)
         .simp only[aK];exact .emp _ 0 _ (λh=>by cases h)
     .cases e
    .rename_i m';rcases fW hm with⟨_,e⟩|⟨km,nm,rfl,e⟩
     .cases e
     .cases e;cases hd:(ak (hh.getD (len:Int)=m')&&ak (l.getD 0<m')&&hh.isSome)with
      |false=>rw[hd]at h;cases h
      |true=>
       rw[hd]at h;simp only[aC,aD]at hd;obtain⟨⟨hd1,hd2⟩,hd3⟩:=hd;simp only[aI,aA]at h;subst h;have hn:hh≠ae:=by intro e;subst e;cases hd3
       have hB:=kB (P:=P) (len:=len) (cap:=cap) hl ko hm (λ_=>hn) h0 h1 (by simp;omega) (by simp;omega) hlc
       simp only[od,hL,hH]at hB;simp only;rw[bT,hB];simp only[aL,bT,dY,hz,cB];refine⟨_,rfl,?_⟩;have si:m'.toNat=σ:=by omega
       rw[si,bI (by omega)]
       simp only[aK,kI,Nat.add_assoc];have hm2:p.o+(off+L*z)+(σ-L)*p.z<=p.e∨p.z=0:=by
        refine hmul.imp (λhmul=>?_) _root_.id
        have:(σ-L)*p.z<=(cap-L)*p.z:=Nat.mul_le_mul_right _ (by omega)
        omega
       exact .slc id (off+L*z) (σ-L) (σ-L) (σ-L) p hp (λ_=>rfl) (aS _) hm2
   .exact absurd ⟨_,_,_,rfl⟩ hsp
 .rename_i n e hu;split at h<;>try cases h
  rename_i id off z hz;cases hr:rU H id 0 with
  |false=>rw[hr]at h;cases h
  |true=>
   rw[hr,aI,aA]at h;subst h;obtain⟨p,hp,rfl⟩:=r.ptr_inv;obtain rfl:mq=ae:=by cases mq with|none=>rfl|some x=>exact rl.elim
   obtain rfl:kn=ae:=by cases kn with|none=>rfl|some x=>exact rh.elim
   obtain rfl:mx'=ae:=by cases mx' with|none=>rfl|some x=>exact rm.elim
   refine⟨.slice (aa ⟨p.b,p.o+off,ae⟩) n n,?_,.slc id off n n n p hp (λ_=>rfl) (aS _) (.inr (hZ id p 0 hp hr))⟩
   unfold Instr.sliceAt Instr.sliceBounds;rw[bT,cC,hu];simp[-bind_pure_comp,bT,cB,dY,hz,Instr.sureAddr,kI]
def aRb{t:aw}{a b v:av}{ts:Array aw}{ty:aw}{us:Array av}(r:VR Y a b)(ht:ts[0]?=aa t)(hb:us[0]?=aa b)(h:VD P t a=aa v):
    ∃v',cU P (Builtin.len_ ts ty us)=aa v'/\VR Y v v':=by
 unfold VD at h;unfold Builtin.len_;simp only[ht,hb];rw[bT,cC];split at h<;>try cases h
 .rename_i e hu;split at h<;>try cases h
  rename_i base n c;have: ∃tf cap,b= .slice tf n cap:=by
   cases base with
   |none=>obtain⟨rfl,rfl,rfl⟩:=r.nilslc_inv;exact⟨ae,0,rfl⟩
   |some a=>
    cases r with
    |same _ h=>simp[bZ]at h
    |slc id off len c cap p h hc hl he=>exact⟨_,_,rfl⟩
    |emp a s cap h=>exact⟨_,_,rfl⟩
  obtain⟨tf,cap,rfl⟩:=this;exact⟨goInt n,by simp[hu,cB],.same _ rfl⟩
 .rename_i hu;split at h<;>try cases h
  rename_i s;obtain rfl:=r.string_inv;exact⟨goInt s.size,by simp[hu,cB],.same _ rfl⟩
 .rename_i n e hu;exact⟨goInt n,by simp[hu,cB],.same _ rfl⟩
def Mo{t e:aw}(ht:P.underlying t=aa (.slice e))(a:Addr)(l c l' c':Nat):cU P (Op.equal t (.slice (aa a) l c) (.slice ae l' c'))=aa aj:=by
 unfold Op.equal;rw[show Op.maxDepth=Nat.succ 9999 from rfl,Op.equalIn.eq_2,bT,cC,ht];rfl
def Mq{t e:aw}(ht:P.underlying t=aa (.slice e))(a:Addr)(l c l' c':Nat):cU P (Op.equal t (.slice ae l' c') (.slice (aa a) l c))=aa aj:=by
 unfold Op.equal;rw[show Op.maxDepth=Nat.succ 9999 from rfl,Op.equalIn.eq_2,bT,cC,ht];rfl
def aQ9{op:BinOp}{t:aw}{a b c d v:av}{x y:a8}(r:VR Y a b)(s:VR Y c d)(ht: ∃e,P.underlying t=aa (.slice e))(h:aIY op a c=aa v):
    ∃v',cU P (do eqGuard op t x y b d;binOp op t b d)=aa v'/\VR Y v v':=by
 obtain⟨e,ht⟩:=ht;unfold aIY at h;simp only at h;split at h
 .rename_i a0 l c l' c';obtain⟨rfl,rfl,rfl⟩:=s.nilslc_inv;have: ∃a1 l1 c1,b= .slice (aa a1) l1 c1:=by
   cases r with
   |same _ h=>simp[bZ]at h
   |slc id off len c cap p h hc hl he=>exact⟨_,_,_,rfl⟩
   |emp a s cap h=>exact⟨_,_,_,rfl⟩
  obtain⟨a1,l1,c1,rfl⟩:=this;cases op<;>simp only at h<;>first
   |(cases h;refine⟨_,?_,.same _ rfl⟩;simp only[bT,eqGuard,bE,Bool.false_eq_true,bP,cB,aL,binOp,Mo ht];done)
   |cases h
 .rename_i l c a0 l' c';obtain⟨rfl,rfl,rfl⟩:=r.nilslc_inv;have: ∃a1 l1 c1,d= .slice (aa a1) l1 c1:=by
   cases s with
   |same _ h=>simp[bZ]at h
   |slc id off len c cap p h hc hl he=>exact⟨_,_,_,rfl⟩
   |emp a s cap h=>exact⟨_,_,_,rfl⟩
  obtain⟨a1,l1,c1,rfl⟩:=this;cases op<;>simp only at h<;>first
   |(cases h;refine⟨_,?_,.same _ rfl⟩;simp only[bT,eqGuard,bE,Bool.false_eq_true,bP,cB,aL,binOp,Mq ht];done)
   |cases h
 .cases h
def jL(c:Call): ∀x∈c.args.toList,x∈(Op.call c).operands:=by
 intro x hx;simp only[Op.operands,Call.operands];exact Array.mem_append.2 (.inr (Array.mem_toList_iff.1 hx))
def Cj{Z Z':a8->av}{o:Oper}{v:av}(hρ: ∀x∈o.op.operands,VR Y (Z x) (Z' x))(h:gN P Z o=aa v):
    ∃v',cU P (execOp Z' o)=aa (.value v')/\VR Y v v':=by
 have fin: ∀{s:Sem av},(∃v',cU P s=aa v'/\VR Y v v')->∃v',cU P (do pure (Next.value (<-s)))=aa (.value v')/\VR Y v v':=by
  rintro s ⟨v',h1,h2⟩;exact⟨v',by rw[bT,h1];rfl,h2⟩
 unfold gN at h;unfold execOp;cases ho:o.op<;>simp only[ho]at h hρ⊢ <;>try cases h
 case move x=>exact⟨_,rfl,hρ x (by simp[Op.operands])⟩
 case assign x=>exact⟨_,rfl,hρ x (by simp[Op.operands])⟩
 case pick c a b=>
  have hc:=hρ c (by simp[Op.operands])
  split at h<;>try cases h
  .rename_i hb;rw[hb]at hc;rw[hc.bool_inv];exact⟨_,rfl,hρ a (by simp[Op.operands])⟩
  .rename_i hb;rw[hb]at hc;rw[hc.bool_inv];exact⟨_,rfl,hρ b (by simp[Op.operands])⟩
 case build t parts=>
  refine fin (aDR ?_ h);simpa using aKR parts.toList (λx hx=>hρ x.2 (by simp[Op.operands];exact⟨_,Array.mem_toList_iff.1 hx⟩))
 case nilCheck x=>
  have hx:=hρ x (by simp[Op.operands])
  split at h<;>try cases h
  rename_i a ha;rw[ha]at hx;generalize Z' x=u at hx⊢;cases hx with
  |same _ h=>simp[bZ]at h
  |ptr id off p hp=>exact⟨_,rfl,.ptr id off p hp⟩
 case binOp op t x y yt=>
  have hx:=hρ x (by simp[Op.operands])
  have hy:=hρ y (by simp[Op.operands])
  cases hp:(dP (Z x)&&dP (Z y))with
  |true=>
   simp only[hp,aI]at h;simp only[aC]at hp;rw[hx.eq1 hp.1,hy.eq1 hp.2];exact fin (nX h)
  |false=>
   simp only[hp,aJ]at h;split at h<;>try cases h
   rename_i e hu;exact fin (aQ9 hx hy ⟨e,hu⟩ h)
 case unOp op t x=>
  have hx:=hρ x (by simp[Op.operands])
  cases hp:bZ (Z x)with
  |true=>simp only[hp,aI]at h;rw[hx.eq0 hp];exact fin (nX h)
  |false=>simp[hp]at h
 case convert s d x=>
  have hx:=hρ x (by simp[Op.operands])
  cases hp:bZ (Z x)with
  |true=>simp only[hp,aI]at h;rw[hx.eq0 hp];exact fin (nX h)
  |false=>simp[hp]at h
 case makeFunc fn first captured=>
  refine⟨.func fn (first.map Z') (captured.map Z'),rfl,?_⟩
  have h1:=En (Y:=Y) (Z:=Z) (Z':=Z') first.toList (λx hx=>hρ x (by simp[Op.operands];exact .inl (Array.mem_toList_iff.1 hx)))
  have h2:=En (Y:=Y) (Z:=Z) (Z':=Z') captured.toList (λx hx=>hρ x (by simp[Op.operands];exact .inr (Array.mem_toList_iff.1 hx)))
  exact .fn fn _ _ _ _ (by simp) (by simpa using h1.2) (by simp) (by simpa using h2.2)
 case fieldAddr s x f=>exact fin (IT (hρ x (by simp[Op.operands])) h)
 case field t x f=>exact fin (aDN (hρ x (by simp[Op.operands])) h)
 case indexAddr t x i=>exact fin (IS (hρ x (by simp[Op.operands])) (hρ i (by simp[Op.operands])) h)
 case index t x i=>exact fin (aDL (hρ x (by simp[Op.operands])) (hρ i (by simp[Op.operands])) h)
 case extract t i=>
  have hx:=hρ t (by simp[Op.operands])
  split at h<;>try cases h
  rename_i vs kg;rw[kg]at hx;obtain⟨us,he,hl⟩:=hx.tuple_inv;rw[he];obtain⟨u,hu,hr⟩:=hl.get (i:=i) (x:=v) (by simpa using h)
  refine fin ⟨u,?_,hr⟩;have:us[i]?=aa u:=by simpa using hu
  simp[Instr.extract,this,cB]
 case call c=>
  unfold qA at h;have hargs:=En (Y:=Y) (Z:=Z) (Z':=Z') c.args.toList (λx hx=>hρ x (jL c x hx))
  split at h<;>try cases h
  .rename_i hc;split at h<;>try cases h
   rename_i t x ht hx;have lg:c.args.toList[0]?=aa x:=by simpa using hx
   obtain⟨v',h1,h2⟩:=aRb (P:=P) (ts:=c.argTypes) (ty:=o.type) (us:=c.args.map Z') (hρ x (jL c x (ef lg))) ht (by simp[hx]) h
   refine⟨v',?_,h2⟩;simp only[resolve,hc,bT,cB,aL,invoke,builtin,h1]
  .rename_i hc;cases hp:(c.args.map Z).toList.all bZ with
   |false=>rw[hp]at h;cases h
   |true=>
    simp only[hp,aI]at h;have e:c.args.map Z'=c.args.map Z:=by
     apply Array.toList_inj.1;simpa using hargs.eq0 (by simpa using hp)
    obtain⟨v',h1,h2⟩:=nX (Y:=Y) h;refine⟨v',?_,h2⟩;simp only[resolve,hc,bT,cB,aL,invoke,builtin,e,h1]
  .rename_i hc;cases hp:(c.args.map Z).toList.all bZ with
   |false=>rw[hp]at h;cases h
   |true=>
    simp only[hp,aI]at h;have e:c.args.map Z'=c.args.map Z:=by
     apply Array.toList_inj.1;simpa using hargs.eq0 (by simpa using hp)
    obtain⟨v',h1,h2⟩:=nX (Y:=Y) h;refine⟨v',?_,h2⟩;simp only[resolve,hc,bT,cB,aL,invoke,builtin,e,h1]
end
end Go.AI
namespace Go.PI
open Go.AI
structure Dp(p p':PSt):Prop where
 next:p.next<=p'.next
 dirty: ∀id,id∈p.dirty->id∈p'.dirty
 wr: ∀id,id∈p.wr->id∈p'.wr
 mem: ∀k,k<p.next->k∉p'.dirty->p'.mem.get k=p.mem.get k
def Dp.refl(p:PSt):Dp p p:=⟨aS _,λ_ h=>h,λ_ h=>h,λ_ _ _=>rfl⟩
def Dp.trans{p p' p'':PSt}(h:Dp p p')(h':Dp p' p''):Dp p p'':=
 ⟨Nat.le_trans h.next h'.next,λid hi=>h'.dirty id (h.dirty id hi),λid hi=>h'.wr id (h.wr id hi),λk hk hd=>(h'.mem k (Nat.lt_of_lt_of_le hk h.next) hd).trans (h.mem k hk λhh=>hd (h'.dirty k hh))⟩
def oM{id:Nat}{l:au Nat}{k:Nat}:k∈HS id l↔k=id∨k∈l:=by
 unfold HS;cases h:l.contains id with
 |true=>
  simp only[aI];constructor
  .exact .inr
  .rintro(rfl|h')
   .simpa using h
   .exact h'
 |false=>simp[aJ]
def Dp.upd(p:PSt)(id:Nat)(o:lT):Dp p (p.upd id o):=
 ⟨aS _,λk hk=>oM.2 (.inr hk),λk hk=>oM.2 (.inr hk),λk _ hd=>by
  simp only[PSt.upd,Tr.get_set];rw[bI (λe=>hd (oM.2 (.inl e)))]⟩
def Dp.mark(p:PSt)(id:Nat)(o:lT):Dp p (p.mark id o):=
 ⟨aS _,λk hk=>oM.2 (.inr hk),λk hk=>hk,λk _ hd=>by
  simp only[PSt.mark,Tr.get_set];rw[bI (λe=>hd (oM.2 (.inl e)))]⟩
structure Adv(J:Nu)(I:Ga)(p:PSt)(H:St)(J':Nu)(I':Ga)(p':PSt)(H':St):Prop where
 keep:Keep J I H H'
 mon:Mon H J J'
 out:GoOut H I I'
 dp:Dp p p'
 rz: ∀a cs m,H.get a=aa (.cells cs m)->∃cq b,H'.get a=aa (.cells cq {m with tip:=b})
 bx: ∀id a,J id=aa (aa a)->id∉p'.wr->H'.get a=H.get a/\J' id=aa (aa a)
def Adv.refl(J:Nu)(I:Ga)(p:PSt)(H:St):Adv J I p H J I p H:=⟨.refl J I H,.refl H J,.refl H I,.refl p,λa cs m h=>⟨cs,m.tip,h⟩,λ_ _ h _=>⟨rfl,h⟩⟩
def Adv.trans{J J' J'':Nu}{I I' I'':Ga}{p p' p'':PSt}{H H' H'':St}(h:Adv J I p H J' I' p' H')(h':Adv J' I' p' H' J'' I'' p'' H''):Adv J I p H J'' I'' p'' H'':=
 ⟨h.keep.trans h.mon h'.keep h.out,h.mon.trans h'.mon h.keep.dom,h.out.trans h'.out h.keep.dom,h.dp.trans h'.dp,λa cs m e=>by
  obtain⟨cq,b,h1⟩:=h.rz a cs m e;obtain⟨wn,b',h2⟩:=h'.rz a cq _ h1;exact⟨wn,b',h2⟩,λid a hi hd=>by
  obtain⟨e1,e2⟩:=h.bx id a hi λhh=>hd (h'.dp.wr id hh)
  obtain⟨e3,e4⟩:=h'.bx id a e2 hd;exact⟨e3.trans e1,e4⟩⟩
def Adv.g{J:Nu}{I I':Ga}{p:PSt}{H:St}(g:GoOut H I I'):Adv J I p H J I' p H:=⟨.refl J I H,.refl H J,g,.refl p,λa cs m h=>⟨cs,m.tip,h⟩,λ_ _ h _=>⟨rfl,h⟩⟩
def pX(pc:jZ)(ac:FuncId->Array av->St->f9 (av×St)):Prop:=
 ∀g args p v own p',pc g args p=aa (v,own,p')->∀(J:Nu) (I:Ga) (H:St) (us:Array av),Mem J I p H->RL J H (args.map (·.1)) us.toList->
  (∀(i:Nat) (x:PV) (w:av),args[i]?=aa (x,ah)->us.toList[i]?=aa w->Ow J I H (.slot i) x w)->
  ∃u H' J' I',ac g us H=aa (u,H')/\R J' H' v u/\(own=ah->Ow J' I' H' .hand v u)/\Mem J' I' p' H'/\Adv J I p H J' I' p' H'/\∀j,j<H.next->H.get j=ae->H'.get j=ae
section
variable{P:az}{J J':Nu}{I I1 I':Ga}{H H':St}{S:PS}{A:ia}
def Mem.some_get{p:PSt}(M:Mem J I p H){id a:Nat}(h:J id=aa (aa a)):H.get a≠ae:=by
 obtain⟨o,ho⟩:=M.live id a h;have:=M.get id o ho;cases o with
 |box cs=>obtain⟨a',us,h1,h2,_⟩:=this;rw[h]at h1;simp only[aA]at h1;subst h1;rw[h2];simp
 |row z ag cs=>obtain⟨a',us,h1,h2,_⟩:=this;rw[h]at h1;simp only[aA]at h1;subst h1;rw[h2];simp
 |map es=>exact this.elim
 |gone=>simp only[ObjR]at this;rw[h]at this;cases this
def Mem.no_tip{p:PSt}(M:Mem J I p H){id a:Nat}(h:J id=aa (aa a)){cs:au av}{m:wB}(hg:H.get a=aa (.cells cs m)):m.tip=aj:=by
 obtain⟨o,ho⟩:=M.live id a h;have:=M.get id o ho;cases o with
 |box cq=>obtain⟨a',us,h1,h2,_⟩:=this;rw[h]at h1;simp only[aA]at h1;subst h1;rw[h2]at hg;simp only[aA,AObj.cells.injEq]at hg;obtain⟨_,rfl⟩:=hg;rfl
 |row z ag cq=>obtain⟨a',us,h1,h2,_⟩:=this;rw[h]at h1;simp only[aA]at h1;subst h1;rw[h2]at hg;simp only[aA,AObj.cells.injEq]at hg;obtain⟨_,rfl⟩:=hg;rfl
 |map es=>exact this.elim
 |gone=>simp only[ObjR]at this;rw[h]at this;cases this
def aZt{id:Nat}{o:AObj}(hf:H.get id=ae): ∀a cs m,H.get a=aa (.cells cs m)->∃cq b,(H.put id o).get a=aa (.cells cq {m with tip:=b}):=
 λa cs m h=>⟨cs,m.tip,by rw[cK,bI (λe=>by rw[e,hf]at h;cases h)];exact h⟩
def BG(I:Ga):Ga:=λi=>match I i with
 |some (.cell id off)=>aa (.cell id off)
 |some (.arg i)=>aa (.slot i)
 |some _=>aa .out
 |none=>ae
def after(H:St)(I I':Ga):Ga:=λi=>match I i with
 |some (.cell _ _)=>I' i
 |some (.arg _)=>I' i
 |none=>I' i
 |some k=>if(H.get i).isNone=ah then I' i else aa k
def VF{i t:Nat}(h:I i=aa (.slot t))(hn:H.get i≠ae):after H I I' i=aa (.slot t):=by cases e:H.get i with
 |none=>exact absurd e hn
 |some o=>simp[after,h,e]
def aDM{i:Nat}(h:I i=aa .out)(hn:H.get i≠ae):after H I I' i=aa .out:=by cases e:H.get i with
 |none=>exact absurd e hn
 |some o=>simp[after,h,e]
def SC{i:Nat}{k:K}(h:I' i=aa k)(hk:k≠ .out)(hg:GoOut H (BG I) I'):after H I I' i=aa k:=by
 unfold after;split
 .exact h
 .exact h
 .exact h
 .rename_i k' bi hne2 jg;split
  .exact h
  .rename_i hn;have:BG I i=aa .out:=by
    unfold BG;rw[jg];cases k'<;>first|rfl|exact absurd rfl (bi _ _)|exact absurd rfl (hne2 _)
   rw[hg i (λe=>hn (by rw[e];rfl)) this]at h
   simp only[aA]at h;exact absurd h.symm hk
def aQN{pc:jZ}{ac:FuncId->Array av->St->f9 (av×St)}(hcall:pX pc ac){p p':PSt}(M:Mem J I p H)(F:FR J I H S A){g:Nat}{args:au (PV×Bool)}{us:Array av}(hr:RL J H (args.map (·.1)) us.toList)
    (kv: ∀(i:Nat) (x:PV) (w:av),args[i]?=aa (x,ah)->us.toList[i]?=aa w->Ow J I H (.arg i) x w) {v:PV} {own:Bool} (h:pc g args p=aa (v,own,p')):
    ∃u H' J' I',ac g us H=aa (u,H')/\R J' H' v u/\Mem J' I' p' H'/\FR J' I' H' S A/\(own=ah->Ow J' I' H' .hand v u)/\Adv J I p H J' I' p' H'/\∀j,j<H.next->H.get j=ae->H'.get j=ae:=by
 have Mc:Mem J (BG I) p H:=⟨M.le,M.lt,M.inj,M.live,λid o ho=>(M.get id o ho).g2 λi off hi=>by simp only[BG,hi],M.free,M.ver⟩
 obtain⟨u,H',J',I',h1,h2,h3,h4,h5,h6⟩:=hcall g args p v own p' h J (BG I) H us Mc hr (λi x w hx hw=>(kv i x w hx hw).weak λj hj=>by simp only[BG,hj])
 refine⟨u,H',J',after H I I',h1,h2,?_,?_,λho=>(h3 ho).weak λi hi=>SC hi (by simp) h5.out,⟨?_,h5.mon,?_,h5.dp,h5.rz,h5.bx⟩,h6⟩
 .exact⟨h4.le,h4.lt,h4.inj,h4.live,λid o ho=>(h4.get id o ho).g2 λi off hi=>SC hi (by simp) h5.out,h4.free,h4.ver⟩
 .exact F.keep h5.keep h5.mon λi t hi hn=>⟨by simp only[BG,hi],VF hi hn⟩
 .exact h5.keep.weak λa ha=>by simp only[BG,ha]
 .exact λi hn hi=>aDM hi hn
def Ra{es:au PV}{bs:au UInt8}(h:kX es=aa bs){us:au av}(r:RL J H es us): ∃ns:au Int,us=ns.map (Value.int .u8)/\bs=ns.map (λn=>UInt8.ofNat n.toNat)/\AI.bytesOf us=aa ns:=by
 induction es generalizing bs us with
 |nil=>simp only[kX,aA]at h;subst h;have:=r.nil_inv;subst this;exact⟨[],rfl,rfl,rfl⟩
 |cons x es ih=>
  unfold kX at h;split at h
  .cases ‹_::_=[]›
  .rename_i n rr e;cases e;rw[aF]at h;obtain⟨bs',h1,rfl⟩:=h;obtain⟨u,jp,rfl,hx,hr⟩:=r.cons_inv;cases hx;obtain⟨ns,rfl,rfl,h4⟩:=ih h1 hr;exact⟨n::ns,rfl,rfl,by simp only[AI.bytesOf,h4];rfl⟩
  .cases h
def IF{es:au PV}{bs:au UInt8}(h:kX es=aa bs):fM es=es:=by
 induction es generalizing bs with
 |nil=>rfl
 |cons x es ih=>
  unfold kX at h;split at h
  .cases ‹_::_=[]›
  .rename_i n rr e;cases e;rw[aF]at h;obtain⟨bs',h1,_⟩:=h;have:=ih h1;simp only[fM,aN,PV.cells]at this⊢;rw[this];rfl
  .cases h
def aDn(ns:au Int)(b:ByteArray):(ns.foldl (λr n=>r.push (UInt8.ofNat n.toNat)) b).data.toList=b.data.toList++ns.map (λn=>UInt8.ofNat n.toNat):=by
 induction ns generalizing b with
 |nil=>simp
 |cons n ns ih=>simp only[List.foldl_cons,ih,aO];simp[ByteArray.push]
def aDa{s d:aw}{x v:PV}{u:av}(r:R J H x u)(h:CC P s d x=aa v):
    ∃w,(match(bif bZ u then dU P (convert s d u)else ae)with|some y=>aa y|none=>vI P H s d u)=aa w/\R J H v w:=by
 unfold CC at h;split at h<;>try cases h
 rename_i e hs hd;split at h<;>try cases h
 rename_i he;split at h<;>try cases h
 rename_i es pq;rw[aF]at h;obtain⟨bs,hb,rfl⟩:=h;have tw: ∀ns:au Int,bs=ns.map (λn=>UInt8.ofNat n.toNat)->R J H (.str bs) (.string (ns.foldl (λr n=>r.push (UInt8.ofNat n.toNat)) ByteArray.empty)):=by
  intro ns hn;have:=R.str (J:=J) (H:=H) (ns.foldl (λr n=>r.push (UInt8.ofNat n.toNat)) ByteArray.empty)
  rw[aDn]at this;rw[hn];simpa using this
 have qm: ∃w,(match(bif bZ (.slice ae 0 0)then dU P (convert s d (.slice ae 0 0))else ae)with|some y=>aa y|none=>vI P H s d (.slice ae 0 0))=aa w/\R J H (.str []) w:=by
  refine⟨.string ByteArray.empty,?_,.str ByteArray.empty⟩;have:dU P (convert s d (.slice ae 0 0))=aa (.string ByteArray.empty):=by
   simp only[dU,convert,bT,cC,hs,hd,he,aL,Conv.bytesToString,cB];rfl
  simp only[bZ,this];rfl
 rcases tQ pq with⟨h1,rfl⟩|h1
 .simp only[kX,aA]at hb;subst hb;rcases h1 with rfl|rfl
  .cases r with
   |emp0=>exact qm
   |emp1 id off c rcs m hr=>
    refine⟨_,by simp only[bZ,aJ,vI,hs,hd,he,hr.1,B3,AI.bytesOf,aK];rfl,?_⟩
    exact tw [] rfl
   |emp2 b o s' c=>exact⟨_,by simp only[bZ,aJ,vI,hs,hd,he];rfl,tw [] rfl⟩
  .cases r;exact qm
 .subst h1;cases r with
  |sl _ _ id off c rcs m hz jd hr hm bm hh=>
   obtain⟨_,_,_,nk,m',l,k1,k2,k3,k4,k5⟩:=K4 (.sl 1 es id off c rcs m hz jd hr hm bm hh);rw[IF hb]at k5;obtain⟨ns,rfl,h2,h3⟩:=Ra hb k5;rw[Nat.mul_one]at k4;exact⟨_,by simp only[bZ,aJ,vI,hs,hd,he,k1.1,k4,h3,aK],tw ns h2⟩
def Ry{xs:au PV}{us:au av}(r:RL J H xs us):RL J H ((tF xs).map (·.1)) us/\∀(i:Nat) (x:PV),(tF xs)[i]?≠aa (x,ah):=by
 induction xs generalizing us with
 |nil=>exact⟨r,λi x h=>by simp[tF]at h⟩
 |cons x xs ih=>
  obtain⟨u,jp,rfl,hx,hr⟩:=r.cons_inv;obtain⟨h1,h2⟩:=ih hr;refine⟨.cons hx.wk h1,λi y h=>?_⟩
  cases i with
  |zero=>simp[tF]at h
  |succ i=>simp only[tF,aT]at h;exact h2 i y h
def uR(xs:au PV):(tF xs).length=xs.length:=by
 induction xs with
 |nil=>rfl
 |cons x xs ih=>simp[tF,ih]
def aHi(x:PV):LX (PI.wk x)=aj:=by
 cases x with
 |sl z es=>cases es<;>rfl
 |tup xs=>
  cases xs with
  |nil=>rfl
  |cons y ys=>
   show LX (.tup (PI.wk y::wks ys))=aj;cases y with
   |sl z es=>cases es<;>rfl
   |_=>rfl
 |_=>rfl
def aPk{x:PV}{xs:au PV}:LX (.tup (x::xs))=match x with| .sl _ []=>ah|_=>aj:=by
 cases x with
 |sl z es=>cases es<;>rfl
 |_=>rfl
def Ow.wk{k:K}{x:PV}{u:av}(o:Ow J I H k x u)(h:LX x=aj):Ow J I H k (wk x) u:=by
 induction o with
 |nil x=>exact .nil _
 |exact x _ _ _ rcs m hr=>exact .exact _ _ _ _ rcs m hr
 |zer x b o=>exact .zer _ b o
 |tip z es id off c rcs m hr ht hw hg hb hk=>
  cases es with
  |nil=>simp[LX]at h
  |cons e es=>exact .tip z (e::es) id off c rcs m hr ht hw hg hb hk
 |tup x xs u us hx o ih=>
  refine .tup _ _ u us ?_ ?_
  .cases x with
   |sl z es=>cases es<;>rfl
   |agg _=>cases hx
   |tup _=>cases hx
   |und=>cases hx
   |_=>rfl
  cases o with
  |nil=>exact .nil _
  |exact _ _ _ _ rcs m hr=>exact .exact _ _ _ _ rcs m hr
  |zer _ b o=>exact .zer _ b o
  |tip z es id off c rcs m hr ht hw hg hb hk=>
   cases es with
   |nil=>simp[LX]at h
   |cons e es=>exact .tip z (e::es) id off c rcs m hr ht hw hg hb hk
  |tup y ys v vs _ o'=>cases hx
def aGr{take:Bool}: ∀(xs:au a8) (n:Nat) (I:Ga) (S:PS),FR J I H S A->xs.all (cM P)=ah->RL J H ((nE take S xs).1.map (·.1)) (xs.map (ev A))/\
    ∃I',FR J I' H (nE take S xs).2 A/\(∀(i:Nat) (x:PV) (w:av),(nE take S xs).1[i]?=aa (x,ah)->(xs.map (ev A))[i]?=aa w->Ow J I' H (.arg (n+i)) x w)/\G2 I I'/\(∀i k,k<n->I i=aa (.arg k)->I' i=aa (.arg k)):=by
 intro xs;induction xs with
 |nil=>intro n I S F _;exact⟨.nil,I,F,λi x w h=>(by simp[nE]at h),.refl I,λ_ _ _ h=>h⟩
 |cons x xs ih=>
  intro n I S F hx;simp only[aP,aC]at hx;have rx:=dL F hx.1;cases take with
  |false=>
   obtain⟨h1,I',h2,h3,h4,h5⟩:=ih (n+1) I S F hx.2;refine⟨.cons rx.wk h1,I',h2,λi y w hy hw=>?_,h4,λi k hk hi=>h5 i k (by omega) hi⟩
   cases i with
   |zero=>simp[nE]at hy
   |succ i=>
    simp only[nE,aJ,aT]at hy;simp only[aO,aT]at hw;have:=h3 i y w hy hw;rw[show n+(i+1)=n+1+i by omega];exact this
  |true=>
   obtain⟨I0,F0,how,g0,ga⟩:=RF F x hx.1;have F1:FR J (PI.mv .hand (.arg n) I0) H (oX S x) A:=F0.g λi t hi=>by simp[PI.mv,hi]
   obtain⟨h1,I',h2,h3,h4,h5⟩:=ih (n+1) _ (oX S x) F1 hx.2;refine⟨.cons rx.wk h1,I',h2,λi y w hy hw=>?_,(g0.trans (.mv (by simp) (by simp))).trans h4,λi k hk hi=>?_⟩
   .cases i with
    |zero=>
     simp only[nE,aU,aA,aB]at hy;simp only[aO,aU,aA]at hw;obtain⟨rfl,hb⟩:=hy;subst hw;simp only[iu,aC,Bool.not_eq_true']at hb;exact(((how hb.1).mv (k':= .arg n)).wk hb.2).weak λj hj=>h5 j n (by omega) hj
    |succ i=>
     simp only[nE,aI,aT]at hy;simp only[aO,aT]at hw;have:=h3 i y w hy hw;rw[show n+(i+1)=n+1+i by omega];exact this
   .exact h5 i k (by omega) (by simp[PI.mv,ga i k hi])
def a1d{pc:jZ}{ac:FuncId->Array av->St->f9 (av×St)}(hcall:pX pc ac){p p':PSt}{base i:Nat}(M:Mem J I p H)(F:FR J I H S A)(hf:H.get (base+i)=ae)(hlt:base+i<H.next)
    {o:Oper} (ho:o.op.operands.all (cM P)=ah) {sq take own:Bool} {v:PV} {S':PS} (h:JL P pc sq o take S p=aa (v,own,S',p')):
    ∃u H' J' I',vZ P ac base i o A H=aa (u,H')/\R J' H' v u/\Mem J' I' p' H'/\FR J' I' H' S' A/\(own=ah->Ow J' I' H' .hand v u)/\Adv J I p H J' I' p' H'/\
      (∀j,j<H.next->j≠base+i->H.get j=ae->H'.get j=ae):=by
 unfold JL at h;unfold vZ;cases hk:cY o with
 |pure=>
  simp only[hk,aF,aB]at h;obtain⟨⟨v',fq,S''⟩,hp,rfl,rfl,rfl,rfl⟩:=h;unfold Fg at hp;split at hp
  .rename_i r hpp;simp only[aA]at hp;subst hp;obtain⟨u,I',h1,h2,h3,h4,h5⟩:=Q6 F ho hpp;exact⟨u,H,J,I',by simp only[oF,h1];rfl,h2,M.g2 h5,h3,h4,.g h5.out,λj _ _ hj=>hj⟩
  .cases sq with
   |false=>cases hp
   |true=>
    simp only[aI]at hp;obtain⟨dst,op,ty,pos,af,g⟩:=o;cases op<;>simp only at hp<;>try cases hp
    rename_i s d x;rw[aF]at hp;obtain⟨v2,hb,he⟩:=hp;simp only[aB]at he;obtain⟨rfl,rfl,rfl⟩:=he
    replace ho:=xG ho
    simp only[Op.operands,aP,m9,bF]at ho;obtain⟨w,h1,h2⟩:=aDa (dL F ho) hb;exact⟨w,H,J,I,by simp only[oF,gN,aF];exact⟨w,h1,rfl⟩,h2,M,F,λh=>(by cases h),.refl J I _ H,λj _ _ hj=>hj⟩
 |read=>
  simp only[hk,aF,aB]at h;obtain⟨⟨v',fq,p''⟩,hp,rfl,rfl,rfl,rfl⟩:=h;obtain⟨u,I',h1,h2,h3,h4,h5,h6⟩:=aGl M F ho hp;refine⟨u,H,J,I',by simp only[h1];rfl,h2,h3,h4,h5,⟨.refl J I H,.refl H J,h6,?_,λa cs m h=>⟨cs,m.tip,h⟩,λ_ _ h _=>⟨rfl,h⟩⟩,λj _ _ hj=>hj⟩
  obtain⟨dst,op,ty,pos,af,g⟩:=o;cases op with
  |load t a=>
   simp only[oW]at hp;split at hp
   .rename_i v2 hv;cases hc:take&&DU v2 with
    |false=>rw[hc,aJ]at hp;simp only[aA,aB]at hp;obtain⟨_,_,rfl⟩:=hp;exact .refl p
    |true=>
     rw[hc,aI]at hp;simp only[aA,aB]at hp;obtain⟨_,_,rfl⟩:=hp;unfold gP;split
     .split
      .split
       .exact .mark p _ _
       .exact .refl p
      .exact .refl p
     .exact .refl p
   .cases hp
  |slice t x lo hi mx=>
   simp only[oW,aF,aB]at hp;obtain⟨_,_,_,_,rfl⟩:=hp;exact .refl p
  |_=>simp only[oW]at hp;cases hp
 |alloc=>
  simp only[hk,aF,aB]at h;obtain⟨⟨v',fq,p''⟩,hp,rfl,rfl,rfl,rfl⟩:=h;obtain⟨u,ob,J',I',h1,h2,h3,h4,h5,h6,h7,h8,h9,h10,h11⟩:=aDc M F hf hlt ho hp;refine⟨u,H.put (base+i) ob,J',I',by simp only[h1];rfl,h2,h3,h4,h5,⟨(Keep.put hf).weak λ_ _=>rfl,h6,h7,⟨h8,λid hd=>by rw[h10.1];exact hd,λid hd=>by rw[h10.2];exact hd,λk hk _=>h11 k hk⟩,aZt hf,λid a hi _=>⟨by rw[cK,bI (λe=>M.some_get hi (by rw[e];exact hf))],by rw[h9 id (M.le _ _ hi)];exact hi⟩⟩,λj _ bi hj=>?_⟩
  rw[cK,bI bi];exact hj
 |eff=>
  simp only[hk]at h;simp only;obtain⟨dst,op,ty,pos,af,g⟩:=o
  replace ho:=xG ho
  cases op with
  |store t a x=>
   simp only[Op.operands,aP,m9,bF,aC]at ho;simp only[IE,aF,aB]at h;obtain⟨p2,hp,rfl,rfl,rfl,rfl⟩:=h;obtain⟨I0,F0,how,g0⟩:=zG F x ho.2;obtain⟨H',I',h1,h2,h3,h4,h5,h6,h7,i0,a0,hi0,hd0,ho0⟩:=aC2 (M.g2 g0) F0 (dL F ho.1) (dL F ho.2) how hp;refine⟨undef,H',J,I',by simp only[yL,h1];rfl,.und _,h2,h3,λh=>(by cases h),⟨h4.weak λa ha=>(g0 a).1 ha,.refl H J,g0.out.trans h5 (λ_ h=>h),?_,?_,λid a hi hd=>⟨ho0 a λe=>hd (by rw[M.inj id i0 a hi (by rw[e];exact hi0)];exact hd0),hi⟩⟩,?_⟩
   ·
    unfold qE at hp;split at hp
    .split at hp
     .rename_i cs n _ _;cases hc:ao (dG S x).cells.length n&&aq _ cs.length&&(dG S x).cells.all PV.one with
      |false=>rw[hc,aJ]at hp;cases hp
      |true=>rw[hc,aI]at hp;simp only[aA]at hp;subst hp;exact .upd p _ _
     .rename_i z ag cs n _ _;cases hc:ao (dG S x).cells.length n&&aq _ cs.length&&(dG S x).cells.all PV.one with
      |false=>rw[hc,aJ]at hp;cases hp
      |true=>rw[hc,aI]at hp;simp only[aA]at hp;subst hp;exact .upd p _ _
     .cases hp
    .cases hp
   .intro a' cs m hg;unfold jU at h1;split at h1
    .split at h1
     .rename_i cs2 m2 n bh _;cases hc:m2.wr&&ao (ev A x).cells.size n&&aq _ cs2.length&&(ev A x).cells.toList.all one with
      |false=>rw[hc,aJ]at h1;cases h1
      |true=>
       rw[hc,aI]at h1;split at h1
       .simp only[aA]at h1;subst h1;rw[cK];split
        .rename_i e;subst e;have:=(fS bh).1;rw[hg]at this;simp only[aA,AObj.cells.injEq]at this;obtain⟨_,rfl⟩:=this;exact⟨_,m.tip,rfl⟩
        .exact⟨cs,m.tip,hg⟩
       .rename_i gg vv hgg;cases hlm:m2.tip&&aq m2.lim _ with
        |true=>
         rw[hlm,aI]at h1;simp only[aA]at h1;subst h1;rw[cK];split
         .rename_i e;subst e;have:=(fS bh).1;rw[hg]at this;simp only[aA,AObj.cells.injEq]at this;obtain⟨_,rfl⟩:=this;exact⟨_,m.tip,rfl⟩
         .exact⟨cs,m.tip,hg⟩
        |false=>
        rw[hlm,aJ]at h1;simp only[aA]at h1;subst h1;exfalso;have hv:=h4.vers;have h0:=M.ver gg;have bf:=(fS bh).2;simp only[St.good,hgg]at bf;have hvv:=aE bf;have h0':=h2.ver gg;simp only[St.bump,St.ver,Tr.get_set,bQ,od]at h0';omega
     .cases h1
    .cases h1
   .intro j hj bi hn;cases hh:H'.get j with
    |none=>rfl
    |some ob=>
     exfalso;unfold jU at h1;split at h1
     .split at h1
      .rename_i cs2 m2 n bh _;cases hc:m2.wr&&ao (ev A x).cells.size n&&aq _ cs2.length&&(ev A x).cells.toList.all one with
       |false=>rw[hc,aJ]at h1;cases h1
       |true=>
        rw[hc,aI]at h1;have di: ∀k o,H.row k=aa (cs2,m2)->(H.put k o).get j=aa ob->False:=λk o bh hh=>by
         rw[cK]at hh;split at hh
         .rename_i e;rw[<-e]at bh;rw[(fS bh).1]at hn;cases hn
         .rw[hn]at hh;cases hh
        split at h1
        .simp only[aA]at h1;subst h1;exact di _ _ bh hh
        .cases hlm:m2.tip&&aq m2.lim _ with
         |true=>rw[hlm,aI]at h1;simp only[aA]at h1;subst h1;exact di _ _ bh hh
         |false=>
         rw[hlm,aJ]at h1;simp only[aA]at h1;subst h1;have:(H.put _ _).get j=aa ob:=hh;rw[cK]at this;split at this
         .rename_i e;subst e;rw[(fS bh).1]at hn;cases hn
         .rw[hn]at this;cases this
      .cases h1
     .cases h1
  |call c=>
   obtain⟨callee,cargs,argTypes⟩:=c;simp only[Op.operands,Call.operands,Array.toList_append,oe,aC]at ho;have hgen: ∀{g:Nat} {args:au (PV×Bool)},uJ take S ⟨callee,cargs,argTypes⟩=aa (g,args)->∃us I',Cm (ev A) ⟨callee,cargs,argTypes⟩=aa (g,us)/\RL J H (args.map (·.1)) us.toList/\
          FR J I' H (nE take S cargs.toList).2 A/\(∀(i:Nat) (x:PV) (w:av),args[i]?=aa (x,ah)->us.toList[i]?=aa w->Ow J I' H (.arg i) x w)/\G2 I I':=by
    intro g' args hc;unfold uJ at hc;split at hc
    .rename_i f qu;simp only at qu;subst qu;simp only[Cm];have hfo:cM P f=ah:=by simpa using ho.1
     have rf:=dL F hfo;split at hc
     .rename_i gg first captured hpf
      simp only[aA,aB]at hc;obtain⟨rfl,rfl⟩:=hc;rw[hpf]at rf;generalize ev A f=w at rf;cases rf with
      |fn _ _ _ us vs hl hh fe hh'=>
       have h1:RL J H first us.toList:=⟨hl,hh⟩
       have h2:RL J H captured vs.toList:=⟨fe,hh'⟩;obtain⟨n1,n2⟩:=Ry h1;obtain⟨m1,m2⟩:=Ry h2;obtain⟨p1,I',p2,p3,p4,_⟩:=aGr (take:=take) cargs.toList first.length I S F ho.2
       have dm:(nE take S cargs.toList).1.length=cargs.toList.length:=by have:=p1.1;simpa using this
       refine⟨_,I',rfl,?_,p2,λi x w hx hw=>?_,p4⟩
       .have:=n1.append (p1.append m1);simpa using this
       .simp only[Array.toList_append,Array.toList_map,aQ]at hw;rcases b8 i first.length with hi|hi
        .rw[i7 (by rw[uR];exact hi)]at hx
         exact absurd hx (n2 i x)
        .rw[eo (by rw[uR];exact hi),uR]at hx
         rw[eo (by rw[<-h1.1];exact hi),<-h1.1]at hw
         rcases b8 (i-first.length) cargs.toList.length with hj|hj
         .rw[i7 (by rw[dm];exact hj)]at hx
          rw[i7 (by rw[iw];exact hj)]at hw
          have:=p3 _ x w hx hw;rw[show first.length+(i-first.length)=i by omega]at this
          exact this
         .rw[eo (by rw[dm];exact hj)]at hx
          exact absurd hx (m2 _ x)
     .cases hc
    .cases hc
   cases callee with
   |builtin b=>
    cases b with
    |append=>
     simp only[IE]at h;simp only[yL];split at h
     .rename_i s x hargs;simp only[hargs]at ho⊢;simp only[aP,m9,bF,aC]at ho;simp only[aF,aB]at h;obtain⟨⟨v',fq,S''⟩,hp,rfl,rfl,rfl,rfl⟩:=h;obtain⟨u,H',I',h1,h2,h3,h4,h5,h6,h7,h8⟩:=T8 M F hf hlt ho.2.1 ho.2.2 hp;have bc: ∀j,H'.get j=H.get j∨j=base+i∨(∃cs m b,(H.get j=aa (.cells cs m)/\m.tip=ah)/\H'.get j=aa (.cells cs {m with tip:=b})):=by
       intro j;unfold oO at h1;split at h1
       .split at h1
        .rename_i e d _ _;cases hc:IM d (ev A x)with
         |false=>rw[hc,aJ]at h1;cases h1
         |true=>
          rw[hc,aI]at h1;split at h1
          .rename_i info _;split at h1
           .rename_i n xs z _ _;cases hc2:xs.all one&&aq 1 info.size&&aq 1 info.bytes&&ao z.cells.size info.size&&iH (ev A s)with
            |false=>rw[hc2,aJ]at h1;cases h1
            |true=>
             rw[hc2,aI]at h1;cases hc3:ao n 0 with
             |true=>rw[hc3,aI]at h1;simp only[aA,aB]at h1;obtain⟨_,rfl⟩:=h1;exact .inl rfl
             |false=>
              rw[hc3,aJ]at h1;have di: ∀o,(H.put (base+i) o).get j=H.get j∨j=base+i∨(∃cs m b,(H.get j=aa (.cells cs m)/\m.tip=ah)/\(H.put (base+i) o).get j=aa (.cells cs {m with tip:=b})):=λo=>by
               rw[cK];by_cases e:j=base+i
               .exact .inr (.inl e)
               .rw[bI e];exact .inl rfl
              unfold nN at h1;split at h1
              .cases hc4:aq (n*info.bytes) 1073741824 with
               |false=>rw[hc4,aJ]at h1;cases h1
               |true=>rw[hc4,aI]at h1;simp only[aA,aB]at h1;obtain⟨_,rfl⟩:=h1;exact di _
              .rename_i id off len k _;cases hc4:aq ((len+n)*info.bytes) 1073741824 with
               |false=>rw[hc4,aJ]at h1;cases h1
               |true=>
                rw[hc4,aI]at h1;split at h1
                .rename_i cs m bh;split at h1
                 .rename_i old _;cases hc5:ao k len with
                  |true=>rw[hc5,aI]at h1;simp only[aA,aB]at h1;obtain⟨_,rfl⟩:=h1;exact di _
                  |false=>
                   rw[hc5,aJ]at h1;cases hc6:m.tip&&m.wr&&ao m.z info.size&&ao (off+len*info.size) cs.length&&m.grp.isSome with
                   |false=>rw[hc6,aJ]at h1;cases h1
                   |true=>
                    rw[hc6,aI]at h1;simp only[aA,aB]at h1;obtain⟨_,rfl⟩:=h1;rw[cK];by_cases e:j=base+i
                    .exact .inr (.inl e)
                    .rw[bI e,cK];by_cases e2:j=id
                     .subst e2;rw[bJ rfl];exact .inr (.inr ⟨cs,m,aj,⟨(fS bh).1,by simp only[aC]at hc6;exact hc6.1.1.1.1⟩,rfl⟩)
                     .rw[bI e2];exact .inl rfl
                 .cases h1
                .cases h1
              .rename_i b0 o0 s0 l0 k0 _;cases hc4:ao s0 1&&aq (n*info.bytes) 1073741824 with
               |false=>rw[hc4,aJ]at h1;cases h1
               |true=>rw[hc4,aI]at h1;simp only[aA,aB]at h1;obtain⟨_,rfl⟩:=h1;exact di _
              .cases h1
           .cases h1
          .cases h1
        .cases h1
       .cases h1
      refine⟨u,H',J,I',h1,h2,h3,h4,h5,⟨h6,.refl H J,h7,.refl p,λa cs m hg=>?_,λid a hi _=>⟨?_,hi⟩⟩,λj hj bi hn=>?_⟩
      .rcases bc a with e|e|⟨cq,m',b,e1,e2⟩
       .exact⟨cs,m.tip,by rw[e];exact hg⟩
       .subst e;rw[hf]at hg;cases hg
       .rw[hg]at e1;simp only[aA,AObj.cells.injEq]at e1;obtain⟨⟨rfl,rfl⟩,_⟩:=e1;exact⟨_,b,e2⟩
      .rcases bc a with e|e|⟨cq,m',b,e1,e2⟩
       .exact e
       .exact absurd (e▸hf) (M.some_get hi)
       .exfalso;have:=M.no_tip hi e1.1;rw[e1.2]at this;cases this
      .rcases bc j with e|e|⟨cq,m',b,e1,e2⟩
       .rw[e];exact hn
       .exact absurd e bi
       .rw[hn]at e1;cases e1.1
     .cases h
    |_=>simp only[IE,uJ]at h;cases h
   |invoke r m=>simp only[IE,uJ]at h;cases h
   |value f=>
    simp only[IE]at h;simp only[yL];split at h
    .rename_i g' args hc;obtain⟨us,I1,hu,hrl,F1,kv,g1⟩:=hgen hc;simp only[hu];simp only[aF,aB]at h;obtain⟨⟨v',fq,p2⟩,hp,rfl,rfl,rfl,rfl⟩:=h;obtain⟨u,H',J',I',h1,h2,h3,h4,h5,h6,h7⟩:=aQN hcall (M.g2 g1) F1 hrl kv hp;exact⟨u,H',J',I',h1,h2,h3,h4,h5,(Adv.g g1.out).trans h6,λj hj _ hn=>h7 j hj hn⟩
    .cases h
  |_=>simp only[IE]at h;cases h
end
structure Qt(H H':St):Prop where
 vers:H'.vers=H.vers
 get: ∀a ob,H.get a=aa ob->H'.get a=aa ob∨∃cs m b,ob= .cells cs m/\m.tip=ah/\H'.get a=aa (.cells cs {m with tip:=b})
def Qt.refl(H:St):Qt H H:=⟨rfl,λa ob h=> .inl h⟩
def Qt.bx{J:Nu}{I:Ga}{H H':St}{p:PSt}(q:Qt H H')(M:Mem J I p H){id a:Nat}(h:J id=aa (aa a)):H'.get a=H.get a:=by
 cases e:H.get a with
 |none=>exact absurd e (M.some_get h)
 |some ob=>
  rcases q.get a ob e with e1|⟨cs,m,b,e1,e2,_⟩
  .exact e1
  .subst e1;rw[M.no_tip h e]at e2;cases e2
def Tr.setF_setF{N:Type}: ∀(f:Nat) (t:Tr N) (n:Nat) (x y:N),Tr.setF f (Tr.setF f t n x) n y=Tr.setF f t n y:=by
 intro f;induction f with
 |zero=>intro t n x y;rfl
 |succ f ih=>
  intro t n x y;cases t with
  |nil=>
   simp only[Tr.setF];cases h:ao n 0 with
   |true=>simp only[aI,Tr.setF,h]
   |false=>
    simp only[aJ];cases h2:ao (n%2) 1 with
    |true=>simp only[aI,Tr.setF,h,h2,aJ,ih]
    |false=>simp only[aJ,Tr.setF,h,h2,ih]
  |node v l r=>
   simp only[Tr.setF];cases h:ao n 0 with
   |true=>simp only[aI,Tr.setF,h]
   |false=>
    simp only[aJ];cases h2:ao (n%2) 1 with
    |true=>simp only[aI,Tr.setF,h,h2,aJ,ih]
    |false=>simp only[aJ,Tr.setF,h,h2,ih]
def Tr.set_set{N:Type}(t:Tr N)(n:Nat)(x y:N):Tr.set (Tr.set t n x) n y=Tr.set t n y:=Tr.setF_setF _ t n x y
def aOo(H:St)(id:Nat)(a b:AObj):(H.put id a).put id b=H.put id b:=by
 simp only[St.put,Tr.set_set]
section
variable{P:az}{J J':Nu}{I I1 I':Ga}{H H':St}{S:PS}{A:ia}
def VE{p:PSt}{id z bytes:Nat}(M:Mem J I p H)(F:FR J I H S A)(hf:H.get id=ae)(hlt:id<H.next)(hz1:1<=z){x:PV}{w:av}{es:au PV}(pq:qL z x=aa es)(rs:R J H x w)(how:Ow J I H .hand x w):
    ∃old Hc m,RL J Hc (fM es) old/\(∀n vals,aq ((es.length+n)*bytes) 1073741824=ah->nN H id z bytes n vals w=aa (.slice (aa ⟨id,0,ae⟩) (es.length+n) (es.length+n+1),Hc.put id (.cells (old++vals) m)))/\
      (∀e∈es,e.cells.length=z/\e.cells.all PV.pur=ah)/\Mem J I p Hc/\FR J I Hc S A/\Hc.get id=ae/\Hc.next=H.next/\m.z=z/\m.tip=ah/\m.wr=ah/\m.grp.isSome=ah/\Hc.good m=ah/\m.lim<=old.length/\
      Keep J I H Hc/\Qt H Hc/\old.length=es.length*z/\(∀j,H.get j=ae->Hc.get j=ae):=by
 have hgt:=YV M z id;rcases tQ pq with⟨h1,rfl⟩|h1
 .have rse:R J H .emp w:=by
   rcases h1 with rfl|rfl
   .exact rs
   .cases rs;exact .emp0
  have mf:Ow J I H .hand .emp w∨w= .slice ae 0 0:=by
   rcases h1 with rfl|rfl
   .exact .inl how
   .right;cases rs;rfl
  refine⟨[],H,iF z id,.nil,λn vals cw=>?_,λe he=>by simp at he,M,F,hf,rfl,rfl,rfl,rfl,rfl,hgt,aS _,.refl J I H,.refl H,by simp,λ_ h=>h⟩
  simp only[aX,ir]at cw⊢;cases rse with
  |emp0=>simp only[nN,cw,aI];rfl
  |emp1 id0 off c rcs m hr=>
   have:c=0:=by
    rcases mf with how|how
    .cases how;rfl
    .cases how
   subst this;simp only[nN,ir,cw,aI,hr.1,Nat.zero_mul,B3];rfl
  |emp2 b o s' c=>
   rcases mf with how|how
   .cases how;have hq:(ao 1 1&&aq (n*bytes) 1073741824)=ah:=by rw[cw];rfl
    simp only[nN,hq,aI];rfl
   .cases how
 .subst h1;obtain⟨id0,off,cc,rcs,m,l,hw,hr,ln,hb,hl,hrl,ph⟩: ∃id0 off cc rcs m l,w= .slice (aa ⟨id0,off,ae⟩) es.length cc/\Fz J H id0 rcs m/\m.z=z/\off+es.length*z<=rcs.length/\cut rcs off (es.length*z)=aa l/\RL J H (fM es) l/\(∀e∈es,e.cells.length=z/\e.cells.all PV.pur=ah):=by
   cases rs with
   |sl _ _ id0 off cc rcs m hz hs hr hm hb hh=>
    obtain⟨_,_,jd,nk,m',l,k1,k2,k3,k4,k5⟩:=K4 (.sl z es id0 off cc rcs m hz hs hr hm hb hh);exact⟨id0,off,cc,nk,m',l,rfl,k1,k2,k3,k4,k5,jd⟩
  have hll:l.length=es.length*z:=by rw[<-hrl.1,iZ (λe he=>(ph e he).1)]
  subst hw;by_cases gy:cc=es.length
  .refine⟨l,H,iF z id,hrl,λn vals cw=>?_,ph,M,F,hf,rfl,rfl,rfl,rfl,rfl,hgt,b7 _,.refl J I H,.refl H,hll,λ_ h=>h⟩
   rw[gy];simp only[nN,cw,aI,hr.1,hl];rw[show ao es.length es.length=ah by simp[dZ]]
   rfl
  .cases how with
   |exact=>exact absurd rfl gy
   |tip z0 es0 _ _ _ rcs2 m2 hr2 ht gn hg hb2 hk=>
    have:rcs2=rcs/\m2=m:=by have:=hr2.1;rw[hr.1]at this;simp only[aA,aB]at this;exact⟨this.1.symm,this.2.symm⟩
    obtain⟨rfl,rfl⟩:=this;obtain⟨bc,bf⟩:=fS hr.1;have hii:id0≠id:=λe=>by rw[e,hf]at bc;cases bc
    have kp:Keep J (λi=>if i=id0 then ae else aa .out) H (H.put id0 (.cells rcs2 {m2 with tip:=aj})):=by
     refine⟨rfl,aS _,λa ha=>?_,λa hn cs m bj=>?_⟩
     .rw[cK]at ha;split at ha
      .cases ha
      .exact ha
     .by_cases e:a=id0
      .subst e;rw[bc]at bj;simp only[aA,AObj.cells.injEq]at bj;obtain⟨rfl,rfl⟩:=bj;refine⟨aj,by rw[cK,bJ rfl],λ_=>rfl,λh=>?_⟩
       simp at h
      .exact⟨m.tip,by rw[cK,bI e];exact bj,λh=>h,λ_=>rfl⟩
    have vq: ∀i k,I i=aa k->k≠ .hand->(if i=id0 then ae else aa K.out)=aa K.out:=λi k hi jg=>by
     rw[bI];intro e;rw[e,hk]at hi;simp only[aA]at hi;exact jg hi.symm
    refine⟨l,H.put id0 (.cells rcs2 {m2 with tip:=aj}),{m2 with lim:=l.length},hrl.keep kp (.refl H J),λn vals cw=>?_,ph,?_,F.keep kp (.refl H J) λi t hi _=>⟨vq i _ hi (by simp),hi⟩,
     by rw[cK,bI (Ne.symm hii)];exact hf,rfl,ln,ht,gn,hg,bf,aS _,kp.weak λa ha=>vq a _ ha (by simp),?_,hll,λj hj=>by rw[cK,bI (λe=>by rw[e,bc]at hj;cases hj)];exact hj⟩
    .simp only[nN,cw,aI,hr.1,hl];rw[show ao cc es.length=aj by rw[dZ];simp[gy]]
     simp only[aJ];rw[show(m2.tip&&m2.wr&&ao m2.z z&&ao (off+es.length*z) rcs2.length&&m2.grp.isSome)=ah by
      rw[ln]at hb2;simp only[ht,gn,hg,dZ,ln,hb2,bN,n8]]
     rfl
    .refine⟨M.le,M.lt,M.inj,M.live,λk o jg=>?_,λa ha=>?_,M.ver⟩
     .refine(M.get k o jg).keep kp (.refl H J) rfl (λa ha=>?_) λi fu hi _=>⟨vq i _ hi (by simp),hi⟩
      rw[cK,bI (λe=>hr.2 k (by rw[<-e];exact ha))]
     .rw[cK,bI (λe=>by subst e;rw[M.free a ha]at bc;cases bc)];exact M.free a ha
    .refine⟨rfl,λa ob bj=>?_⟩
     rw[cK];by_cases e2:a=id0
     .subst e2;rw[bc]at bj;simp only[aA]at bj;subst bj;rw[bJ rfl];exact .inr ⟨rcs2,m2,aj,rfl,ht,rfl⟩
     .rw[bI e2];exact .inl bj
def xY{a:Nat}{x:a8}(h:Qq a x=aj)(u:av):ev (A.store (aa a) u) x=ev A x:=by
 cases x with
 |tmp t=>
  simp only[Qq,dZ,bD]at h;simp only[ev,Slots.store,Eo];rw[bI (λe=>h e.symm)]
 |_=>rfl
def R.pin_of{z:Nat}{fs:au PV}{v:av}(h:R J H (.sl z fs) v){id len cap:Nat}(e:v= .slice (aa ⟨id,0,ae⟩) len cap)(k:Nat):R J H (.pin fs k 0) (.pointer (aa ⟨id,0+k*z,ae⟩)):=by
 cases h with
 |sl _ _ bn off c rcs m hz hs hr hm hb h=>
  simp only[Value.slice.injEq,aA,Addr.mk.injEq]at e;obtain⟨⟨rfl,rfl,_⟩,_,_⟩:=e;exact R.pin z fs k 0 bn 0 rcs m hs hr hb h
def Rd{ac:FuncId->Array av->St->f9 (av×St)}{p:PSt}{base:Nat}{oA oI oS:Oper}{iA iI iS:Nat}(M:Mem J I p H)(F:FR J I H S A)(hf:H.get (base+iA)=ae)(hlt:base+iA<H.next)
    (hA:oA.op.operands.all (cM P)=ah) (hI:oI.op.operands.all (cM P)=ah) (hS:oS.op.operands.all (cM P)=ah) {S':PS} (h:JO P S oA oI oS=aa S'):
    ∃u1 u2 H1 H2 I',yL P ac H (ev A) oA (base+iA)=aa (u1,H1)/\gN P (ev (A.store oA.dst u1)) oI=aa u2/\yL P ac H1 (ev ((A.store oA.dst u1).store oI.dst u2)) oS (base+iS)=aa (undef,H2)/\
      cY oA= .eff/\cY oI= .pure/\cY oS= .eff/\oA.guard=ae/\oI.guard=ae/\oS.guard=ae/\oS.dst=ae/\qG oA=ah/\
      Mem J I' p H2/\FR J I' H2 S' ((A.store oA.dst u1).store oI.dst u2)/\Adv J I p H J I' p H2/\Qt H H1/\Qt H H2/\H1.next=H.next/\(∀j,j≠base+iA->H.get j=ae->H1.get j=ae/\H2.get j=ae):=by
 obtain⟨dA,opA,tyA,posA,afA,gA⟩:=oA;obtain⟨dI,opI,tyI,posI,afI,gI⟩:=oI;obtain⟨dS,opS,tyS,posS,afS,gS⟩:=oS;unfold JO at h;split at h
 .rename_i c a t1 a' n b t2 b' x e1 e2 e3 e4 e5 e6;simp only at e1 e2 e3 e4 e5 e6;subst e1 e2 e3 e4 e5 e6;obtain⟨callee,cargs,ats⟩:=c;split at h
  .rename_i s zz ec ea;simp only at ec ea;subst ec;cases hc:ao a a'&&ao b b'&& !Nat.beq a b&& !Qq a n&& !Qq a x&& !Qq b x&&gA.isNone&&gI.isNone&&gS.isNone with
   |false=>rw[hc,aJ]at h;cases h
   |true=>
    rw[hc,aI]at h;simp only[aC,Bool.not_eq_true',Option.isNone_iff_eq_none]at hc;obtain⟨⟨⟨⟨⟨⟨⟨⟨ha,hb⟩,hab⟩,hn⟩,hxa⟩,hxb⟩,hgA⟩,hgI⟩,hgS⟩:=hc;have ha:=aE ha;subst ha;have hb:=aE hb;subst hb;have hab:a≠b:=by intro e;rw[e]at hab;simp[dZ]at hab
    subst hgA hgI hgS;rw[aF]at h;obtain⟨v,hv,rfl⟩:=h
    replace hA:=xG hA
    replace hI:=xG hI
    replace hS:=xG hS
    simp only[Op.operands,Call.operands,Array.toList_append,oe,aC,ea,aP,m9,bF]at hA;simp only[Op.operands,aP,m9,bF,aC]at hI hS;unfold aAE at hv;split at hv
    .rename_i t tz fy;split at hv
     .rename_i e d he hd;split at hv
      .rename_i info ag hi kt;split at hv
       .rename_i es y zv kk k pq pg hzv hk;cases hc2:aq 1 info.size&&aq 1 info.bytes&&ao zv.cells.size info.size&&jC S s&&aq ((es.length+1)*info.bytes) 1073741824&&ao t1 t&&ao t2 e&&ak (k=(es.length:Int))&&shape ag info.size (dG S x)with
        |false=>rw[hc2,aJ]at hv;cases hv
        |true=>
         rw[hc2,aI]at hv;simp only[aA]at hv;subst hv;simp only[aC,aD]at hc2;obtain⟨⟨⟨⟨⟨⟨⟨⟨c1,c2⟩,c3⟩,c4⟩,c5⟩,c6⟩,c7⟩,c8⟩,c9⟩:=hc2;have c6:=aE c6;subst c6;have c7:=aE c7;subst c7;subst c8;have hz1:=bR c1;obtain⟨zvals,hz2,hz3,hz4,hz5⟩:=Ff (dL F hA.2.2) hz1 pg;obtain⟨I0,F0,how,g0⟩:=zG F s hA.2.1;have M0:=M.g2 g0;obtain⟨old,Hc,m,k1,k2,k3,k4,k5,k6,k7,k8,k9,bGX,bGW,bGV,bOn,k14,k15,bCI,bJ6⟩:=VE (bytes:=info.bytes) M0 F0 hf hlt hz1 pq (dL F hA.2.1) (how c4);have hag1:=k2 1 zvals c5;have pz:zvals.length=info.size:=by
          rw[<-hz3.1];simp only[fM,aN,bC,bB];exact(hz4 y (by simp)).1
         have jf:zvals.all one=ah:=hz3.one (by
          simp only[fM,aN,bC,bB];exact wW (hz4 y (by simp)).2)
         have co:iH (ev A s)=ah:=by
          have rs:=dL F hA.2.1;rcases tQ pq with⟨h1|h1,_⟩|h1<;>rw[h1]at rs<;>generalize ev A s=w at rs<;>cases rs<;>rfl
         have fy:ats.toList=[t1,tz]:=fy;have hap:oO P H (base+iA) ⟨.builtin .append,cargs,ats⟩ (ev A s) (ev A zz)=aa (.slice (aa ⟨base+iA,0,ae⟩) (es.length+1) (es.length+1+1),Hc.put (base+iA) (.cells (old++zvals) m)):=by
          unfold oO;simp only[fy,he,hd,hi,hz5,aI,hz2,hzv];rw[show(zvals.all one&&aq 1 info.size&&aq 1 info.bytes&&ao zv.cells.size info.size&&iH (ev A s))=ah by
           simp only[jf,c1,c2,c3,co,n8]]
          exact hag1
         obtain⟨xl,xp⟩:=wK c9;have rx:=dL F hS.2;have hxc:=rx.cells (wW xp);have qi:(ev A x).cells.toList.length=info.size:=by rw[<-hxc.1,xl]
         have bu:iN P t2=aa info.size:=by simp only[iN,hi];rfl
         have hwx:(wk (dG S x)).cells.length=info.size:=by rw[oQ,lD,xl]
         have qa:RL J Hc (fM [wk (dG S x)]) (ev A x).cells.toList:=by
          simp only[fM,aN,bC,bB];rw[oQ];exact hxc.wks.keep k14 (.refl H J)
         obtain⟨I',j1,j2,j3,j4,j5,j6⟩:=FV (m:=m) (xs:=[wk (dG S x)]) k4 k5 k6 (by rw[k7];exact hlt) hz1 (λq hq=>by
          rcases oa.1 hq with hq|hq
          .exact k3 q hq
          .simp only[List.mem_singleton]at hq;subst hq;exact⟨hwx,by rw[oQ];exact D5 xp⟩) k1 qa k8 k9 bGX bGW bGV (es.length+1+1) (by simp)
         have mj:eO info.size (es++ [wk (dG S x)])= .sl info.size (es++ [wk (dG S x)]):=by
          cases hh:es++ [wk (dG S x)]with
          |nil=>simp at hh
          |cons q l=>rfl
         rw[mj]at j1 j4;have cb:jU P (Hc.put (base+iA) (.cells (old++zvals) m)) t2 (.pointer (aa ⟨base+iA,0+es.length*info.size,ae⟩)) (ev A x)=aa (Hc.put (base+iA) (.cells (old++(ev A x).cells.toList) m)):=by
          have bh:(Hc.put (base+iA) (.cells (old++zvals) m)).row (base+iA)=aa (old++zvals,m):=row_of_get (by rw[cK,bJ rfl]) bGV
          simp only[jU,bh,bu];rw[show(m.wr&&ao (ev A x).cells.size info.size&&aq (0+es.length*info.size+info.size) (old++zvals).length&&(ev A x).cells.toList.all one)=ah by
           rw[hxc.one (wW xp),dZ,CG];simp only[Array.length_toList]at qi;simp only[bGX,qi,bN,bF,iu,aD,aZ,pz,bCI];omega]
          simp only[aI];have di:jJ (old++zvals) (0+es.length*info.size) (ev A x).cells.toList=old++(ev A x).cells.toList:=by
           rw[Fb _ _ _ (by simp only[aZ,pz,bCI,qi];omega),ir,<-bCI,List.take_left',qi]
           .rw[eu (by simp only[aZ,pz];omega),bB]
           .rfl
          rw[di];obtain⟨⟨g,v⟩,hgv⟩:=Option.isSome_iff_exists.1 bGW;rw[hgv];simp only;rw[show(m.tip&&aq m.lim (0+es.length*info.size))=ah by rw[k9,CG];simp only[iu,aD];omega]
          simp only[aI,aOo]
         have hq1:Qt H (Hc.put (base+iA) (.cells (old++zvals) m)):=⟨k15.vers,λq ob hq=>by
          rw[cK,bI (λe=>by rw[e,hf]at hq;cases hq)];exact k15.get q ob hq⟩
         have hq2:Qt H (Hc.put (base+iA) (.cells (old++(ev A x).cells.toList) m)):=⟨k15.vers,λq ob hq=>by
          rw[cK,bI (λe=>by rw[e,hf]at hq;cases hq)];exact k15.get q ob hq⟩
         obtain⟨I1,F1,g1⟩:=j3.put (d:=aa a) j1 (λ_=>j4)
         have hpin:R J (Hc.put (base+iA) (.cells (old++(ev A x).cells.toList) m)) (aC8 (.sl info.size (es++ [wk (dG S x)]))) (.pointer (aa ⟨base+iA,0+es.length*info.size,ae⟩)):=by
          have hle:(es++ [wk (dG S x)]).length-1=es.length:=by simp
          simp only[aC8,hle];exact R.pin_of j1 rfl es.length
         obtain⟨I2,F2,g2⟩:=F1.put (d:=aa b) (v:=aC8 (.sl info.size (es++ [wk (dG S x)]))) (u:= .pointer (aa ⟨base+iA,0+es.length*info.size,ae⟩)) (own:=aj) hpin (λh=>by cases h)
         refine⟨.slice (aa ⟨base+iA,0,ae⟩) (es.length+1) (es.length+1+1),.pointer (aa ⟨base+iA,0+es.length*info.size,ae⟩),_,_,I2,?_,?_,?_,rfl,rfl,rfl,rfl,rfl,rfl,rfl,rfl,(j2.g2 g1).g2 g2,F2,⟨?_,.refl H J,?_,.refl p,?_,λ_ _ hi _=>⟨hq2.bx M hi,hi⟩⟩,hq1,hq2,k7,λj hj hn=>?_⟩
         .simp only[yL,ea];exact hap
         .simp only[gN];have hnk:ev (A.store (aa a) (.slice (aa ⟨base+iA,0,ae⟩) (es.length+1) (es.length+1+1))) n= .int kk (es.length:Int):=by
           rw[xY hn];have rn:=dL F hI.2;rw[hk]at rn;generalize ev A n=w at rn;cases rn;rfl
          have hak:ev (A.store (aa a) (.slice (aa ⟨base+iA,0,ae⟩) (es.length+1) (es.length+1+1))) (.tmp a)= .slice (aa ⟨base+iA,0,ae⟩) (es.length+1) (es.length+1+1):=by
           simp only[ev,Slots.store,Eo,bQ]
          rw[hnk,hak];simp only[kH,he,bu];rw[show dJ (es.length:Int) (es.length+1)=ah by simp only[dJ,aC,aD];omega]
          simp only[aI,Int.toNat_natCast]
         .simp only[yL];have hx1:ev ((A.store (aa a) (.slice (aa ⟨base+iA,0,ae⟩) (es.length+1) (es.length+1+1))).store (aa b) (.pointer (aa ⟨base+iA,0+es.length*info.size,ae⟩))) x=ev A x:=by
           rw[xY hxb,xY hxa]
          have hb1:ev ((A.store (aa a) (.slice (aa ⟨base+iA,0,ae⟩) (es.length+1) (es.length+1+1))).store (aa b) (.pointer (aa ⟨base+iA,0+es.length*info.size,ae⟩))) (.tmp b)= .pointer (aa ⟨base+iA,0+es.length*info.size,ae⟩):=by
           simp only[ev,Slots.store,Eo,bQ]
          rw[hx1,hb1,cb];rfl
         .have:=Keep.trans (I:=I0) k14 (.refl H J) (j5.weak (I:=I0) λ_ _=>rfl) (.refl H I0)
          exact this.weak λq hq=>(g0 q).1 hq
         .exact((g0.out (H:=H)).trans j6 (λq hq=>k14.dom q hq)).trans ((g1.trans g2).out (H:=H)) (λ_ h=>h)
         .intro q cs mm hq;rcases hq2.get q _ hq with e|⟨cq,m',b',e1,_,e2⟩
          .exact⟨cs,mm.tip,e⟩
          .simp only[AObj.cells.injEq]at e1;obtain⟨rfl,rfl⟩:=e1;exact⟨_,b',e2⟩
         .have hc0:=bJ6 j hn;exact⟨by rw[cK,bI hj];exact hc0,by rw[cK,bI hj];exact hc0⟩
       .cases hv
      .cases hv
     .cases hv
    .cases hv
  .cases h
 .cases h
end
end Go.PI
namespace Go.AI
section
variable{w0:W0}{P:az}{Y:Mp}{H:St}{w:ib}
def B4{cs l:au av}{off n:Nat}(h:cut cs off n=aa l):l=(cs.drop off).take n/\n<=cs.length-off:=by
 unfold cut at h;simp only[dZ,Bool.cond_decide]at h;split at h
 .rename_i hl;cases h;refine⟨rfl,?_⟩;simp at hl;omega
 .cases h
def D9{C:Array av}{cs:au av}{o off n:Nat}(bh: ∀(i:Nat) (v:av),cs[i]?=aa v->∃u,C[o+i]?=aa u/\VR Y v u)(hl:n<=cs.length-off):
    VRL Y ((cs.drop off).take n) ((C.toList.drop (o+off)).take n):=by
 have bu:n=0∨o+off+n<=C.size:=by
  rcases Nat.eq_zero_or_pos n with h|h
  .exact .inl h
  .right;have:off+n-1<cs.length:=by omega
   obtain⟨u,hu,_⟩:=bh (off+n-1) _ (aV this);have:=(oq.1 hu).1;omega
 refine⟨by simp;omega,λi x u hx hu=>?_⟩
 rw[m6]at hx hu;split at hx
 .rename_i hi;rw[bJ hi]at hu;rw[m7]at hx hu;obtain⟨u',ki,hr⟩:=bh _ _ hx;have:C.toList[o+off+i]?=aa u':=by rw[Nat.add_assoc];simpa using ki
  rw[this]at hu;cases hu;exact hr
 .cases hx
def El{w:ib}{b o:Nat}{C:Array av}{t:aw}{fr:Nat×Nat}(h:w.heap[b]?=aa (.cells C t fr)):w.cell? ⟨b,o,ae⟩=C[o]?:=by
 simp[World.cell?,h]
def aAf{w:ib}{b o n:Nat}{C:Array av}{t:aw}{fr:Nat×Nat}(h:w.heap[b]?=aa (.cells C t fr))(hl:((C.toList.drop o).take n).length=n):
    (loadCells ⟨b,o,ae⟩ n).run P w= .ok ((C.toList.drop o).take n).toArray w:=by
 have:=run_loadCells_list (P:=P) w ⟨b,o,ae⟩ ((C.toList.drop o).take n) (λj v hj=>by
  rw[kI,El h];rw[m6]at hj;split at hj
  .rw[m7]at hj;simpa using hj
  .cases hj)
 rw[hl]at this;exact this
def yJ{t:aw}{a b v:av}(S:Sim w0 P Y H w)(r:VR Y a b)(h:iM P H t a=aa v): ∃v',(Instr.loadAt t b).run P w= .ok v' w/\VR Y v v':=by
 unfold iM at h;split at h<;>try cases h
 rename_i id off;obtain⟨p,hp,rfl⟩:=r.ptr_inv;split at h<;>try cases h
 rename_i cs m bh;obtain⟨hg,bf⟩:=St.row_some bh;obtain⟨C,ty,fr,hC,hcs,_⟩:=(S.row id p cs m hp hg bf).row;unfold Instr.loadAt;simp only[Instr.sureAddr,loadVar,Sem.run_bind,Sem.run_pure,Result.andThen_ok];split at h<;>try cases h
 .rename_i kt;rw[gT (by rw[wJ];exact kt)]
  split at h<;>try cases h
  rename_i n hn;rw[aF]at h;obtain⟨l,hl,rfl⟩:=h;obtain⟨rfl,hle⟩:=B4 hl;have hv:=D9 hcs hle;refine⟨_,?_,.mkAgg hv⟩;have hlen:((C.toList.drop (p.o+off)).take n).length=n:=by rw[<-hv.1];simp;omega
  simp only[Result.andThen_ok,bQ,Sem.run_bind,gT (w:=w) (show cU P (Go.sizeOf t)=aa n by rw[dY];exact hn),aAf hC hlen,Sem.run_pure]
 .rename_i kt;rw[gT (by rw[wJ];exact kt)]
  obtain⟨u,hu,hr⟩:=hcs _ _ h;refine⟨u,?_,hr⟩;simp[El hC,hu]
def aOd(S:Sim w0 P Y H w)(id:Nat)(p:Place)(z:Nat)(hp:Y id=aa p)(h:rU H id z=ah):p.z=z:=by
 unfold rU at h;split at h
 .rename_i cs m bh;obtain⟨hg,bf⟩:=St.row_some bh;rw[dZ,aD]at h;rw[<-h];exact(S.row id p cs m hp hg bf).z
 .cases h
def FR(Y:Mp):f9 (Nat×av)->f9 (Nat×av)->Prop
 |none,ae=>True
 |some (i,v),aa (j,u)=>i=j/\VR Y v u
 |_,_=>False
def aIW{Z Z':a8->av}{o:Oper}{v:av}(S:Sim w0 P Y H w)(hρ: ∀x∈o.op.operands,VR Y (Z x) (Z' x))(h:mA P H Z o=aa v):
    ∃v',(execOp Z' o).run P w= .ok (.value v') w/\VR Y v v':=by
 unfold mA at h;unfold execOp;cases ho:o.op<;>simp only[ho]at h hρ⊢ <;>try cases h
 case load t a=>
  obtain⟨v',h1,h2⟩:=yJ S (hρ a (by simp[Op.operands])) h
  exact⟨v',by simp[h1],h2⟩
 case slice t x lo hi mx=>
  obtain⟨v',h1,h2⟩:=aDF (Y:=Y) (P:=P) (aOd S) (hρ x (by simp[Op.operands])) (Xj lo λy hy=>hρ y (by simp[Op.operands,hy])) (Xj hi λy hy=>hρ y (by simp[Op.operands,hy]))
   (Xj mx λy hy=>hρ y (by simp[Op.operands,hy])) h
  exact⟨v',by simp[gT h1],h2⟩
def GC: ∀(l:au av) (ns:au Int),bytesOf l=aa ns->l=ns.map (Value.int .u8):=by
 intro l;induction l with
 |nil=>intro ns h;simp only[bytesOf,aA]at h;subst h;rfl
 |cons x l ih=>
  intro ns h;unfold bytesOf at h;split at h
  .cases ‹_::_=[]›
  .rename_i n r e;cases e;rw[aF]at h;obtain⟨ns',h1,rfl⟩:=h;rw[ih ns' h1];rfl
  .cases h
def IQ{l:au av}{ns:au Int}(h:bytesOf l=aa ns):l.all bZ=ah:=by
 rw[GC l ns h,bK];intro x hx;obtain⟨n,_,rfl⟩:=List.mem_map.1 hx;rfl
def aDQ{s d:aw}{a b v:av}(S:Sim w0 P Y H w)(r:VR Y a b)(h:vI P H s d a=aa v):(convert s d b).run P w= .ok v w:=by
 unfold vI at h;split at h<;>try cases h
 rename_i e hs hd;split at h<;>try cases h
 rename_i he;split at h<;>try cases h
 .rename_i id off n c;obtain⟨p,cap,hp,rfl,_⟩:=r.slc_inv;split at h<;>try cases h
  rename_i cs m bh;split at h<;>try cases h
  rename_i l hl;rw[aF]at h;obtain⟨ns,qc,rfl⟩:=h;obtain⟨hg,bf⟩:=St.row_some bh;obtain⟨C,ty,fr,hC,hcs,_⟩:=(S.row id p cs m hp hg bf).row;obtain⟨rfl,hle⟩:=B4 hl;have hv:=D9 hcs hle;have hlen:((C.toList.drop (p.o+off)).take n).length=n:=by rw[<-hv.1];simp;omega
  have heq:=hv.eq0 (IQ qc);rw[run_convert_bytes_string w s d e _ _ _ hs he hd];refine run_bytesToString w _ n cap ns ?_;rw[aAf hC hlen,heq,GC _ _ qc]
 .cases r with
  |same _ hp=>simp[bZ]at hp
  |emp a' s' cap h'=>
   rw[run_convert_bytes_string w s d e _ _ _ hs he hd];exact run_bytesToString w a' 0 cap [] rfl
end
section
variable{w0:W0}{P:az}{Y:Mp}{H:St}{w:ib}
def upd(Y:Mp)(id:Nat)(p:Place):Mp:=λk=>if k=id then aa p else Y k
def kV(Y:Mp)(id:Nat)(p:Place):upd Y id p id=aa p:=by simp[upd]
def jM{Y:Mp}{id k:Nat}{p:Place}(h:k≠id):upd Y id p k=Y k:=by simp[upd,h]
def KeptO.upd{w0:W0}{Y:Mp}{w:ib}(K:KeptO w0 Y w){id:Nat}{q:Place}(h: ∀k o,w0.O k=aa o->q.b≠k)(hb:q.b<w.heap.size):KeptO w0 (upd Y id q) w:=
 ⟨K.toKept,λk o hk=>⟨(K.oth k o hk).1,λj r hj=>by
  by_cases e:j=id
  .subst e;rw[kV]at hj;cases hj;exact h k o hk
  .rw[jM e]at hj;exact(K.oth k o hk).2 j r hj⟩,λj r hj=>by
  by_cases e:j=id
  .subst e;rw[kV]at hj;cases hj;exact hb
  .rw[jM e]at hj;exact K.bnd j r hj⟩
def mC{Y:Mp}{id:Nat}(p:Place)(h:Y id=ae): ∀k q,Y k=aa q->upd Y id p k=aa q:=by
 intro k q hk;rw[jM];exact hk;intro e;subst e;rw[h]at hk;cases hk
def Sim.lt(S:Sim w0 P Y H w){id:Nat}{p:Place}{cs:au av}{m:wB}(hp:Y id=aa p)(hg:H.get id=aa (.cells cs m))(hm:H.good m=ah):p.b<w.heap.size:=by
 obtain⟨C,t,fr,hC,_⟩:=(S.row id p cs m hp hg hm).row;exact(oq.1 hC).1
def Sim.lt_map(S:Sim w0 P Y H w){id:Nat}{p:Place}{es:au (av×av)}(hp:Y id=aa p)(hg:H.get id=aa (.map es)):p.b<w.heap.size:=by
 obtain⟨C,t,hC,_⟩:=(S.map id p es hp hg).map;exact(oq.1 hC).1
def Sim.put_new(S:Sim w0 P Y H w){id:Nat}{ob:AObj}(h:Y id=ae)(hv: ∀cs m g v,ob= .cells cs m->m.grp=aa (g,v)->v<=H.ver g):Sim w0 P Y (H.put id ob) w:=by
 have bi: ∀{k p},Y k=aa p->k≠id:=by intro k p hk e;subst e;rw[h]at hk;cases hk
 have bc: ∀{k p},Y k=aa p->(H.put id ob).get k=H.get k:=by intro k p hk;rw[St.get_put,bI (bi hk)]
 refine⟨S.kept,S.dom,S.glob,?_,?_,?_,?_,?_,?_,?_⟩
 .intro k p cs m hp hg hm;rw[bc hp]at hg;exact S.row k p cs m hp hg hm
 .intro k p es hp hg;rw[bc hp]at hg;exact S.map k p es hp hg
 .intro i j p q cs ds m n bp hp hq hg bj hm hn hw hs;rw[bc hp]at hg;rw[bc hq]at bj;exact S.off i j p q cs ds m n bp hp hq hg bj hm hn hw hs
 .intro i j p q cs ds m n bp hp hq hg bj hm hn hw;rw[bc hp]at hg;rw[bc hq]at bj;exact S.tip i j p q cs ds m n bp hp hq hg bj hm hn hw
 .intro i j p q es fs bp hp hq hg bj;rw[bc hp]at hg;rw[bc hq]at bj;exact S.maps i j p q es fs bp hp hq hg bj
 .intro k cs m g v hg gr;rw[St.get_put]at hg;split at hg
  .cases hg;exact hv cs m g v rfl gr
  .exact S.vers k cs m g v hg gr
 .intro i j p q cs ds m n bp hp hq hg bj hm hn hw;rw[bc hp]at hg;rw[bc hq]at bj;exact S.lim i j p q cs ds m n bp hp hq hg bj hm hn hw
def Sim.next(S:Sim w0 P Y H w){n:Nat}(h:H.next<=n):Sim w0 P Y {H with next:=n} w:=
 ⟨S.kept,λid hi=>S.dom id (Nat.le_trans h hi),S.glob,S.row,S.map,S.off,S.tip,S.maps,S.vers,S.lim⟩
def Sim.drawn(S:Sim w0 P Y H w)(n:Nat):Sim w0 P Y H {w with drawn:=n}:=
 ⟨⟨⟨S.kept.os,S.kept.output,S.kept.size,S.kept.old⟩,S.kept.oth,S.kept.bnd⟩,S.dom,S.glob,λid p cs m hp hg hm=>by
      obtain⟨h1,h2,h3,h4,h5⟩:=S.row id p cs m hp hg hm;exact⟨h1,h2,h3,h4,h5⟩,
  λid p es hp hg=>by obtain⟨h1,h2⟩:=S.map id p es hp hg;exact⟨h1,h2⟩,S.off,S.tip,S.maps,S.vers,S.lim⟩
def aUz(Y:Mp)(p:Place)(O:Obj):AObj->Prop
 | .cells cs m=> ∃C t,O= .cells C t (0,0)/\(∀(i:Nat) (v:av),cs[i]?=aa v->∃u,C[i]?=aa u/\VR Y v u)/\(m.tip=ah->cs.length<=p.e/\p.e<=C.size)/\p.z=m.z
 | .map es=>O= .map #[] 0/\es=[]
def sW{w:ib}{O:Obj}{k:Nat}(h:k<w.heap.size):(w.heap.push O)[k]?=w.heap[k]?:=by
 rw[Array.getElem?_push,bI (by omega)]
def Fc(w:ib)(O:Obj):(w.heap.push O)[w.heap.size]?=aa O:=by simp
def Sim.alloc(S:Sim w0 P Y H w){id:Nat}{ob:AObj}{O:Obj}{p:Place}(h:Y id=ae)(hid:id<H.next)(fj:H.get id=aa ob)(α:aUz Y p O ob)(hb:p.b=w.heap.size)(ho:p.o=0):
    Sim w0 P (upd Y id p) H {w with heap:=w.heap.push O}:=by
 have bv:=mC p h;have bg: ∀{k q},upd Y id p k=aa q->(k=id/\q=p)∨(k≠id/\Y k=aa q):=by
  intro k q hk;by_cases e:k=id
  .subst e;rw[kV]at hk;cases hk;exact .inl ⟨rfl,rfl⟩
  .rw[jM e]at hk;exact .inr ⟨e,hk⟩
 have ke: ∀{k q cs m},Y k=aa q->H.get k=aa (.cells cs m)->H.good m=ah->p.b≠q.b:=by
  intro k q cs m hq hg hm;have:=S.lt hq hg hm;omega
 refine⟨⟨⟨S.kept.os,S.kept.output,?_,?_⟩,λk o hk=>⟨(sW (oq.1 (S.kept.oth k o hk).1).1).trans (S.kept.oth k o hk).1,λj q hj=>by
  have h1:=(oq.1 (S.kept.oth k o hk).1).1;rcases bg hj with⟨rfl,rfl⟩|⟨_,hq⟩
  .omega
  .exact(S.kept.oth k o hk).2 j q hq⟩,λj q hj=>by
  show _<(w.heap.push O).size;rw[Array.size_push];rcases bg hj with⟨rfl,rfl⟩|⟨_,hq⟩
  .omega
  .have:=S.kept.bnd j q hq;omega⟩,?_,?_,?_,?_,?_,?_,?_,S.vers,?_⟩
 .have:=S.kept.size;simp;omega
 .intro k hk;have:=S.kept.size;show(w.heap.push O)[k]?=_;rw[sW (by omega)];exact S.kept.old k hk
 .intro k hk;rw[jM (by omega)];exact S.dom k hk
 .intro g hg;obtain⟨q,hq,h1,h2⟩:=S.glob g hg;exact⟨q,bv g q hq,h1,h2⟩
 .intro k q cs m hq hg hm;rcases bg hq with⟨rfl,rfl⟩|⟨hk,ge⟩
  .rw[fj]at hg;cases hg;obtain⟨C,t,rfl,hcs,cm,hz⟩:=α;refine⟨⟨C,t,(0,0),by rw[hb];exact Fc w _,λi v hi=>?_,λht=>(cm ht).2⟩,λ_=>by have:=S.kept.size;omega,λht=>by rw[ho];have:=(cm ht).1;omega,hz,λ_ C1 t1 fr1 e1=>by rw[hb]at e1;have:=(Fc w _).symm.trans e1;cases this;rfl⟩
   obtain⟨u,hu,hr⟩:=hcs i v hi;exact⟨u,by rw[ho,ir];exact hu,hr.mono' bv⟩
  .obtain⟨⟨C,t,fr,hC,hcs,cm⟩,h2,h3,h4,h5⟩:=S.row k q cs m ge hg hm;exact⟨⟨C,t,fr,(sW (S.lt ge hg hm)).trans hC,λi v hi=>let ⟨u,hu,hr⟩:=hcs i v hi;⟨u,hu,hr.mono' bv⟩,cm⟩,h2,h3,h4,λhw C1 t1 fr1 e1=>h5 hw C1 t1 fr1 ((sW (S.lt ge hg hm)).symm.trans e1)⟩
 .intro k q es hq hg;rcases bg hq with⟨rfl,rfl⟩|⟨hk,ge⟩
  .rw[fj]at hg;cases hg;obtain⟨rfl,rfl⟩:=α;exact⟨⟨#[],0,by rw[hb];exact Fc w _,.nil,.nil⟩,by have:=S.kept.size;omega⟩
  .obtain⟨⟨ES,c,hC,h1,h2⟩,h3⟩:=S.map k q es ge hg;exact⟨⟨ES,c,(sW (S.lt_map ge hg)).trans hC,h1.mono' bv,h2.mono' bv⟩,h3⟩
 .intro i j a b cs ds m n bp ha bm hg bj hm hn hw hs;rcases bg ha with⟨rfl,rfl⟩|⟨hi,cp⟩
  .rcases bg bm with⟨rfl,rfl⟩|⟨hj,fa⟩
   .exact absurd rfl bp
   .exact λe=>absurd e (ke fa bj hn)
  .rcases bg bm with⟨rfl,rfl⟩|⟨hj,fa⟩
   .exact λe=>absurd e.symm (ke cp hg hm)
   .exact S.off i j a b cs ds m n bp cp fa hg bj hm hn hw hs
 .intro i j a b cs ds m n bp ha bm hg bj hm hn hw;rcases bg ha with⟨rfl,rfl⟩|⟨hi,cp⟩
  .rcases bg bm with⟨rfl,rfl⟩|⟨hj,fa⟩
   .exact absurd rfl bp
   .exact⟨λe=>absurd e (ke fa bj hn),λ_ e=>absurd e (ke fa bj hn)⟩
  .rcases bg bm with⟨rfl,rfl⟩|⟨hj,fa⟩
   .exact⟨λe=>absurd e.symm (ke cp hg hm),λ_ e=>absurd e.symm (ke cp hg hm)⟩
   .exact S.tip i j a b cs ds m n bp cp fa hg bj hm hn hw
 .intro i j a b es fs bp ha bm hg bj;rcases bg ha with⟨rfl,rfl⟩|⟨hi,cp⟩
  .rcases bg bm with⟨rfl,rfl⟩|⟨hj,fa⟩
   .exact absurd rfl bp
   .have:=S.lt_map fa bj;omega
  .rcases bg bm with⟨rfl,rfl⟩|⟨hj,fa⟩
   .have:=S.lt_map cp hg;omega
   .exact S.maps i j a b es fs bp cp fa hg bj
 .intro i j a b cs ds m n bp ha bm hg bj hm hn hw;rcases bg ha with⟨rfl,rfl⟩|⟨hi,cp⟩
  .rcases bg bm with⟨rfl,rfl⟩|⟨hj,fa⟩
   .exact absurd rfl bp
   .exact λe=>absurd e (ke fa bj hn)
  .rcases bg bm with⟨rfl,rfl⟩|⟨hj,fa⟩
   .exact λe=>absurd e.symm (ke cp hg hm)
   .exact S.lim i j a b cs ds m n bp cp fa hg bj hm hn hw
def VRL.at{xs us:au av}(r:VRL Y xs us): ∀(i:Nat) (v:av),xs[i]?=aa v->∃u,us.toArray[i]?=aa u/\VR Y v u:=by
 intro i v h;obtain⟨u,hu,hr⟩:=r.get h;exact⟨u,by simpa using hu,hr⟩
def VRL.atA{xs:au av}{us:Array av}(r:VRL Y xs us.toList): ∀(i:Nat) (v:av),xs[i]?=aa v->∃u,us[i]?=aa u/\VR Y v u:=by
 intro i v h;obtain⟨u,hu,hr⟩:=r.get h;exact⟨u,by simpa using hu,hr⟩
def wC(z:au av)(n:Nat):(eU z n).length=n*z.length:=by
 induction n with
 |zero=>simp[eU]
 |succ n ih=>simp[eU,ih,Nat.succ_mul,Nat.add_comm]
def qY(z:au av)(hz:0<z.length): ∀(n i:Nat),(eU z n)[i]?=if i<n*z.length then z[i%z.length]? else ae:=by
 intro n;induction n with
 |zero=>intro i;simp[eU]
 |succ n ih=>
  intro i;simp only[eU,List.getElem?_append];split
  .rename_i h;rw[bJ (by rw[Nat.succ_mul];omega),Nat.mod_eq_of_lt h]
  .rename_i h;rw[ih,Nat.succ_mul];have:(i-z.length)%z.length=i%z.length:=by
    conv=>rhs;rw[show i=(i-z.length)+z.length from by omega]
    rw[Nat.add_mod_right]
   rw[this];by_cases h':i-z.length<n*z.length
   .rw[bJ h',bJ (by omega)]
   .rw[bI h',bI (by omega)]
def Qx(z:Array av)(n s:Nat)(hz:z.size=s)(hs:1<=s):(Array.map (λx=>z[x%z.size]!) (Array.range (n*s)))=(eU z.toList n).toArray:=by
 apply Array.ext';apply List.ext_getElem?;intro i;rw[qY z.toList (by simp;omega)]
 simp only[Array.toList_map,Array.toList_range,m8,Array.length_toList,hz];by_cases h:i<n*s
 .rw[bJ h,List.getElem?_range h];have h2:i%s<z.size:=by rw[hz];exact Nat.mod_lt _ (by omega)
  simp[h2]
 .rw[bI h];simp;omega
def Au{z:au av}(h:z.all bZ=ah)(n:Nat):(eU z n).all bZ=ah:=by
 induction n with
 |zero=>rfl
 |succ n ih=>simp only[eU,oe,aC];exact⟨h,ih⟩
def Kx{Z Z':a8->av}{o:Oper}{id:Nat}{v:av}{ob:AObj}(w:ib)(hρ: ∀x∈o.op.operands,VR Y (Z x) (Z' x))(h:gK P Z o id=aa (v,ob)):
    ∃v' O p,(execOp Z' o).run P w= .ok (.value v') {w with heap:=w.heap.push O}/\p.b=w.heap.size/\p.o=0/\aUz Y p O ob/\(∀Y':Mp,Y' id=aa p->VR Y' v v'):=by
 unfold gK at h;unfold execOp;cases ho:o.op<;>simp only[ho]at h hρ⊢ <;>try cases h
 case alloc t=>
  split at h<;>try cases h
  rename_i z hz;cases hp:z.cells.toList.all bZ with
  |false=>rw[hp]at h;cases h
  |true=>
   rw[hp]at h;simp only[aI,aA,aB]at h;obtain⟨rfl,rfl⟩:=h;refine⟨.pointer (aa ⟨w.heap.size,0,ae⟩),.cells z.cells t (0,0),⟨w.heap.size,0,0,0⟩,?_,rfl,rfl,⟨z.cells,t,rfl,VRL.atA (.same hp),(λh=>by cases h),rfl⟩,λY' hμ=>VR.ptr id 0 _ hμ⟩
   simp[Instr.alloc,gT hz,newVar,newRow]
 case box t x=>
  have hx:=hρ x (by simp[Op.operands])
  cases hp:(Z x).cells.toList.all one with
  |false=>rw[hp]at h;cases h
  |true=>
   rw[hp]at h;simp only[aI,aA,aB]at h;obtain⟨rfl,rfl⟩:=h;refine⟨.pointer (aa ⟨w.heap.size,0,ae⟩),.cells (Z' x).cells t (0,0),⟨w.heap.size,0,0,0⟩,?_,rfl,rfl,⟨_,t,rfl,VRL.atA hx.cells,(λh=>by cases h),rfl⟩,λY' hμ=>VR.ptr id 0 _ hμ⟩
   simp[Instr.box,newVar,newRow]
 case buildSlice t len parts=>
  split at h<;>try cases h
  rename_i e hu;split at h<;>try cases h
  rename_i s hs;split at h<;>try cases h
  rename_i z hz;cases hp:(z.cells.toList.all bZ&&aq (len*s) 1000000&&ao z.cells.size s&&aq 1 s)with
  |false=>rw[hp]at h;cases h
  |true=>
   rw[hp]at h;simp only[aC,CG,dZ,aD]at hp;obtain⟨⟨⟨hp,hle⟩,jk⟩,hs1⟩:=hp;simp only[aI,aF,aB]at h;obtain⟨cs,hf,rfl,rfl⟩:=h;have hPR:PR Y (parts.map λ(i,x)=>(i,Z x)).toList (parts.map λ(i,x)=>(i,Z' x)).toList:=by
    simpa using aKR parts.toList (λx hx=>hρ x.2 (by simp[Op.operands];exact⟨_,Array.mem_toList_iff.1 hx⟩))
   have hz0:=Au hp len;obtain⟨cq,jl,hr⟩:=Mi (Y:=Y) _ _ _ _ _ _ hPR (VRL.toArray_cells (.same hz0)) hf;refine⟨.slice (aa ⟨w.heap.size,0,ae⟩) len len,.cells cq e (0,0),⟨w.heap.size,0,len*s,s⟩,?_,rfl,rfl,⟨cq,e,rfl,VRL.atA hr,(λh=>by cases h),rfl⟩,
    λY' hμ=>VR.slc id 0 len len len _ hμ (λ_=>rfl) (aS _) (.inl (by simp))⟩
   unfold Instr.buildSlice;have hbig: ¬(len*s>2^24):=by omega
   simp only[Sem.run_bind,gT (w:=w) (show cU P (underlying t)=aa (.slice e) by rw[cC];exact hu),Result.andThen_ok,
    gT (w:=w) (show cU P (Go.sizeOf e)=aa s by rw[dY];exact hs),bI hbig]
   by_cases h0:len*s=0
   .rw[bJ h0];have hl0:len=0:=by
     rcases Nat.mul_eq_zero.1 h0 with h|h
     .exact h
     .omega
    subst hl0;simp only[eU]at jl;simp only[Sem.run_bind,Sem.run_pure,Result.andThen_ok,Nat.zero_mul,Array.range_zero',Array.map_empty];have wc:Instr.fill (λi=>aa (i*s,s)) #[] (parts.map λ(i,x)=>(i,Z' x)).toList=aa cq:=jl
    rw[wc];simp[newRow]
   .rw[bI h0];simp only[Sem.run_bind,gT (w:=w) hz,Sem.run_pure,Result.andThen_ok,Qx z.cells len s jk hs1];have wc:Instr.fill (λi=>aa (i*s,s)) (eU z.cells.toList len).toArray (parts.map λ(i,x)=>(i,Z' x)).toList=aa cq:=jl
    rw[wc];simp[newRow]
 case makeSlice t l c=>
  have hl:=hρ l (by simp[Op.operands])
  have hc:=hρ c (by simp[Op.operands])
  split at h<;>try cases h
  rename_i e n k hu fe nj;rw[fe]at hl;rw[nj]at hc;rw[hl.int_inv,hc.int_inv];split at h<;>try cases h
  rename_i info hi;split at h<;>try cases h
  rename_i z hz;cases hp:(ak (0<=n)&&ak (n<=k)&&ak (k*(info.bytes:Int)<=1073741824)&&ak (k<=1073741824)&&z.cells.toList.all bZ&&ao z.cells.size info.size&&aq 1 info.size)with
  |false=>rw[hp]at h;cases h
  |true=>
   rw[hp]at h;simp only[aC,CG,dZ,aD]at hp;obtain⟨⟨⟨⟨⟨⟨h0,hnk⟩,hkb⟩,hk⟩,vf⟩,jk⟩,hs1⟩:=hp;have gb:=run_make (P:=P) w t e info z hu hi hz .i64 .i64 n k h0 hnk (by rw[Int.mul_comm];omega) (by omega)
   have sf:madeCells z.cells (k.toNat*info.size)=(eU z.cells.toList k.toNat).toArray:=by
    unfold madeCells;exact Qx z.cells k.toNat info.size jk hs1
   have pz:z.cells.toList.length=info.size:=by simpa using jk
   simp only[aI]at h;cases vk:ak (n=k)with
   |true=>
    rw[vk]at h;simp only[aI,aA,aB]at h;obtain⟨rfl,rfl⟩:=h;have:n=k:=by simpa using vk
    subst this;refine⟨.slice (aa ⟨w.heap.size,0,ae⟩) n.toNat n.toNat,.cells (eU z.cells.toList n.toNat).toArray e (0,0),⟨w.heap.size,0,n.toNat*info.size,info.size⟩,?_,rfl,rfl,
     ⟨_,e,rfl,VRL.at (.same (Au vf _)),(λh=>by cases h),rfl⟩,λY' hμ=>VR.slc id 0 _ _ _ _ hμ (λ_=>rfl) (aS _) (.inl (by simp))⟩
    simp only[Sem.run_bind,gb,sf,Result.andThen_ok,Sem.run_pure];rfl
   |false=>
    rw[vk]at h;simp only[aJ,aA,aB]at h;obtain⟨rfl,rfl⟩:=h;refine⟨.slice (aa ⟨w.heap.size,0,ae⟩) n.toNat k.toNat,.cells (eU z.cells.toList k.toNat).toArray e (0,0),⟨w.heap.size,0,k.toNat*info.size,info.size⟩,?_,rfl,rfl,
     ⟨_,e,rfl,?_,(λ_=>?_),rfl⟩,λY' hμ=>VR.slc id 0 _ _ _ _ hμ (λe=>by omega) (by omega) (.inl (by simp))⟩
    .simp only[Sem.run_bind,gb,sf,Result.andThen_ok,Sem.run_pure];rfl
    .intro i v hv;have hlt:i<n.toNat*z.cells.toList.length:=by
      rw[qY _ (by omega)]at hv
      split at hv
      .assumption
      .cases hv
     rw[qY _ (by omega),bJ hlt]at hv
     have hlt':i<k.toNat*z.cells.toList.length:=Nat.lt_of_lt_of_le hlt (Nat.mul_le_mul_right _ (by omega))
     have dm:bZ v=ah:=bK.1 vf v (ef hv);refine⟨v,?_,.same v dm⟩;have:(eU z.cells.toList k.toNat)[i]?=aa v:=by rw[qY _ (by omega),bJ hlt'];exact hv
     simpa using this
    .constructor
     .show(eU z.cells.toList n.toNat).length<=k.toNat*info.size;rw[wC,pz];exact Nat.mul_le_mul_right _ (by omega)
     .show k.toNat*info.size<=(eU z.cells.toList k.toNat).toArray.size;simp[wC,jk]
end
end Go.AI
