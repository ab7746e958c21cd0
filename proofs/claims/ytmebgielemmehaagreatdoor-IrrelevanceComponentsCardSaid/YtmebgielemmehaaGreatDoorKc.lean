import Derived.Test.YtmebgielemmehaaGreatDoorKb
set_option linter.unusedVariables false
set_option linter.unusedSimpArgs false
set_option linter.constructorNameAsVariable false
set_option linter.defProp false
namespace Go.AI
def Tr.get_nil{N:Type}(n:Nat):(Tr.nil:Tr N).get n=none:=rfl
def cQ(a b:Nat):Nat.beq a b=decide (a=b):=by
 cases h:Nat.beq a b with
 |true=>simp[aE h]
 |false=>simp[Nat.ne_of_beq_eq_false h]
def qX(a b:Nat):Nat.ble a b=decide (a<=b):=by
 cases h:Nat.ble a b with
 |true=>simp[bP h]
 |false=>symm;rw[bC];intro hl;rw[Nat.ble_eq_true_of_le hl]at h;cases h
def gQ(a b:Nat):Nat.blt a b=decide (a<b):=by
 simp[Nat.blt,qX,Nat.succ_le_iff]
def Tr.get_node{N:Type}(v:Option N)(l r:Tr N)(n:Nat):(Tr.node v l r).get n=if n=0 then v else if n%2=1 then l.get (n/2)else r.get (n/2-1):=by
 simp only[Tr.get,cQ,Bool.cond_decide]
def Tr.get_setF{N:Type}: ∀(f:Nat) (t:Tr N) (n m:Nat) (x:N),n<f->(Tr.setF f t n x).get m=if m=n then some x else t.get m:=by
 intro f;induction f with
 |zero=>intro t n m x h;omega
 |succ f ih=>
  intro t n m x h;cases t with
  |nil=>
   simp only[Tr.setF,cQ,Bool.cond_decide];split
   .rename_i hn;subst hn;simp only[Tr.get_node,Tr.get_nil];split<;>simp
   .split
    .simp only[Tr.get_node,Tr.get_nil];split
     .rw[bH (by omega)]
     .split
      .rw[ih _ _ _ _ (by omega),Tr.get_nil]
       by_cases e:m=n
       .subst e;simp
       .rw[bH e,bH (by omega)]
      .rw[bH (by omega)]
    .simp only[Tr.get_node,Tr.get_nil];split
     .rw[bH (by omega)]
     .split
      .rw[bH (by omega)]
      .rw[ih _ _ _ _ (by omega),Tr.get_nil]
       by_cases e:m=n
       .subst e;simp
       .rw[bH e,bH (by omega)]
  |node v l r=>
   simp only[Tr.setF,cQ,Bool.cond_decide];split
   .rename_i hn;subst hn;simp only[Tr.get_node];split<;>simp_all
   .split
    .simp only[Tr.get_node];split
     .rw[bH (by omega)]
     .split
      .rw[ih _ _ _ _ (by omega)]
       by_cases e:m=n
       .subst e;simp
       .rw[bH e,bH (by omega)]
      .rw[bH (by omega)]
    .simp only[Tr.get_node];split
     .rw[bH (by omega)]
     .split
      .rw[bH (by omega)]
      .rw[ih _ _ _ _ (by omega)]
       by_cases e:m=n
       .subst e;simp
       .rw[bH e,bH (by omega)]
def Tr.get_set{N:Type}(t:Tr N)(n m:Nat)(x:N):(t.set n x).get m=if m=n then some x else t.get m:=
 Tr.get_setF _ _ _ _ _ (Nat.lt_succ_self n)
def dV{N:Type}{P:Program}{s:Sem N}{a:N}(h:bX P s=some a)(w:World):s.run P w= .ok a w:=by
 induction s with
 |pure b=>simp only[bX,aA]at h;subst h;rfl
 |program k ih=>simp only[bX]at h;exact ih _ h
 |mark m k ih=>simp only[bX]at h;exact ih h
 |_=>simp[bX]at h
def bQ{N W:Type}{P:Program}(s:Sem N)(k:N->Sem W):bX P (s>>=k)=(bX P s).bind λa=>bX P (k a):=by
 induction s with
 |pure b=>rfl
 |program k ih=>exact ih _
 |mark m k ih=>exact ih
 |_=>rfl
def bS{N:Type}{P:Program}(a:N):bX P (pure a:Sem N)=some a:=rfl
structure Place where
 b:Nat
 o:Nat
 e:Nat
 z:Nat
abbrev Mp:=Nat->Option Place
inductive VR(Y:Mp):Value->Value->Prop where
 |same (v:Value) (h:bR v=true):VR Y v v
 |ptr (id off:Nat) (p:Place) (h:Y id=some p):VR Y (.pointer (some ⟨id,off,none⟩)) (.pointer (some ⟨p.b,p.o+off,none⟩))
 |slc (id off len c cap:Nat) (p:Place) (h:Y id=some p) (hc:c=len->cap=len) (hl:len<=cap) (he:p.o+off+cap*p.z<=p.e∨p.z=0):
      VR Y (.slice (some ⟨id,off,none⟩) len c) (.slice (some ⟨p.b,p.o+off,none⟩) len cap)
 |emp (a:Addr) (s cap:Nat) (h:s=1->cap=0):VR Y (.slice (some ⟨0,0,some s⟩) 0 0) (.slice (some a) 0 cap)
 |mp (id:Nat) (p:Place) (h:Y id=some p):VR Y (.map (some id)) (.map (some p.b))
 |fn (f:Fn) (xs ys us vs:Array Value) (hl:xs.toList.length=us.toList.length) (h: ∀(i:Nat) (x u:Value),xs.toList[i]?=some x->us.toList[i]?=some u->VR Y x u)
      (dw:ys.toList.length=vs.toList.length) (h': ∀(i:Nat) (x u:Value),ys.toList[i]?=some x->vs.toList[i]?=some u->VR Y x u):VR Y (.func f xs ys) (.func f us vs)
 |iface (t:TypeId) (x u:Value) (h:VR Y x u):VR Y (.iface t x) (.iface t u)
 |agg (xs us:Array Value) (hl:xs.toList.length=us.toList.length) (h: ∀(i:Nat) (x u:Value),xs.toList[i]?=some x->us.toList[i]?=some u->VR Y x u):VR Y (.agg xs) (.agg us)
 |tuple (xs us:Array Value) (hl:xs.toList.length=us.toList.length) (h: ∀(i:Nat) (x u:Value),xs.toList[i]?=some x->us.toList[i]?=some u->VR Y x u):VR Y (.tuple xs) (.tuple us)
def VRL(Y:Mp)(xs us:List Value):Prop:=xs.length=us.length/\∀(i:Nat) (x u:Value),xs[i]?=some x->us[i]?=some u->VR Y x u
def Ext(n:Nat)(Y Y':Mp):Prop:=(∀id p,Y id=some p->Y' id=some p)/\∀id,id<n->Y' id=Y id
def Ext.refl(n:Nat)(Y:Mp):Ext n Y Y:=⟨λ_ _ h=>h,λ_ _=>rfl⟩
def Ext.trans{n n':Nat}{Y Y' Y'':Mp}(h:Ext n Y Y')(h':Ext n' Y' Y'')(hn:n<=n'):Ext n Y Y'':=
 ⟨λid p e=>h'.1 id p (h.1 id p e),λid hi=>(h'.2 id (by omega)).trans (h.2 id hi)⟩
def Ext.mono{n n':Nat}{Y Y':Mp}(h:Ext n Y Y')(hn:n'<=n):Ext n' Y Y':=⟨h.1,λid hi=>h.2 id (by omega)⟩
def VR.mono'{Y Y':Mp}(h: ∀id p,Y id=some p->Y' id=some p){v u:Value}(r:VR Y v u):VR Y' v u:=by
 induction r with
 |same v hv=>exact .same v hv
 |ptr id off p hp=>exact .ptr id off p (h _ _ hp)
 |slc id off len c cap p hp hc hl he=>exact .slc id off len c cap p (h _ _ hp) hc hl he
 |emp a s cap h=>exact .emp a s cap h
 |mp id p hp=>exact .mp id p (h _ _ hp)
 |fn f xs ys us vs hl _ dw _ ih qx=>exact .fn f xs ys us vs hl ih dw qx
 |iface t x u _ ih=>exact .iface t x u ih
 |agg xs us hl _ ih=>exact .agg xs us hl ih
 |tuple xs us hl _ ih=>exact .tuple xs us hl ih
def VRL.mono'{Y Y':Mp}(h: ∀id p,Y id=some p->Y' id=some p){xs us:List Value}(r:VRL Y xs us):VRL Y' xs us:=
 ⟨r.1,λi x u hx hu=>(r.2 i x u hx hu).mono' h⟩
def VR.mono{n:Nat}{Y Y':Mp}(h:Ext n Y Y'){v u:Value}(r:VR Y v u):VR Y' v u:=r.mono' h.1
def VRL.mono{n:Nat}{Y Y':Mp}(h:Ext n Y Y'){xs us:List Value}(r:VRL Y xs us):VRL Y' xs us:=r.mono' h.1
section
variable{Y:Mp}
def VR.eq0{v u:Value}(r:VR Y v u)(h:bR v=true):u=v:=by
 cases r<;>first|rfl|simp[bR]at h
def VRL.nil:VRL Y [] []:=⟨rfl,λi x u h=>by simp at h⟩
def VRL.cons{x u:Value}{xs us:List Value}(h:VR Y x u)(r:VRL Y xs us):VRL Y (x::xs) (u::us):=by
 refine⟨by simp[r.1],λi y v hy hv=>?_⟩
 cases i with
 |zero=>simp at hy hv;subst hy;subst hv;exact h
 |succ i=>simp at hy hv;exact r.2 i y v hy hv
def VRL.cons_inv{x:Value}{xs us:List Value}(r:VRL Y (x::xs) us): ∃u vs,us=u::vs/\VR Y x u/\VRL Y xs vs:=by
 cases us with
 |nil=>have:=r.1;simp at this
 |cons u vs=>exact⟨u,vs,rfl,r.2 0 x u (by simp) (by simp),by simpa using r.1,λi y v hy hv=>r.2 (i+1) y v (by simpa using hy) (by simpa using hv)⟩
def VRL.nil_inv{us:List Value}(r:VRL Y [] us):us=[]:=by
 have:=r.1;simpa using this.symm
def VRL.get{xs us:List Value}(r:VRL Y xs us){i:Nat}{x:Value}(h:xs[i]?=some x): ∃u,us[i]?=some u/\VR Y x u:=by
 have hi:i<xs.length:=by
  rcases Nat.lt_or_ge i xs.length with h'|h'
  .exact h'
  .simp[List.getElem?_eq_none h']at h
 have:us[i]?=some (us[i]'(r.1▸hi)):=aV _;exact⟨_,this,r.2 i x _ h this⟩
def VRL.append{xs us ys vs:List Value}(r:VRL Y xs us)(s:VRL Y ys vs):VRL Y (xs++ys) (us++vs):=by
 induction xs generalizing us with
 |nil=>rw[r.nil_inv];exact s
 |cons x xs ih=>obtain⟨u,gm,rfl,h,r'⟩:=r.cons_inv;exact .cons h (ih r')
def VRL.eq0{xs us:List Value}(r:VRL Y xs us)(h:xs.all bR=true):us=xs:=by
 induction xs generalizing us with
 |nil=>exact r.nil_inv
 |cons x xs ih=>
  obtain⟨u,gm,rfl,hx,r'⟩:=r.cons_inv;simp only[aP,aC]at h;rw[hx.eq0 h.1,ih r' h.2]
def VRL.same{xs:List Value}(h:xs.all bR=true):VRL Y xs xs:=by
 induction xs with
 |nil=>exact .nil
 |cons x xs ih=>
  simp only[aP,aC]at h;exact .cons (.same x h.1) (ih h.2)
def VR.agg_inv{xs:Array Value}{u:Value}(r:VR Y (.agg xs) u): ∃us,u= .agg us/\VRL Y xs.toList us.toList:=by
 cases r with
 |same _ h=>simp[bR]at h
 |agg _ us hl h=>exact⟨us,rfl,hl,h⟩
def VR.tuple_inv{xs:Array Value}{u:Value}(r:VR Y (.tuple xs) u): ∃us,u= .tuple us/\VRL Y xs.toList us.toList:=by
 cases r with
 |same _ h=>simp[bR]at h
 |tuple _ us hl h=>exact⟨us,rfl,hl,h⟩
def VR.mkAgg{xs us:List Value}(r:VRL Y xs us):VR Y (.agg xs.toArray) (.agg us.toArray):= .agg _ _ (by simpa using r.1) (by simpa using r.2)
def VR.mkAgg'{xs us:Array Value}(r:VRL Y xs.toList us.toList):VR Y (.agg xs) (.agg us):= .agg _ _ r.1 r.2
def VR.mkTuple{xs us:List Value}(r:VRL Y xs us):VR Y (.tuple xs.toArray) (.tuple us.toArray):= .tuple _ _ (by simpa using r.1) (by simpa using r.2)
def VR.eq1{v u:Value}(r:VR Y v u)(h:cK v=true):u=v:=by
 cases v with
 |agg cs=>
  obtain⟨us,rfl,hl⟩:=r.agg_inv;have:=hl.eq0 (by simpa [cK]using h)
  rw[Array.toList_inj.1 this]
 |_=>exact r.eq0 (by simpa [cK]using h)
def VR.same1{v:Value}(h:cK v=true):VR Y v v:=by
 cases v with
 |agg cs=>exact .mkAgg' (.same (by simpa [cK]using h))
 |_=>exact .same _ (by simpa [cK]using h)
def VR.undef:VR Y Go.undef Go.undef:= .tuple _ _ rfl (λi x u h=>by simp at h)
def VR.cells{v u:Value}(r:VR Y v u):VRL Y v.cells.toList u.cells.toList:=by
 cases r with
 |same v h=>
  have hc:v.cells= #[v]:=by cases v<;>first|rfl|simp[bR]at h
  rw[hc];exact .same (by simpa using h)
 |agg xs us hl h=>exact⟨hl,h⟩
 |ptr id off p h=>exact .cons (.ptr id off p h) .nil
 |slc id off len c cap p h hc hl he=>exact .cons (.slc id off len c cap p h hc hl he) .nil
 |emp a s cap h=>exact .cons (.emp a s cap h) .nil
 |mp id p h=>exact .cons (.mp id p h) .nil
 |fn f xs ys us vs hl h dw h'=>exact .cons (.fn f xs ys us vs hl h dw h') .nil
 |iface t x u h=>exact .cons (.iface t x u h) .nil
 |tuple xs us hl h=>exact .cons (.tuple xs us hl h) .nil
def VR.one_eq{v u:Value}(r:VR Y v u):one u=one v:=by
 cases r<;>rfl
def VRL.one_eq{xs us:List Value}(r:VRL Y xs us):us.all one=xs.all one:=by
 induction xs generalizing us with
 |nil=>rw[r.nil_inv]
 |cons x xs ih=>obtain⟨u,gm,rfl,h,r'⟩:=r.cons_inv;simp[h.one_eq,ih r']
def VRL.drop{xs us:List Value}(r:VRL Y xs us)(n:Nat):VRL Y (xs.drop n) (us.drop n):=
 ⟨by simp[r.1],λi x u hx hu=>r.2 (n+i) x u (by simpa using hx) (by simpa using hu)⟩
def VRL.take{xs us:List Value}(r:VRL Y xs us)(n:Nat):VRL Y (xs.take n) (us.take n):=by
 refine⟨by simp[r.1],λi x u hx hu=>?_⟩
 rw[List.getElem?_take]at hx hu;split at hx
 .rename_i hi;rw[bI hi]at hu;exact r.2 i x u hx hu
 .cases hx
def VRL.set{xs us:List Value}(r:VRL Y xs us){x u:Value}(h:VR Y x u)(n:Nat):VRL Y (xs.set n x) (us.set n u):=by
 refine⟨by simp[r.1],λi y v hy hv=>?_⟩
 rw[List.getElem?_set]at hy hv;split at hy
 .rename_i e;rw[bI e]at hv;split at hy
  .split at hv
   .simp at hy hv;subst hy;subst hv;exact h
   .cases hv
  .cases hy
 .rename_i e;rw[bH e]at hv;exact r.2 i y v hy hv
def VRL.toArray_cells{xs us:List Value}(r:VRL Y xs us):VRL Y xs.toArray.toList us.toArray.toList:=by simpa using r
end
def Off(p:Place)(lo hi:Nat)(q:Place)(lm jz:Nat):Prop:=p.b=q.b->∀x,lo<=x->x<hi->lm<=x->x<jz->False
structure W0 extends World where
 O:Nat->Option Obj
def W0.of(w:World):W0:={toWorld:=w,O:=λ_=>none}
instance:Coe W0 World:=⟨W0.toWorld⟩
instance:Coe World W0:=⟨W0.of⟩
structure RowAt(w0:W0)(Y:Mp)(w:World)(p:Place)(cs:List Value)(m:mX):Prop where
 row: ∃C t fr,w.heap[p.b]?=some (.cells C t fr)/\(∀(i:Nat) (v:Value),cs[i]?=some v->∃u,C[p.o+i]?=some u/\VR Y v u)/\(m.tip=true->p.e<=C.size)
 wr:m.wr=true->w0.heap.size<=p.b
 tip:m.tip=true->p.o+cs.length<=p.e
 z:p.z=m.z
 fz:m.wr=true->∀C t fr,w.heap[p.b]?=some (.cells C t fr)->fr=(0,0)
structure MapAt(w0:W0)(Y:Mp)(w:World)(p:Place)(es:List (Value×Value)):Prop where
 map: ∃ES clock,w.heap[p.b]?=some (.map ES clock)/\VRL Y (es.map (·.1)) (ES.toList.map (·.key))/\VRL Y (es.map (·.2)) (ES.toList.map (·.val))
 wr:w0.heap.size<=p.b
def jA(m n:mX):Prop:= ∃g v v',m.grp=some (g,v)/\n.grp=some (g,v')
structure Kept(w0 w:World):Prop where
 os:w.os=w0.os
 output:w.output=w0.output
 size:w0.heap.size<=w.heap.size
 old: ∀k,k<w0.heap.size->w.heap[k]?=w0.heap[k]?
def Kept.frozen{w0 w:World}(h:Kept w0 w){a:Addr}(ha:a.block<w0.heap.size):w.frozen? a=w0.frozen? a:=by
 simp only[World.frozen?,h.old _ ha]
def Kept.keptBut{w0 w:World}(h:Kept w0 w):w0.keptBut w (λ_=>False):=by
 refine⟨h.os,h.output,λi hi=>?_⟩
 rw[h.old i hi];cases w0.heap[i]? with
 |none=>trivial
 |some o=>cases o<;>first|exact⟨rfl,rfl,rfl,λ_ _=>rfl⟩|exact .inr ⟨rfl,rfl⟩|rfl
def Kept.refl(w:World):Kept w w:=⟨rfl,rfl,aS _,λ_ _=>rfl⟩
structure KeptO(w0:W0)(Y:Mp)(w:World):Prop extends Kept w0.toWorld w where
 oth: ∀k o,w0.O k=some o->w.heap[k]?=some o/\∀id p,Y id=some p->p.b≠k
 bnd: ∀id p,Y id=some p->p.b<w.heap.size
def KeptO.refl{Y:Mp}{w:World}(h: ∀id p,Y id=some p->p.b<w.heap.size):KeptO (W0.of w) Y w:=⟨Kept.refl w,(λk o h=>(by cases h)),h⟩
structure Sim(w0:W0)(P:Program)(Y:Mp)(H:St)(w:World):Prop where
 kept:KeptO w0 Y w
 dom: ∀id,H.next<=id->Y id=none
 glob: ∀g,g<P.globals.size->∃p,Y g=some p/\p.b=g/\p.o=0
 row: ∀id p cs m,Y id=some p->H.get id=some (.cells cs m)->H.good m=true->RowAt w0 Y w p cs m
 map: ∀id p es,Y id=some p->H.get id=some (.map es)->MapAt w0 Y w p es
 off: ∀i j p q cs ds m n,i≠j->Y i=some p->Y j=some q->H.get i=some (.cells cs m)->H.get j=some (.cells ds n)->H.good m=true->H.good n=true->
  m.wr=true->¬jA m n->Off p p.o (p.o+cs.length) q q.o (q.o+ds.length)
 tip: ∀i j p q cs ds m n,i≠j->Y i=some p->Y j=some q->H.get i=some (.cells cs m)->H.get j=some (.cells ds n)->H.good m=true->H.good n=true->
  m.tip=true->Off p (p.o+cs.length) p.e q q.o (q.o+ds.length)/\(n.tip=true->Off p (p.o+cs.length) p.e q (q.o+ds.length) q.e)
 maps: ∀i j p q es fs,i≠j->Y i=some p->Y j=some q->H.get i=some (.map es)->H.get j=some (.map fs)->p.b≠q.b
 vers: ∀id cs m g v,H.get id=some (.cells cs m)->m.grp=some (g,v)->v<=H.ver g
 lim: ∀i j p q cs ds m n,i≠j->Y i=some p->Y j=some q->H.get i=some (.cells cs m)->H.get j=some (.cells ds n)->H.good m=true->H.good n=true->
  m.tip=true->Off p (p.o+m.lim) (p.o+cs.length) q q.o (q.o+ds.length)
def Off.symm{p q:Place}{a b c d:Nat}(h:Off p a b q c d):Off q c d p a b:=λe x h1 h2 h3 h4=>h e.symm x h3 h4 h1 h2
def St.get_put(H:St)(id k:Nat)(o:AObj):(H.put id o).get k=if k=id then some o else H.get k:=Tr.get_set _ _ _ _
def St.ver_put(H:St)(id g:Nat)(o:AObj):(H.put id o).ver g=H.ver g:=rfl
def St.next_put(H:St)(id:Nat)(o:AObj):(H.put id o).next=H.next:=rfl
def St.good_put(H:St)(id:Nat)(o:AObj)(m:mX):(H.put id o).good m=H.good m:=rfl
def St.get_bump(H:St)(g v k:Nat):(H.bump g v).get k=H.get k:=rfl
def St.ver_bump(H:St)(g v k:Nat):(H.bump g v).ver k=if k=g then v else H.ver k:=by
 simp only[St.ver,St.bump,Tr.get_set];split<;>rfl
def St.good_iff(H:St)(m:mX):H.good m=true↔∀g v,m.grp=some (g,v)->H.ver g=v:=by
 unfold St.good;cases hm:m.grp with
 |none=>simp
 |some x=>obtain⟨g,v⟩:=x;simp[cQ]
def St.row_some{H:St}{id:Nat}{cs:List Value}{m:mX}(h:H.row id=some (cs,m)):H.get id=some (.cells cs m)/\H.good m=true:=by
 unfold St.row at h;split at h
 .rename_i cx m' hg;cases hb:H.good m' with
  |true=>simp only[hb,aI,aA,aB]at h;obtain⟨rfl,rfl⟩:=h;exact⟨hg,hb⟩
  |false=>simp[hb]at h
 .cases h
end Go.AI
namespace Go.PI
open Go.AI
abbrev Nu:=Nat->Option (Option Nat)
inductive K where
 |slot (t:Nat)
 |cell (id off:Nat)
 |out
 |hand
 |arg (i:Nat)
 deriving DecidableEq
abbrev Ga:=Nat->Option K
def eD(es:List PV):List PV:=es.flatMap PV.cells
def Fz(J:Nu)(H:St)(id:Nat)(cs:List Value)(m:mX):Prop:=H.row id=some (cs,m)/\∀k,J k≠some (some id)
inductive R(J:Nu)(H:St):PV->Value->Prop where
 |und (u:Value):R J H .und u
 |v (x:Value) (h:bR x=true):R J H (.v x) x
 |str (s:ByteArray):R J H (.str s.data.toList) (.string s)
 |agg (xs:List PV) (us:Array Value) (hl:xs.length=us.toList.length) (h: ∀(i:Nat) (x:PV) (u:Value),xs[i]?=some x->us.toList[i]?=some u->R J H x u):R J H (.agg xs) (.agg us)
 |tup (xs:List PV) (us:Array Value) (hl:xs.length=us.toList.length) (h: ∀(i:Nat) (x:PV) (u:Value),xs[i]?=some x->us.toList[i]?=some u->R J H x u):R J H (.tup xs) (.tuple us)
 |nil:R J H .nil (.slice none 0 0)
 |emp0:R J H .emp (.slice none 0 0)
 |emp1 (id off c:Nat) (rcs:List Value) (m:mX) (hr:Fz J H id rcs m):R J H .emp (.slice (some ⟨id,off,none⟩) 0 c)
 |emp2 (b o s c:Nat):R J H .emp (.slice (some ⟨b,o,some s⟩) 0 c)
 |sl (z:Nat) (es:List PV) (id off c:Nat) (rcs:List Value) (m:mX) (hz:1<=z) (hs: ∀e∈es,e.cells.length=z/\e.cells.all PV.pur=true) (hr:Fz J H id rcs m) (hm:m.z=z)
      (hb:off+es.length*z<=rcs.length) (h: ∀(i:Nat) (x:PV) (u:Value),(eD es)[i]?=some x->rcs[off+i]?=some u->R J H x u):
      R J H (.sl z es) (.slice (some ⟨id,off,none⟩) es.length c)
 |pin (z:Nat) (es:List PV) (i off id base:Nat) (rcs:List Value) (m:mX) (hs: ∀e∈es,e.cells.length=z/\e.cells.all PV.pur=true) (hr:Fz J H id rcs m)
      (hb:base+es.length*z<=rcs.length) (h: ∀(i:Nat) (x:PV) (u:Value),(eD es)[i]?=some x->rcs[base+i]?=some u->R J H x u):
      R J H (.pin es i off) (.pointer (some ⟨id,base+i*z+off,none⟩))
 |ptr (id off a:Nat) (h:J id=some (some a)):R J H (.ptr id off) (.pointer (some ⟨a,off,none⟩))
 |ptr0 (id off a:Nat) (h:J id=some none):R J H (.ptr id off) (.pointer (some ⟨a,off,none⟩))
 |rs (id off len c a:Nat) (h:J id=some (some a)):R J H (.rs id off len) (.slice (some ⟨a,off,none⟩) len c)
 |rs0 (id off len c a:Nat) (h:J id=some none):R J H (.rs id off len) (.slice (some ⟨a,off,none⟩) len c)
 |fn (f:Nat) (xs ys:List PV) (us vs:Array Value) (hl:xs.length=us.toList.length) (h: ∀(i:Nat) (x:PV) (u:Value),xs[i]?=some x->us.toList[i]?=some u->R J H x u)
      (dw:ys.length=vs.toList.length) (h': ∀(i:Nat) (x:PV) (u:Value),ys[i]?=some x->vs.toList[i]?=some u->R J H x u):R J H (.fn f xs ys) (.func (.func f) us vs)
def RL(J:Nu)(H:St)(xs:List PV)(us:List Value):Prop:=xs.length=us.length/\∀(i:Nat) (x:PV) (u:Value),xs[i]?=some x->us[i]?=some u->R J H x u
inductive Ow(J:Nu)(I:Ga)(H:St)(k:K):PV->Value->Prop where
 |nil (x:PV):Ow J I H k x (.slice none 0 0)
 |exact(x:PV) (id off len:Nat) (rcs:List Value) (m:mX) (hr:Fz J H id rcs m):Ow J I H k x (.slice (some ⟨id,off,none⟩) len len)
 |zer (x:PV) (b o:Nat):Ow J I H k x (.slice (some ⟨b,o,some 1⟩) 0 0)
 |tip (z:Nat) (es:List PV) (id off c:Nat) (rcs:List Value) (m:mX) (hr:Fz J H id rcs m) (ht:m.tip=true) (hw:m.wr=true) (hg:m.grp.isSome=true)
      (hb:off+es.length*m.z=rcs.length) (hk:I id=some k):Ow J I H k (.sl z es) (.slice (some ⟨id,off,none⟩) es.length c)
 |tup (x:PV) (xs:List PV) (u:Value) (us:List Value) (hx:x.one=true) (h:Ow J I H k x u):Ow J I H k (.tup (x::xs)) (.tuple ⟨u::us⟩)
structure Keep(J:Nu)(I:Ga)(H H':St):Prop where
 vers:H'.vers=H.vers
 next:H.next<=H'.next
 dom: ∀a,H'.get a=none->H.get a=none
 row: ∀a,(∀k,J k≠some (some a))->∀cs m,H.get a=some (.cells cs m)->∃b,H'.get a=some (.cells cs {m with tip:=b})/\(m.tip=false->b=false)/\(I a=some .out->b=m.tip)
def Mon(H:St)(J J':Nu):Prop:=(∀id x,J id=some x->J' id=some x∨J' id=some none)/\(∀id a,J' id=some (some a)->J id=some (some a)∨H.get a=none)
def Mon.refl(H:St)(J:Nu):Mon H J J:=⟨λ_ _ h=> .inl h,λ_ _ h=> .inl h⟩
def Mon.trans{H H':St}{J J' J'':Nu}(h:Mon H J J')(h':Mon H' J' J'')(hd: ∀a,H'.get a=none->H.get a=none):Mon H J J'':=by
 refine⟨λid x e=>?_,λid a e=>?_⟩
 .rcases h.1 id x e with h1|h1
  .exact h'.1 id x h1
  .rcases h'.1 id none h1 with h2|h2<;>exact .inr h2
 .rcases h'.2 id a e with h1|h1
  .rcases h.2 id a h1 with h2|h2
   .exact .inl h2
   .exact .inr h2
  .exact .inr (hd a h1)
def mF{H H':St}(h:H'.vers=H.vers)(m:mX):H'.good m=H.good m:=by
 simp only[St.good,St.ver,h]
def row_of_get{H:St}{id:Nat}{cs:List Value}{m:mX}(h:H.get id=some (.cells cs m))(hg:H.good m=true):H.row id=some (cs,m):=by
 simp only[St.row,h,hg,aI]
def eI{H:St}{id:Nat}{cs:List Value}{m:mX}(h:H.row id=some (cs,m)):H.get id=some (.cells cs m)/\H.good m=true:=by
 unfold St.row at h;split at h
 .rename_i cx m' e;cases hg:H.good m' with
  |true=>rw[hg,aI]at h;simp only[aA,aB]at h;obtain⟨rfl,rfl⟩:=h;exact⟨e,hg⟩
  |false=>rw[hg,aJ]at h;cases h
 .cases h
def Keep.refl(J:Nu)(I:Ga)(H:St):Keep J I H H:=⟨rfl,aS _,λ_ h=>h,λa _ cs m h=>⟨m.tip,by rw[h],id,λ_=>rfl⟩⟩
def Fz.keep{J J':Nu}{I:Ga}{H H':St}{id:Nat}{cs:List Value}{m:mX}(h:Fz J H id cs m)(k:Keep J I H H')(hm:Mon H J J'):
    ∃b,Fz J' H' id cs {m with tip:=b}:=by
 obtain⟨hr,hn⟩:=h;obtain⟨hg,bf⟩:=eI hr;obtain⟨b,hb,_⟩:=k.row id hn cs m hg;refine⟨b,row_of_get hb ?_,λj hj=>?_⟩
 .rw[mF k.vers];exact bf
 .rcases hm.2 j id hj with h1|h1
  .exact hn j h1
  .rw[h1]at hg;cases hg
def R.keep{J J':Nu}{I:Ga}{H H':St}(k:Keep J I H H')(hm:Mon H J J'){x:PV}{u:Value}(r:R J H x u):R J' H' x u:=by
 induction r with
 |und u=>exact .und u
 |v x h=>exact .v x h
 |str s=>exact .str s
 |agg xs us hl _ ih=>exact .agg xs us hl ih
 |tup xs us hl _ ih=>exact .tup xs us hl ih
 |nil=>exact .nil
 |emp0=>exact .emp0
 |emp1 id off c rcs m hr=>obtain⟨b,hf⟩:=hr.keep k hm;exact .emp1 id off c rcs _ hf
 |emp2 b o s c=>exact .emp2 b o s c
 |sl z es id off c rcs m hz hs hr ku hb _ ih=>
  obtain⟨b,hf⟩:=hr.keep k hm;exact .sl z es id off c rcs _ hz hs hf ku hb ih
 |pin z es i off id base rcs m hs hr hb _ ih=>
  obtain⟨b,hf⟩:=hr.keep k hm;exact .pin z es i off id base rcs _ hs hf hb ih
 |ptr id off a h=>
  rcases hm.1 id _ h with h1|h1
  .exact .ptr id off a h1
  .exact .ptr0 id off a h1
 |ptr0 id off a h=>
  rcases hm.1 id _ h with h2|h2<;>exact .ptr0 id off a h2
 |rs id off len c a h=>
  rcases hm.1 id _ h with h1|h1
  .exact .rs id off len c a h1
  .exact .rs0 id off len c a h1
 |rs0 id off len c a h=>
  rcases hm.1 id _ h with h2|h2<;>exact .rs0 id off len c a h2
 |fn f xs ys us vs hl _ dw _ ih qx=>exact .fn f xs ys us vs hl ih dw qx
def Ow.keep{J J':Nu}{I I1 I':Ga}{H H':St}{k k':K}{x:PV}{u:Value}(o:Ow J I H k x u)(kp:Keep J I1 H H')(hm:Mon H J J')
    (h: ∀i,I i=some k->H.get i≠none->I1 i=some .out/\I' i=some k'):Ow J' I' H' k' x u:=by
 induction o with
 |nil x=>exact .nil x
 |exact x id off len rcs m hr=>obtain⟨b,hf⟩:=hr.keep kp hm;exact .exact x id off len rcs _ hf
 |zer x b o=>exact .zer x b o
 |tup x xs u us hx _ ih=>exact .tup x xs u us hx ih
 |tip z es id off c rcs m hr ht hw hg hb hk=>
  obtain⟨hr0,hn⟩:=hr;obtain⟨bc,bf⟩:=eI hr0;obtain⟨h1,h2⟩:=h id hk (by rw[bc];simp)
  obtain⟨b,bv,_,hb2⟩:=kp.row id hn rcs m bc;have hbt:=hb2 h1;subst hbt;refine .tip z es id off c rcs m ⟨row_of_get bv (by rw[mF kp.vers];exact bf),λj hj=>?_⟩ ht hw hg hb h2
  rcases hm.2 j id hj with h3|h3
  .exact hn j h3
  .rw[h3]at bc;cases bc
def mv(k k':K)(I:Ga):Ga:=λi=>if I i=some k then some k' else I i
def Ow.mv{J:Nu}{I:Ga}{H:St}{k k':K}{x:PV}{u:Value}(o:Ow J I H k x u):Ow J (mv k k' I) H k' x u:=by
 induction o with
 |nil x=>exact .nil x
 |exact x id off len rcs m hr=>exact .exact x id off len rcs m hr
 |zer x b o=>exact .zer x b o
 |tup x xs u us hx _ ih=>exact .tup x xs u us hx ih
 |tip z es id off c rcs m hr ht hw hg hb hk=>exact .tip z es id off c rcs m hr ht hw hg hb (by simp[PI.mv,hk])
def Ow.mv_ne{J:Nu}{I:Ga}{H:St}{k k' j:K}{x:PV}{u:Value}(o:Ow J I H j x u)(h:j≠k):Ow J (PI.mv k k' I) H j x u:=by
 induction o with
 |nil x=>exact .nil x
 |exact x id off len rcs m hr=>exact .exact x id off len rcs m hr
 |zer x b o=>exact .zer x b o
 |tup x xs u us hx _ ih=>exact .tup x xs u us hx ih
 |tip z es id off c rcs m hr ht hw hg hb hk=>exact .tip z es id off c rcs m hr ht hw hg hb (by simp[PI.mv,hk,h])
def Ow.weak{J:Nu}{I I':Ga}{H:St}{k k':K}{x:PV}{u:Value}(o:Ow J I H k x u)(h: ∀i,I i=some k->I' i=some k'):Ow J I' H k' x u:=by
 induction o with
 |nil x=>exact .nil x
 |exact x id off len rcs m hr=>exact .exact x id off len rcs m hr
 |zer x b o=>exact .zer x b o
 |tup x xs u us hx _ ih=>exact .tup x xs u us hx ih
 |tip z es id off c rcs m hr ht hw hg hb hk=>exact .tip z es id off c rcs m hr ht hw hg hb (h id hk)
def Ow.slice{J:Nu}{I:Ga}{H:St}{k:K}{x:PV}{u:Value}(o:Ow J I H k x u)(h:x.cells.all PV.one=true):eT u=true:=by
 cases o with
 |tup x xs u us _ _=>simp[PV.cells,PV.one]at h
 |_=>rfl
def ObjR(J:Nu)(I:Ga)(H:St)(id:Nat):jU->Prop
 | .box cs=> ∃a us,J id=some (some a)/\H.get a=some (.cells us boxMeta)/\us.length=cs.length/\
      ∀(i:Nat) (x:PV) (b:Bool) (u:Value),cs[i]?=some (x,b)->us[i]?=some u->R J H x u/\x.one=true/\(b=true->Ow J I H (.cell id i) x u)
 | .row z _ cs=> ∃a us,J id=some (some a)/\H.get a=some (.cells us (cS z))/\us.length=cs.length/\cs.all PV.one=true/\
      ∀(i:Nat) (x:PV) (u:Value),cs[i]?=some x->us[i]?=some u->R J H x u
 | .map _=>False
 | .gone=>J id=some none
structure Mem(J:Nu)(I:Ga)(p:PSt)(H:St):Prop where
 le: ∀id x,J id=some x->id<p.next
 lt: ∀id a,J id=some (some a)->a<H.next
 inj: ∀i j a,J i=some (some a)->J j=some (some a)->i=j
 live: ∀id a,J id=some (some a)->∃o,p.get id=some o
 get: ∀id o,p.get id=some o->ObjR J I H id o
 free: ∀a,H.next<=a->H.get a=none
 ver: ∀g,H.ver g=0
def FR(J:Nu)(I:Ga)(H:St)(S:PS)(A:Slots):Prop:=
 ∀t,R J H (S.at t).1 (A.at t)/\((S.at t).2=true->Ow J I H (.slot t) (S.at t).1 (A.at t))
section
variable{J:Nu}{H:St}
def RL.nil:RL J H [] []:=⟨rfl,λi x u h=>by simp at h⟩
def RL.cons{x:PV}{u:Value}{xs:List PV}{us:List Value}(h:R J H x u)(r:RL J H xs us):RL J H (x::xs) (u::us):=by
 refine⟨by simp[r.1],λi y v hy hv=>?_⟩
 cases i with
 |zero=>simp at hy hv;subst hy;subst hv;exact h
 |succ i=>simp at hy hv;exact r.2 i y v hy hv
def RL.cons_inv{x:PV}{xs:List PV}{us:List Value}(r:RL J H (x::xs) us): ∃u vs,us=u::vs/\R J H x u/\RL J H xs vs:=by
 cases us with
 |nil=>have:=r.1;simp at this
 |cons u vs=>exact⟨u,vs,rfl,r.2 0 x u (by simp) (by simp),by simpa using r.1,λi y v hy hv=>r.2 (i+1) y v (by simpa using hy) (by simpa using hv)⟩
def RL.nil_inv{us:List Value}(r:RL J H [] us):us=[]:=by have:=r.1;simpa using this.symm
def RL.append{xs ys:List PV}{us vs:List Value}(r:RL J H xs us)(s:RL J H ys vs):RL J H (xs++ys) (us++vs):=by
 induction xs generalizing us with
 |nil=>rw[r.nil_inv];exact s
 |cons x xs ih=>obtain⟨u,gm,rfl,h,r'⟩:=r.cons_inv;exact .cons h (ih r')
def RL.drop{xs:List PV}{us:List Value}(r:RL J H xs us)(n:Nat):RL J H (xs.drop n) (us.drop n):=
 ⟨by simp[r.1],λi x u hx hu=>r.2 (n+i) x u (by simpa using hx) (by simpa using hu)⟩
def RL.take{xs:List PV}{us:List Value}(r:RL J H xs us)(n:Nat):RL J H (xs.take n) (us.take n):=by
 refine⟨by simp[r.1],λi x u hx hu=>?_⟩
 rw[List.getElem?_take]at hx hu;split at hx
 .rename_i hi;rw[bI hi]at hu;exact r.2 i x u hx hu
 .cases hx
def RL.get{xs:List PV}{us:List Value}(r:RL J H xs us){i:Nat}{x:PV}(h:xs[i]?=some x): ∃u,us[i]?=some u/\R J H x u:=by
 have hi:i<xs.length:=by
  rcases Nat.lt_or_ge i xs.length with h'|h'
  .exact h'
  .simp[List.getElem?_eq_none h']at h
 have:us[i]?=some (us[i]'(r.1▸hi)):=aV _;exact⟨_,this,r.2 i x _ h this⟩
def RL.set{xs:List PV}{us:List Value}(r:RL J H xs us){x:PV}{u:Value}(h:R J H x u)(n:Nat):RL J H (xs.set n x) (us.set n u):=by
 refine⟨by simp[r.1],λi y v hy hv=>?_⟩
 rw[List.getElem?_set]at hy hv;split at hy
 .rename_i e;rw[bI e]at hv;split at hy
  .split at hv
   .simp at hy hv;subst hy;subst hv;exact h
   .cases hv
  .cases hy
 .rename_i e;rw[bH e]at hv;exact r.2 i y v hy hv
def RL.keep{J':Nu}{I:Ga}{H':St}(k:Keep J I H H')(hm:Mon H J J'){xs:List PV}{us:List Value}(r:RL J H xs us):RL J' H' xs us:=
 ⟨r.1,λi x u hx hu=>(r.2 i x u hx hu).keep k hm⟩
def R.agg_inv{xs:List PV}{u:Value}(r:R J H (.agg xs) u): ∃us,u= .agg us/\RL J H xs us.toList:=by
 cases r with
 |agg _ us hl h=>exact⟨us,rfl,hl,h⟩
def R.tup_inv{xs:List PV}{u:Value}(r:R J H (.tup xs) u): ∃us,u= .tuple us/\RL J H xs us.toList:=by
 cases r with
 |tup _ us hl h=>exact⟨us,rfl,hl,h⟩
def R.mkAgg{xs:List PV}{us:List Value}(r:RL J H xs us):R J H (.agg xs) (.agg us.toArray):= .agg _ _ (by simpa using r.1) (by simpa using r.2)
def R.mkAgg'{xs:List PV}{us:Array Value}(r:RL J H xs us.toList):R J H (.agg xs) (.agg us):= .agg _ _ r.1 r.2
def R.mkTup{xs:List PV}{us:List Value}(r:RL J H xs us):R J H (.tup xs) (.tuple us.toArray):= .tup _ _ (by simpa using r.1) (by simpa using r.2)
def R.one{x:PV}{u:Value}(r:R J H x u)(h:x.one=true):one u=true:=by
 cases r<;>first|rfl|assumption|(simp[PV.one]at h)|skip
 rename_i hp;cases u<;>first|rfl|simp[bR]at hp
def RL.one{xs:List PV}{us:List Value}(r:RL J H xs us)(h:xs.all PV.one=true):us.all AI.one=true:=by
 induction xs generalizing us with
 |nil=>rw[r.nil_inv];rfl
 |cons x xs ih=>
  obtain⟨u,gm,rfl,hx,r'⟩:=r.cons_inv;simp only[aP,aC]at h⊢;exact⟨hx.one h.1,ih r' h.2⟩
def yD{x:PV}(h:x.one=true):x.cells=[x]:=by cases x<;>first|rfl|simp[PV.one]at h
def Lg{u:Value}(h:AI.one u=true):u.cells= #[u]:=by cases u<;>first|rfl|simp[AI.one]at h
def R.cells{x:PV}{u:Value}(r:R J H x u)(h:x.cells.all PV.one=true):RL J H x.cells u.cells.toList:=by
 cases x with
 |agg cs=>obtain⟨us,rfl,hl⟩:=r.agg_inv;exact hl
 |_=>
  first
  |(rw[Lg (r.one (by simpa [PV.cells]using h))];exact .cons r .nil)
mutual
def R.wk: ∀{x:PV} {u:Value},R J H x u->R J H (wk x) u
 | .agg cs,u,r=>by
  obtain⟨us,rfl,hl⟩:=r.agg_inv;exact .mkAgg' (RL.wks hl)
 | .tup cs,u,r=>by
  obtain⟨us,rfl,hl⟩:=r.tup_inv;exact .tup _ _ (RL.wks hl).1 (RL.wks hl).2
 | .nil,u,r=>by cases r;exact .emp0
 | .sl z [],u,r=>by
  cases r with
  |sl _ _ id off c rcs m hz hs hr hm hb hh=>exact .emp1 _ _ _ _ _ hr
 | .sl z (e::es),u,r=>r
 | .v _,u,r=>r
 | .str _,u,r=>r
 | .emp,u,r=>r
 | .pin ..,u,r=>r
 | .ptr ..,u,r=>r
 | .rs ..,u,r=>r
 | .mp _,u,r=>r
 | .fn ..,u,r=>r
 | .und,u,r=>r
def RL.wks: ∀{xs:List PV} {us:List Value},RL J H xs us->RL J H (wks xs) us
 |[],us,r=>r
 |x::xs,us,r=>by
  obtain⟨u,gm,rfl,hx,r'⟩:=r.cons_inv;exact .cons (R.wk hx) (RL.wks r')
end
end
end Go.PI
namespace Go.PI
open Go.AI
section
variable{P:Program}{J:Nu}{I:Ga}{H:St}{S:PS}{A:Slots}
def R.ofV0{x:Value}(h:bR x=true):R J H (wW x) x:=by
 cases x with
 |string s=>exact .str s
 |slice a l c=>
  cases a with
  |none=>simp only[bR,aC]at h;have h1:=aE h.1;have h2:=aE h.2;subst h1;subst h2;exact .nil
  |some a=>simp[bR]at h
 |agg cs=>simp[bR]at h
 |tuple cs=>simp[bR]at h
 |_=>exact .v _ h
def RL.ofVs{xs:List Value}(h:xs.all bR=true):RL J H (ofVs xs) xs:=by
 induction xs with
 |nil=>exact .nil
 |cons x xs ih=>
  simp only[aP,aC]at h;exact .cons (.ofV0 h.1) (ih h.2)
def R.ofV1{x:Value}(h:cK x=true):R J H (wW x) x:=by
 cases x with
 |agg cs=>exact .mkAgg' (.ofVs h)
 |_=>exact .ofV0 h
def IL{xs:List Value}(h:xs.all bR=true):(ofVs xs).all PV.one=true:=by
 induction xs with
 |nil=>rfl
 |cons x xs ih=>
  simp only[aP,aC]at h;simp only[PI.ofVs,aP,aC];refine⟨?_,ih h.2⟩;have h1:=h.1;cases x with
  |slice a l c=>cases a<;>first|rfl|simp[bR]at h1
  |_=>first|rfl|simp[bR]at h1
def rV(xs:List Value):(ofVs xs).length=xs.length:=by
 induction xs with
 |nil=>rfl
 |cons x xs ih=>simp[PI.ofVs,ih]
def nN{x:PV}{w u:Value}(h:oU x=some w)(r:R J H x u):u=w/\bR w=true:=by
 cases r<;>simp only[oU]at h<;>try cases h
 .rename_i hp;rw[hp]at h;simp only[aI,aA]at h;subst h;exact⟨rfl,hp⟩
 .exact⟨rfl,rfl⟩
def aBu{xs:List PV}{ws us:List Value}(h:R8 xs=some ws)(r:RL J H xs us):us=ws/\ws.all bR=true:=by
 induction xs generalizing ws us with
 |nil=>simp only[R8,aA]at h;subst h;exact⟨r.nil_inv,rfl⟩
 |cons x xs ih=>
  obtain⟨u,gm,rfl,hx,r'⟩:=r.cons_inv;simp only[R8]at h;split at h
  .rename_i a l h1 h2;simp only[aA]at h;subst h;obtain⟨rfl,hp⟩:=nN h1 hx;obtain⟨rfl,hq⟩:=ih h2 r';exact⟨rfl,by simp[hp,hq]⟩
  .cases h
def aBv{xs:List PV}{ws us:List Value}(h:Lk xs=some ws)(r:RL J H xs us):us=ws/\ws.all bR=true:=by
 induction xs generalizing ws us with
 |nil=>simp only[Lk,aA]at h;subst h;exact⟨r.nil_inv,rfl⟩
 |cons x xs ih=>
  obtain⟨u,gm,rfl,hx,r'⟩:=r.cons_inv;simp only[Lk]at h;split at h
  .rename_i a l h1 h2;simp only[aA]at h;subst h;obtain⟨rfl,hp⟩:=nN h1 hx;obtain⟨rfl,hq⟩:=ih h2 r';exact⟨rfl,by simp[hp,hq]⟩
  .cases h
def EI{x:PV}{w u:Value}(h:Uf x=some w)(r:R J H x u):u=w/\cK w=true:=by
 cases x with
 |agg cs=>
  obtain⟨us,rfl,hl⟩:=r.agg_inv;simp only[Uf,aF]at h;obtain⟨l,h1,rfl⟩:=h;obtain⟨h2,h3⟩:=aBu h1 hl;refine⟨by rw[<-h2],by simpa [cK]using h3⟩
 |_=>
  simp only[Uf]at h;obtain⟨h1,h2⟩:=nN h r;refine⟨h1,?_⟩;cases w with
  |agg cs=>simp[bR]at h2
  |_=>exact h2
def iZ{s:Sem Value}{w:Value}(h:cV P s=some w):cK w=true:=by
 unfold cV at h;split at h
 .rename_i v e;cases hp:cK v with
  |true=>rw[hp,aI]at h;simp only[aA]at h;subst h;exact hp
  |false=>rw[hp,aJ]at h;cases h
 .cases h
def cU(F:FR J I H S A){x:Operand}(hx:cI P x=true):R J H (cP S x) (ev A x):=by
 cases x with
 |tmp t=>exact(F t).1
 |const v=>exact .ofV1 hx
 |global g=>exact .und _
 |func f=>exact .fn f [] [] #[] #[] rfl (λi x u h=>by simp at h) rfl (λi x u h=>by simp at h)
def vL(F:FR J I H S A){xs:List Operand}(hx:xs.all (cI P)=true):RL J H (xs.map (cP S)) (xs.map (ev A)):=by
 induction xs with
 |nil=>exact .nil
 |cons x xs ih=>
  simp only[aP,aC]at hx;exact .cons (cU F hx.1) (ih hx.2)
def HX{t:TypeId}{cs:List PV}{us:Array Value}{off:Nat}{v:PV}(r:RL J H cs us.toList)(h:pA P t cs off=some v): ∃u,wH P t us off=some u/\R J H v u:=by
 unfold pA at h;unfold wH;split at h
 .rename_i e;rw[e];split at h
  .rename_i n en;simp only[en];cases hb:Nat.beq ((cs.drop off).take n).length n with
   |false=>rw[hb,aJ]at h;cases h
   |true=>
    rw[hb,aI]at h;simp only[aA]at h;subst h;refine⟨_,rfl,.mkAgg' ?_⟩;have:=(r.drop off).take n;simpa [Array.toList_extract,List.extract_eq_take_drop]using this
  .cases h
 .rename_i e;rw[e];obtain⟨u,hu,hr⟩:=r.get h;exact⟨u,by simpa using hu,hr⟩
 .cases h
def uG{t:TypeId}{cs:List PV}{us:List Value}{off base:Nat}{v:PV}(hb:base+cs.length<=us.length)
    (r: ∀(i:Nat) (x:PV) (u:Value),cs[i]?=some x->us[base+i]?=some u->R J H x u) (h:pA P t cs off=some v):
    ∃u,(match jZ P t with
      |some true=>match gC P t with
        |some n=>(cut us (base+off) n).map λl=>Value.agg l.toArray
        |none=>none
      |some false=>us[base+off]?
      |none=>none)=some u/\R J H v u:=by
 unfold pA at h;split at h
 .rename_i e;rw[e];split at h
  .rename_i n en;simp only[en];cases bv:Nat.beq ((cs.drop off).take n).length n with
   |false=>rw[bv,aJ]at h;cases h
   |true=>
    rw[bv,aI]at h;simp only[aA]at h;subst h;have hn:=aE bv;simp only[List.length_take,List.length_drop]at hn;have hl:((us.drop (base+off)).take n).length=n:=by simp only[List.length_take,List.length_drop];omega
    refine⟨.agg ((us.drop (base+off)).take n).toArray,?_,.mkAgg ⟨?_,?_⟩⟩
    .simp only[cut,cQ,hl,bM,aI,aK]
    .simp only[List.length_take,List.length_drop];omega
    .intro i x u hx hu;rw[List.getElem?_take]at hx hu;split at hx
     .rename_i hi;rw[bI hi]at hu;rw[List.getElem?_drop]at hx hu;exact r (off+i) x u hx (by rw[<-Nat.add_assoc];exact hu)
     .cases hx
  .cases h
 .rename_i e;rw[e];have hi:off<cs.length:=by
   rcases Nat.lt_or_ge off cs.length with h'|h'
   .exact h'
   .simp[List.getElem?_eq_none h']at h
  have hu:us[base+off]?=some (us[base+off]'(by omega)):=aV _
  exact⟨_,hu,r off v _ h hu⟩
 .cases h
def gW{z:Nat}{es:List PV}(hs: ∀e∈es,e.cells.length=z):(eD es).length=es.length*z:=by
 induction es with
 |nil=>simp[eD]
 |cons e es ih=>
  have:=ih (λx hx=>hs x (aG _ hx))
  simp only[eD,aN,aZ,aM]at this⊢;rw[hs e (by simp),this,Nat.add_mul];omega
def WF{z:Nat}{es:List PV}(hs: ∀e∈es,e.cells.length=z){i j:Nat}{e:PV}(he:es[i]?=some e)(hj:j<z):(eD es)[i*z+j]?=e.cells[j]?:=by
 induction es generalizing i with
 |nil=>simp at he
 |cons x es ih=>
  simp only[eD,aN];have hx:=hs x (by simp)
  cases i with
  |zero=>
   simp only[aU,aA]at he;subst he;rw[Nat.zero_mul,Nat.zero_add,List.getElem?_append_left (by omega)]
  |succ i=>
   simp only[aT]at he;have:=ih (λy hy=>hs y (aG _ hy)) he
   rw[List.getElem?_append_right (by rw[hx,Nat.succ_mul];omega),hx]
   rw[show(i+1)*z+j-z=i*z+j by rw[Nat.succ_mul];omega]
   exact this
def hQ{N:Type}{l:List N}{i:Nat}{x:N}(h:l[i]?=some x):x∈l:=List.mem_of_getElem? h
def Ba{I:Ga}{p:PSt}(M:Mem J I p H){t:TypeId}{a v:PV}{w:Value}(r:R J H a w)(h:jF P p t a=some v): ∃u,hY P H t w=some u/\R J H v u:=by
 cases a<;>simp only[jF]at h<;>try cases h
 .rename_i es i off;cases r with
  |pin z _ _ _ id base rcs m hs hr hb hh=>
  split at h
  .rename_i e he;have hz:=(hs e (hQ he)).1;have hs:=λe he=>(hs e he).1
   have hi:i<es.length:=by
    rcases Nat.lt_or_ge i es.length with h'|h'
    .exact h'
    .simp[List.getElem?_eq_none h']at he
   have hiz:i*z+z<=es.length*z:=by rw[<-Nat.succ_mul];exact Nat.mul_le_mul_right _ hi
   have:=uG (J:=J) (H:=H) (us:=rcs) (base:=base+i*z) (by rw[hz];omega) (λj x u hx hu=>by
    have hj:j<z:=by
     rcases Nat.lt_or_ge j e.cells.length with h'|h'
     .omega
     .simp[List.getElem?_eq_none h']at hx
    exact hh (i*z+j) x u (by rw[WF hs he hj];exact hx) (by rw[<-Nat.add_assoc];exact hu)) h
   obtain⟨u,hu,ca⟩:=this;refine⟨u,?_,ca⟩;simp only[hY,hr.1];exact hu
  .cases h
 .rename_i id off;cases r with
  |ptr _ _ a hν=>
   split at h
   .rename_i cs hg;obtain⟨a',us,h1,h2,h3,h4⟩:=M.get id _ hg;rw[hν]at h1;simp only[aA]at h1;subst h1;have:=uG (J:=J) (H:=H) (us:=us) (base:=0) (by simp[h3]) (λj x u hx hu=>by
     rw[List.getElem?_map]at hx;cases hc:cs[j]? with
     |none=>rw[hc]at hx;cases hx
     |some c=>
      rw[hc]at hx;simp only[aK,aA]at hx;subst hx;exact(h4 j c.1 c.2 u hc (by simpa using hu)).1) h
    obtain⟨u,hu,ca⟩:=this;refine⟨u,?_,ca⟩;simp only[hY,row_of_get h2 rfl];simp only[Nat.zero_add]at hu;exact hu
   .rename_i z ag cs hg;obtain⟨a',us,h1,h2,h3,h5,h4⟩:=M.get id _ hg;rw[hν]at h1;simp only[aA]at h1;subst h1;have:=uG (J:=J) (H:=H) (us:=us) (base:=0) (by simp[h3]) (λj x u hx hu=>h4 j x u hx (by simpa using hu)) h
    obtain⟨u,hu,ca⟩:=this;refine⟨u,?_,ca⟩;simp only[hY,row_of_get h2 rfl];simp only[Nat.zero_add]at hu;exact hu
   .cases h
  |ptr0 _ _ _ hν=>
   split at h
   .rename_i cs hg;obtain⟨a',us,h1,_⟩:=M.get id _ hg;rw[hν]at h1;cases h1
   .rename_i z ag cs hg;obtain⟨a',us,h1,_⟩:=M.get id _ hg;rw[hν]at h1;cases h1
   .cases h
end
end Go.PI
namespace Go.PI
open Go.AI
section
variable{P:Program}{J:Nu}{I:Ga}{H:St}{S:PS}{A:Slots}
def Sy{t:TypeId}{v x:PV}{u:Value}{f:Nat}(r:R J H v u)(h:Bc P t v f=some x): ∃w,uS P t u f=some w/\R J H x w:=by
 unfold Bc at h;unfold uS;split at h
 .rename_i fs e;rw[e];split at h
  .rename_i fd e2;simp only[e2];split at h
   .rename_i cs;obtain⟨us,rfl,hl⟩:=r.agg_inv;exact HX hl h
   .cases h
  .cases h
 .cases h
def CY{t:TypeId}{v x:PV}{u:Value}{f:Nat}(r:R J H v u)(h:gY P t v f=some x): ∃w,jT P t u f=some w/\R J H x w:=by
 unfold gY at h;unfold jT;split at h
 .rename_i fs e;rw[e];split at h
  .rename_i fd e2;simp only[e2];split at h
   .rename_i n e3;simp only[e3];cases hb:Nat.beq n 0 with
    |true=>rw[hb,aI]at h;cases h
    |false=>
     rw[hb,aJ]at h;split at h
     .simp only[aA]at h;subst h;cases r with
      |ptr id off a hν=>simp only[hb,aJ];exact⟨_,rfl,.ptr _ _ _ hν⟩
      |ptr0 id off a hν=>simp only[hb,aJ];exact⟨_,rfl,.ptr0 _ _ _ hν⟩
     .rename_i es i off;simp only[aA]at h;subst h;cases r with
      |pin z _ _ _ id base rcs m hs hr hb2 hh=>simp only[hb,aJ];exact⟨_,rfl,by rw[Nat.add_assoc];exact .pin z es i _ id base rcs m hs hr hb2 hh⟩
     .cases h
   .cases h
  .cases h
 .cases h
def CX{t:TypeId}{v x i:PV}{u w:Value}(r:R J H v u)(ri:R J H i w)(h:fR P t v i=some x): ∃y,fF P t u w=some y/\R J H x y:=by
 unfold fR at h;split at h
 .rename_i k n;have hw:w= .int k n:=by cases ri;rfl
  subst hw;simp only[fF];split at h
  .rename_i e he;simp only[he];split at h
   .rename_i z hz;split at h
    .rename_i z' es;cases r with
     |sl _ _ id off c rcs m h1 hs hr hm hb hh=>
      simp only[hz];cases hc:Nat.beq z z'&&bV n es.length with
      |false=>rw[hc,aJ]at h;cases h
      |true=>
       rw[hc,aI]at h;simp only[aA]at h;subst h;simp only[aC]at hc;have gq:=aE hc.1;subst gq;rw[hc.2,aI];refine⟨_,rfl,?_⟩;have:=R.pin (J:=J) (H:=H) z es n.toNat 0 id off rcs m hs hr hb hh;simpa using this
    .rename_i id off len;cases hc:bV n len with
     |false=>rw[hc,aJ]at h;cases h
     |true=>
      rw[hc,aI]at h;simp only[aA]at h;subst h;cases r with
      |rs _ _ _ c a hν=>simp only[hz,hc,aI];exact⟨_,rfl,.ptr _ _ _ hν⟩
      |rs0 _ _ _ c a hν=>simp only[hz,hc,aI];exact⟨_,rfl,.ptr0 _ _ _ hν⟩
    .cases h
   .cases h
  .rename_i len e he;simp only[he];split at h
   .rename_i z hz;split at h
    .rename_i id off;cases hc:bV n len with
     |false=>rw[hc,aJ]at h;cases h
     |true=>
      rw[hc,aI]at h;simp only[aA]at h;subst h;cases r with
      |ptr _ _ a hν=>simp only[hz,hc,aI];exact⟨_,rfl,.ptr _ _ _ hν⟩
      |ptr0 _ _ a hν=>simp only[hz,hc,aI];exact⟨_,rfl,.ptr0 _ _ _ hν⟩
    .rename_i es j off;cases hc:bV n len with
     |false=>rw[hc,aJ]at h;cases h
     |true=>
      rw[hc,aI]at h;simp only[aA]at h;subst h;cases r with
      |pin z0 _ _ _ id base rcs m hs hr hb2 hh=>simp only[hz,hc,aI];exact⟨_,rfl,by rw[Nat.add_assoc];exact .pin z0 es j _ id base rcs m hs hr hb2 hh⟩
    .cases h
   .cases h
  .cases h
 .cases h
def Bb{w:Value}(h:bR w=true):cK w=true:=by cases w<;>first|exact h|simp[bR]at h
def Sw{t:TypeId}{v x i:PV}{u w:Value}(r:R J H v u)(ri:R J H i w)(h:wT P t v i=some x): ∃y,uR P t u w=some y/\R J H x y:=by
 unfold wT at h;unfold uR;split at h
 .rename_i e;rw[e];split at h
  .rename_i a b ha hb;obtain⟨rfl,ru⟩:=nN ha r;obtain⟨rfl,hpb⟩:=nN hb ri;simp only[aF]at h;obtain⟨y,hy,rfl⟩:=h;exact⟨y,by simp only[ru,hpb,Bool.and_self,aI];exact hy,.ofV1 (iZ hy)⟩
  .cases h
 .rename_i len e he;rw[he];split at h
  .rename_i k n cs;have hw:w= .int k n:=by cases ri;rfl
   subst hw;obtain⟨us,rfl,hl⟩:=r.agg_inv;split at h
   .rename_i z hz;cases hc:bV n len with
    |false=>rw[hc,aJ]at h;cases h
    |true=>
     rw[hc,aI]at h;simp only[hz,hc,aI];exact HX hl h
   .cases h
  .cases h
 .cases h
def aB4{op:BinOp}{t:TypeId}{x y:Operand}{a b v:PV}(ra:R J H a (ev A x))(rb:R J H b (ev A y))(h:lT P op t x y a b=some v):
    ∃w,(bif cK (ev A x)&&cK (ev A y)then cV P (do eqGuard op t x y (ev A x) (ev A y);binOp op t (ev A x) (ev A y))
      else match P.underlying t with
        |some (.slice _)=>XN op (ev A x) (ev A y)
        |_=>none)=some w/\R J H v w:=by
 unfold lT at h;split at h
 .rename_i u w hu hw;obtain⟨h1,hp1⟩:=EI hu ra;obtain⟨h2,hp2⟩:=EI hw rb;simp only[aF]at h;obtain⟨y',hy,rfl⟩:=h;rw[h1,h2,hp1,hp2];exact⟨y',by simpa using hy,.ofV1 (iZ hy)⟩
 .split at h
  .rename_i e he _;unfold aK5 at h;split at h
   .generalize ev A x=u1 at*;generalize ev A y=u2 at*;cases ra;cases rb;rw[he];simp only[cK,bR,Bool.false_and,aJ];cases op<;>simp only[aA,reduceCtorEq]at h<;>subst h<;>exact⟨_,rfl,.v _ rfl⟩
   .cases h
  .cases h
def aK3{op:UnOp}{a v:PV}{u:Value}(r:R J H a u)(h:aSW P op a=some v): ∃w,(bif bR u then cV P (Op.unary op u)else none)=some w/\R J H v w:=by
 unfold aSW at h;split at h
 .rename_i u' hu;obtain⟨rfl,hp⟩:=nN hu r;simp only[aF]at h;obtain⟨y,hy,rfl⟩:=h;exact⟨y,by rw[hp];exact hy,.ofV1 (iZ hy)⟩
 .cases h
def Ve{s d:TypeId}{a v:PV}{u:Value}(r:R J H a u)(h:tU P s d a=some v): ∃w,(bif bR u then cV P (convert s d u)else none)=some w/\R J H v w:=by
 unfold tU at h;split at h
 .rename_i u' hu;obtain⟨rfl,hp⟩:=nN hu r;simp only[aF]at h;obtain⟨y,hy,rfl⟩:=h;exact⟨y,by rw[hp];exact hy,.ofV1 (iZ hy)⟩
 .cases h
def JK(place:Nat): ∀(c:List PV) (c':List Value) (k:Nat) (A:List PV) (A':Array Value),RL J H c c'->RL J H A A'.toList->
    RL J H (wQ A (place+k) c) ((c'.zipIdx k).foldl (λ(cs:Array Value) x=>cs.setIfInBounds (place+x.2) x.1) A').toList:=by
 intro c;induction c with
 |nil=>intro c' k A A' h hA;rw[h.nil_inv];exact hA
 |cons x c ih=>
  intro c' k A A' h hA;obtain⟨u,us,rfl,hx,hr⟩:=h.cons_inv;simp only[List.zipIdx_cons,List.foldl_cons,wQ];have:=ih us (k+1) (A.set (place+k) x) (A'.setIfInBounds (place+k) u) hr (by rw[Array.toList_setIfInBounds];exact hA.set hx _)
  exact this
def PRs(J:Nu)(H:St)(ps:List (Nat×PV))(qs:List (Nat×Value)):Prop:=ps.map (·.1)=qs.map (·.1)/\RL J H (ps.map (·.2)) (qs.map (·.2))
def PRs.of(F:FR J I H S A){parts:List (Nat×Operand)}(h:(parts.map (·.2)).all (cI P)=true):
    PRs J H (parts.map λ(i,x)=>(i,cP S x)) (parts.map λ(i,x)=>(i,ev A x)):=by
 refine⟨by simp[Function.comp_def],?_⟩
 have:=vL (P:=P) F h;simpa [Function.comp_def]using this
def HY(place:Nat->Option (Nat×Nat)): ∀(ps:List (Nat×PV)) (qs:List (Nat×Value)) (B:List PV) (B':Array Value) (r:List PV),PRs J H ps qs->RL J H B B'.toList->vK place B ps=some r->
    ∃r',Instr.fill place B' qs=some r'/\RL J H r r'.toList:=by
 intro ps;induction ps with
 |nil=>
  intro qs B B' r hp hB h;have:qs=[]:=by have:=hp.1;simpa using this.symm
  subst this;simp only[vK,aA]at h;subst h;exact⟨B',rfl,hB⟩
 |cons q ps ih=>
  intro qs B B' r hp hB h;obtain⟨i,x⟩:=q;cases qs with
  |nil=>have:=hp.1;simp at this
  |cons q' qs=>
   obtain⟨i',u⟩:=q';have h1:=hp.1;simp only[aO,List.cons.injEq]at h1;obtain⟨rfl,h1⟩:=h1;have h2:=hp.2;simp only[aO]at h2;obtain⟨u',gm,he,hx,hr⟩:=h2.cons_inv;simp only[List.cons.injEq]at he;obtain⟨rfl,rfl⟩:=he;simp only[vK]at h;simp only[Instr.fill];split at h
   .cases h
   .rename_i off size e;simp only[e];cases hc:Nat.beq x.cells.length size&&Nat.ble (off+size) B.length&&x.cells.all PV.one with
    |false=>rw[hc,aJ]at h;cases h
    |true=>
     rw[hc,aI]at h;simp only[aC]at hc;have hcs:=hx.cells hc.2;have cq:=aE hc.1.1;have hle:=bP hc.1.2;have fu:u.cells.size=size:=by have:=hcs.1;simp at this;omega
     have hBl:B.length=B'.size:=by have:=hB.1;simpa using this
     rw[bH (by simp[fu];omega)]
     refine ih qs _ _ r ⟨h1,hr⟩ ?_ h;have:=JK (J:=J) (H:=H) off x.cells u.cells.toList 0 B B' hcs hB;rw[<-Array.foldl_toList,Array.toList_zipIdx];exact this
def pQ{t:TypeId}{z:List PV}(h:zeroCells P t=some z): ∃w,bX P (zeroValue t)=some w/\w.cells.toList.all bR=true/\z=ofVs w.cells.toList:=by
 unfold zeroCells at h;split at h
 .rename_i w e;cases hc:w.cells.toList.all bR with
  |false=>rw[hc,aJ]at h;cases h
  |true=>rw[hc,aI]at h;simp only[aA]at h;exact⟨w,e,hc,h.symm⟩
 .cases h
def SA{t:TypeId}{ps:List (Nat×PV)}{qs:Array (Nat×Value)}{v:PV}(hp:PRs J H ps qs.toList)(h:uI P t ps=some v): ∃w,uT P t qs=some w/\R J H v w:=by
 unfold uI at h;split at h
 .rename_i z hz;obtain⟨w,hw,di,rfl⟩:=pQ hz;unfold uT;simp only[hw,di,aI];split at h
  .rename_i fs e;simp only[e];split at h
   .rename_i pl e2;simp only[e2];simp only[aF]at h;obtain⟨cs,hf,rfl⟩:=h;obtain⟨cx,jt,hr⟩:=HY _ _ _ _ _ _ hp (.ofVs di) hf;exact⟨_,by rw[jt];rfl,.mkAgg' hr⟩
   .cases h
  .rename_i n e he;simp only[he];split at h
   .rename_i s e2;simp only[e2];simp only[aF]at h;obtain⟨cs,hf,rfl⟩:=h;obtain⟨cx,jt,hr⟩:=HY _ _ _ _ _ _ hp (.ofVs di) hf;exact⟨_,by rw[jt];rfl,.mkAgg' hr⟩
   .cases h
  .cases h
 .cases h
def aB3{t:TypeId}{v x:PV}{u:Value}(r:R J H v u)(h:zY P t v=some x): ∃w,De P t u=some w/\R J H x w:=by
 unfold zY at h;unfold De;split at h
 .rename_i e he;simp only[he];split at h<;>(try cases h)<;>(cases r<;>exact⟨_,rfl,.v _ rfl⟩)
 .rename_i he;simp only[he];split at h<;>(try cases h)
  cases r with
  |str s=>refine⟨_,rfl,?_⟩;simp only[i64,goInt,Array.length_toList];exact .v _ rfl
 .rename_i n e he;simp only[he];cases h;exact⟨_,rfl,.v _ rfl⟩
 .cases h
def A9{mx:Bool}{ts:Array TypeId}{ty:TypeId}{as:List PV}{us:Array Value}{x:PV}(r:RL J H as us.toList)(h:mB P mx ts ty as=some x):
    ∃w,(bif us.toList.all bR then cV P (bif mx then Builtin.max_ ts ty us else Builtin.min_ ts ty us)else none)=some w/\R J H x w:=by
 unfold mB at h;split at h
 .rename_i l hl;obtain⟨h1,h2⟩:=aBv hl r;simp only[aF]at h;obtain⟨y,hy,rfl⟩:=h;refine⟨y,?_,.ofV1 (iZ hy)⟩;rw[h1,h2,aI,<-hy];rw[show us=l.toArray by rw[<-h1]]
 .cases h
end
end Go.PI
namespace Go.PI
open Go.AI
def mU(S:PS)(t k:Nat)(x:PV×Bool):PS.at (PS.set S t x) k=if k=t then x else S.at k:=by
 simp only[PS.at,PS.set,cQ,Bool.cond_decide]
def Ax(A:Slots)(t k:Nat)(x:Value):Slots.at (Tr.set A t x) k=if k=t then x else A.at k:=by
 simp only[Slots.at,Tr.get_set];split<;>rfl
def G2(I I':Ga):Prop:= ∀i,(I i=some .out->I' i=some .out)/\∀id off,I i=some (.cell id off)->I' i=some (.cell id off)
def G2.refl(I:Ga):G2 I I:=λi=>⟨id,λ_ _=>id⟩
def G2.trans{I I' I'':Ga}(h:G2 I I')(h':G2 I' I''):G2 I I'':=λi=>⟨λe=>(h' i).1 ((h i).1 e),λid off e=>(h' i).2 id off ((h i).2 id off e)⟩
def G2.mv{I:Ga}{k k':K}(h:k≠ .out)(h': ∀id off,k≠ .cell id off):G2 I (PI.mv k k' I):=by
 intro i;refine⟨λe=>?_,λid off e=>?_⟩<;>simp only[PI.mv,e]
 .rw[bH (by simpa using Ne.symm h)]
 .rw[bH (by simpa using Ne.symm (h' id off))]
section
variable{P:Program}{J:Nu}{I:Ga}{H:St}{S:PS}{A:Slots}
def ObjR.g2{I':Ga}{id:Nat}{o:jU}(h:ObjR J I H id o)(g: ∀i off,I i=some (.cell id off)->I' i=some (.cell id off)):ObjR J I' H id o:=by
 cases o with
 |box cs=>
  obtain⟨a,us,h1,h2,h3,h4⟩:=h;refine⟨a,us,h1,h2,h3,λi x b u hx hu=>?_⟩
  obtain⟨h5,h6,h7⟩:=h4 i x b u hx hu;exact⟨h5,h6,λhb=>(h7 hb).weak λj hj=>g j i hj⟩
 |_=>exact h
def Mem.g2{I':Ga}{p:PSt}(M:Mem J I p H)(g:G2 I I'):Mem J I' p H:=
 ⟨M.le,M.lt,M.inj,M.live,λid o h=>(M.get id o h).g2 λi off e=>(g i).2 id off e,M.free,M.ver⟩
def FR.put(F:FR J I H S A){v:PV}{u:Value}{own:Bool}(r:R J H v u)(ho:own=true->Ow J I H .hand v u)(d:Option Tmp):
    ∃I',FR J I' H (S.put d v own) (A.store d u)/\G2 I I':=by
 cases d with
 |none=>exact⟨I,F,.refl I⟩
 |some d=>
  refine⟨PI.mv .hand (.slot d) I,λt=>?_,.mv (by simp) (by simp)⟩
  simp only[PS.put,Slots.store,mU,Ax];by_cases e:t=d
  .subst e;simp only[bO];exact⟨r,λh=>(ho h).mv⟩
  .simp only[bH e];exact⟨(F t).1,λh=>((F t).2 h).mv_ne (by simp)⟩
def FR.keeps(F:FR J I H S A)(ts:List Nat):FR J I H (keeps S ts) A:=by
 induction ts with
 |nil=>intro k;exact⟨.und _,λh=>by cases h⟩
 |cons t ts ih=>
  intro k;simp only[PI.keeps,mU];split
  .rename_i e;subst e;exact F k
  .exact ih k
def IS(F:FR J I H S A)(x:Operand)(hx:cI P x=true): ∃I',FR J I' H (lK S x) A/\(gZ S x=true->Ow J I' H .hand (cP S x) (ev A x))/\G2 I I'/\∀i k,I i=some (.arg k)->I' i=some (.arg k):=by
 cases x with
 |tmp t=>
  have hF:=F t;simp only[lK,gZ,cP,ev];refine⟨PI.mv (.slot t) .hand I,λk=>?_,λh=>?_,.mv (by simp) (by simp),λi k hi=>by simp[PI.mv,hi]⟩
  .rw[mU];split
   .rename_i hk;subst hk;exact⟨hF.1,λh=>by cases h⟩
   .rename_i hk;exact⟨(F k).1,λh=>((F k).2 h).mv_ne (by simpa using hk)⟩
  .simp only[Bool.or_eq_true]at h;rcases h with h|h
   .exact(hF.2 h).mv
   .have hr:=hF.1;generalize (S.at t).1=v at hr h;generalize A.at t=u at hr;cases v<;>simp only[jW]at h<;>try cases h
    cases hr;exact .nil _
 |const v=>
  refine⟨I,F,λh=>?_,.refl I,λ_ _ h=>h⟩
  cases v with
  |slice a l c=>
   cases a with
   |none=>
    simp only[cI,cK,bR,aC]at hx;have h1:=aE hx.1;have h2:=aE hx.2;subst h1;subst h2;exact .nil _
   |some a=>simp only[gZ]at h;cases h
  |_=>simp only[gZ]at h;cases h
 |global g=>exact⟨I,F,λh=>(by cases h),.refl I,λ_ _ h=>h⟩
 |func f=>exact⟨I,F,λh=>(by cases h),.refl I,λ_ _ h=>h⟩
def sU(F:FR J I H S A)(x:Operand)(hx:cI P x=true): ∃I',FR J I' H (lK S x) A/\(gZ S x=true->Ow J I' H .hand (cP S x) (ev A x))/\G2 I I':=by
 obtain⟨I',h1,h2,h3,_⟩:=IS F x hx;exact⟨I',h1,h2,h3⟩
def rU{P:Program}{a:Array Operand}(h:a.all (cI P)=true):a.toList.all (cI P)=true:=by simpa using h
def HW(F:FR J I H S A){o:Oper}(ho:o.op.operands.all (cI P)=true){v:PV}{take own:Bool}{S':PS}(h:dP P take S o=some (v,own,S')):
    ∃u I',iW P (ev A) o=some u/\R J H v u/\FR J I' H S' A/\(own=true->Ow J I' H .hand v u)/\G2 I I':=by
 have iG: ∀{x:Option PV},x.map (λv=>(v,false,S))=some (v,own,S')->∀{y:Option Value},(∀v',x=some v'->∃u,y=some u/\R J H v' u)->
      ∃u I',y=some u/\R J H v u/\FR J I' H S' A/\(own=true->Ow J I' H .hand v u)/\G2 I I':=by
  intro x hx y hy;simp only[aF,aB]at hx;obtain⟨v',h1,rfl,rfl,rfl⟩:=hx;obtain⟨u,h2,h3⟩:=hy v' h1;exact⟨u,I,h2,h3,F,λh=>(by cases h),.refl I⟩
 replace ho:=rU ho
 obtain⟨dst,op,ty,pos,af,g⟩:=o;cases op with
 |move x=>
  simp only[Op.operands,aP,List.all_nil,bE]at ho;cases take with
  |true=>
   simp only[dP,aI,aA,aB]at h;obtain⟨rfl,rfl,rfl⟩:=h;obtain⟨I',h1,h2,h3⟩:=sU F x ho;exact⟨_,I',rfl,cU F ho,h1,h2,h3⟩
  |false=>
   simp only[dP,aJ,aA,aB]at h;obtain⟨rfl,rfl,rfl⟩:=h;exact⟨_,I,rfl,cU F ho,F,λh=>(by cases h),.refl I⟩
 |assign x=>
  simp only[Op.operands,aP,List.all_nil,bE]at ho;cases take with
  |true=>
   simp only[dP,aI,aA,aB]at h;obtain⟨rfl,rfl,rfl⟩:=h;obtain⟨I',h1,h2,h3⟩:=sU F x ho;exact⟨_,I',rfl,cU F ho,h1,h2,h3⟩
  |false=>
   simp only[dP,aJ,aA,aB]at h;obtain⟨rfl,rfl,rfl⟩:=h;exact⟨_,I,rfl,cU F ho,F,λh=>(by cases h),.refl I⟩
 |pick c a b=>
  simp only[Op.operands,aP,List.all_nil,bE,aC]at ho;have hc:=cU F ho.1;simp only[dP]at h;simp only[iW];split at h
  .rename_i e2;rw[e2]at hc;simp only[aA,aB]at h;obtain⟨rfl,rfl,rfl⟩:=h;generalize ev A c=w at hc;cases hc;exact⟨_,I,rfl,cU F ho.2.1,F,λh=>(by cases h),.refl I⟩
  .rename_i e2;rw[e2]at hc;simp only[aA,aB]at h;obtain⟨rfl,rfl,rfl⟩:=h;generalize ev A c=w at hc;cases hc;exact⟨_,I,rfl,cU F ho.2.2,F,λh=>(by cases h),.refl I⟩
  .cases h
 |build t parts=>
  simp only[dP]at h;refine iG h λv' hv=>SA ?_ hv
  have:=PRs.of (P:=P) F (parts:=parts.toList) (by simpa [Op.operands]using ho)
  simpa using this
 |nilCheck x=>
  simp only[Op.operands,aP,List.all_nil,bE]at ho;have hx:=cU F ho;simp only[dP]at h;simp only[iW];split at h
  .rename_i id off e2;rw[e2]at hx;simp only[aA,aB]at h;obtain⟨rfl,rfl,rfl⟩:=h;generalize ev A x=w at hx⊢;cases hx with
   |ptr _ _ a hν=>exact⟨_,I,rfl,.ptr _ _ _ hν,F,λh=>(by cases h),.refl I⟩
   |ptr0 _ _ a hν=>exact⟨_,I,rfl,.ptr0 _ _ _ hν,F,λh=>(by cases h),.refl I⟩
  .rename_i es i off e2;rw[e2]at hx;simp only[aA,aB]at h;obtain⟨rfl,rfl,rfl⟩:=h;generalize ev A x=w at hx⊢;cases hx with
   |pin z _ _ _ id base rcs m hs hr hb2 hh=>exact⟨_,I,rfl,.pin z es i _ id base rcs m hs hr hb2 hh,F,λh=>(by cases h),.refl I⟩
  .cases h
 |binOp op t x y ty=>
  simp only[dP]at h;simp only[Op.operands,aP,List.all_nil,bE,aC]at ho;exact iG h λv' hv=>aB4 (cU F ho.1) (cU F ho.2) hv
 |unOp op t x=>
  simp only[dP]at h;simp only[Op.operands,aP,List.all_nil,bE]at ho;exact iG h λv' hv=>aK3 (cU F ho) hv
 |convert s d x=>
  simp only[dP]at h;simp only[Op.operands,aP,List.all_nil,bE]at ho;exact iG h λv' hv=>Ve (cU F ho) hv
 |makeFunc fn first captured=>
  simp only[Op.operands,Array.toList_append,List.all_append,aC]at ho;cases fn with
  |func f=>
   simp only[dP,aA,aB]at h;obtain⟨rfl,rfl,rfl⟩:=h;have h1:=(vL F ho.1).wks;have h2:=(vL F ho.2).wks;refine⟨_,I,rfl,.fn f _ _ _ _ ?_ ?_ ?_ ?_,F,λh=>(by cases h),.refl I⟩
   .simpa using h1.1
   .simpa using h1.2
   .simpa using h2.1
   .simpa using h2.2
  |_=>simp only[dP]at h;cases h
 |fieldAddr s x f=>
  simp only[dP]at h;simp only[Op.operands,aP,List.all_nil,bE]at ho;exact iG h λv' hv=>CY (cU F ho) hv
 |field s x f=>
  simp only[dP]at h;simp only[Op.operands,aP,List.all_nil,bE]at ho;exact iG h λv' hv=>Sy (cU F ho) hv
 |indexAddr t x i=>
  simp only[dP]at h;simp only[Op.operands,aP,List.all_nil,bE,aC]at ho;exact iG h λv' hv=>CX (cU F ho.1) (cU F ho.2) hv
 |index t x i=>
  simp only[dP]at h;simp only[Op.operands,aP,List.all_nil,bE,aC]at ho;exact iG h λv' hv=>Sw (cU F ho.1) (cU F ho.2) hv
 |extract t i=>
  simp only[Op.operands,aP,List.all_nil,bE]at ho;have hx:=cU F ho;simp only[dP]at h;simp only[iW];split at h
  .rename_i vs e2;rw[e2]at hx;obtain⟨us,hu,hl⟩:=hx.tup_inv;cases ko:(take&&Nat.beq i 0)with
   |false=>
    rw[ko,aJ]at h;simp only[hu];refine iG h λv' hv=>?_
    obtain⟨u,h1,h2⟩:=hl.get hv;exact⟨u,by simpa using h1,h2⟩
   |true=>
    rw[ko,aI]at h;simp only[aC,Nat.beq_eq]at ko;obtain⟨_,rfl⟩:=ko;simp only[aF,aB]at h;obtain⟨v',hv,rfl,rfl,rfl⟩:=h;obtain⟨u,h1,h2⟩:=hl.get hv;obtain⟨I',f1,f2,f3⟩:=sU F t ho;refine⟨u,I',by rw[hu];simpa using h1,h2,f1,λhw=>?_,f3⟩
    have:=f2 hw;rw[e2,hu]at this;cases this with
    |tup x xs u' gm _ hh=>
     simp only[aU,aA]at hv;subst hv;have h1':u'=u:=by simpa using h1
     subst h1';exact hh
  .cases h
 |call c=>
  obtain⟨callee,args,argTypes⟩:=c;simp only[Op.operands,Call.operands,Array.toList_append,List.all_append,aC]at ho;simp only[iW];cases callee with
  |builtin b=>
   cases b with
   |len=>
    simp only[dP]at h;simp only[fV];split at h
    .rename_i t x ht hx;simp only[ht,hx];have hxo:cI P x=true:=by
      have:x∈args.toList:=by
       have:=Array.mem_of_getElem? hx;simpa using this
      exact(bJ.1 ho.2) x this
     exact iG h λv' hv=>aB3 (cU F hxo) hv
    .cases h
   |min=>
    simp only[dP]at h;simp only[fV];have:=vL F ho.2;exact iG h λv' hv=>A9 (mx:=false) (by simpa using this) hv
   |max=>
    simp only[dP]at h;simp only[fV];have:=vL F ho.2;exact iG h λv' hv=>A9 (mx:=true) (by simpa using this) hv
   |_=>simp only[dP]at h;cases h
  |_=>simp only[dP]at h;cases h
 |_=>simp only[dP]at h;cases h
end
end Go.PI
namespace Go.PI
open Go.AI
def GoOut(H:St)(I I':Ga):Prop:= ∀i,H.get i≠none->I i=some .out->I' i=some .out
def GoOut.refl(H:St)(I:Ga):GoOut H I I:=λ_ _ h=>h
def GoOut.trans{H H':St}{I I' I'':Ga}(h:GoOut H I I')(h':GoOut H' I' I'')(hd: ∀a,H'.get a=none->H.get a=none):GoOut H I I'':=λi e hi=>h' i (λe'=>e (hd i e')) (h i e hi)
def G2.out{H:St}{I I':Ga}(g:G2 I I'):GoOut H I I':=λi _ h=>(g i).1 h
def kG{p:PSt}{id:Nat}{o:jU}(h:id<p.next)(k:Nat):(p.upd id o).get k=if k=id then some o else p.get k:=by
 simp only[PSt.get,PSt.upd,Tr.get_set,gQ,Bool.cond_decide];by_cases e:k=id
 .subst e;simp[h]
 .simp[e]
def LN{p:PSt}{id:Nat}{o:jU}(h:p.get id=some o):id<p.next:=by
 simp only[PSt.get,gQ,Bool.cond_decide]at h;by_cases e:id<p.next
 .exact e
 .simp[e]at h
def Ge{p q:Prop}[Decidable p][Decidable q](h: ¬(p/\q)):(decide p&&decide q)=false:=by
 by_cases hp:p<;>by_cases hq:q<;>simp_all
section
variable{P:Program}{J:Nu}{I:Ga}{H:St}{S:PS}{A:Slots}
def E9{z:Nat}{es:List PV}{id off c:Nat}(r:R J H (.sl z es) (.slice (some ⟨id,off,none⟩) es.length c)):R J H (dD z es) (.slice (some ⟨id,off,none⟩) es.length c):=by
 cases es with
 |nil=>cases r with|sl _ _ _ _ _ rcs m hz hs hr hm hb hh=>exact .emp1 _ _ _ _ _ hr
 |cons e es=>exact r
def DW{z:Nat}: ∀{es:List PV} (hs: ∀e∈es,e.cells.length=z) (l:Nat),eD (es.drop l)=(eD es).drop (l*z):=by
 intro es;induction es with
 |nil=>intro hs l;simp[eD]
 |cons e es ih=>
  intro hs l;cases l with
  |zero=>simp
  |succ l=>
   have:=ih (λx hx=>hs x (aG _ hx)) l
   simp only[List.drop_succ_cons,this];simp only[eD,aN];have he:=hs e (by simp)
   have h1:e.cells.drop ((l+1)*z)=[]:=List.drop_eq_nil_of_le (by rw[he,Nat.succ_mul];omega)
   have h2:(l+1)*z-z=l*z:=by rw[Nat.succ_mul];omega
   rw[List.drop_append,h1,he,h2,aW]
def DV{z:Nat}: ∀{es:List PV} (hs: ∀e∈es,e.cells.length=z) (l:Nat),eD (es.take l)=(eD es).take (l*z):=by
 intro es;induction es with
 |nil=>intro hs l;simp[eD]
 |cons e es ih=>
  intro hs l;cases l with
  |zero=>simp[eD]
  |succ l=>
   have:=ih (λx hx=>hs x (aG _ hx)) l
   simp only[eD,List.take_succ_cons,aN]at this⊢;have he:=hs e (by simp)
   have h1:e.cells.take ((l+1)*z)=e.cells:=List.take_of_length_le (by rw[he,Nat.succ_mul];omega)
   have h2:(l+1)*z-z=l*z:=by rw[Nat.succ_mul];omega
   rw[this,List.take_append,h1,he,h2]
def R.sub{z:Nat}{es:List PV}{id off n c:Nat}(r:R J H (.sl z es) (.slice (some ⟨id,off,none⟩) n c)){l h:Nat}(h1:l<=h)(h2:h<=es.length)(c':Nat):
    R J H (dD z ((es.take h).drop l)) (.slice (some ⟨id,off+l*z,none⟩) (h-l) c'):=by
 cases r with
 |sl _ _ _ _ _ rcs m hz hs hr hm hb hh=>
  have hlen:((es.take h).drop l).length=h-l:=by simp;omega
  have hle:(h-l)*z+l*z<=es.length*z:=by rw[<-Nat.add_mul];exact Nat.mul_le_mul_right _ (by omega)
  rw[<-hlen];refine E9 (.sl z _ id _ c' rcs m hz (λe he=>hs e (List.mem_of_mem_take (List.mem_of_mem_drop he))) hr hm (by rw[hlen];omega) λi x u hx hu=>?_)
  have fy: ∀e∈es.take h,e.cells.length=z:=λe he=>(hs e (List.mem_of_mem_take he)).1
  rw[DW fy,DV (λe he=>(hs e he).1),List.getElem?_drop,List.getElem?_take]at hx
  split at hx
  .exact hh (l*z+i) x u hx (by rw[<-Nat.add_assoc];exact hu)
  .cases hx
def OR(J:Nu)(H:St)(xs:Option PV)(us:Option Value):Prop:=match xs,us with|some x,some u=>R J H x u|none,none=>True|_,_=>False
def P3{xs:Option PV}{us:Option Value}{l:Option Value}(h:Ly xs=some l)(hr:OR J H xs us):
    us=l/\bR (us.getD (.bool true))=true:=by
 cases xs with
 |none=>
  cases us with
  |none=>simp only[Ly,aA]at h;exact⟨h,rfl⟩
  |some u=>exact False.elim hr
 |some x=>
  cases us with
  |none=>exact False.elim hr
  |some u=>
   simp only[Ly]at h;split at h
   .rename_i v hv;simp only[aA]at h;subst h;obtain⟨rfl,hp⟩:=nN hv hr;exact⟨rfl,hp⟩
   .cases h
def wV{xs:Option PV}{us:Option Value}{l:Option Int}(h:lU xs=some l)(hr:OR J H xs us):
    lX us=some l:=by
 cases xs with
 |none=>
  cases us with
  |none=>simp only[lU,aA]at h;subst h;rfl
  |some u=>exact False.elim hr
 |some x=>
  cases us with
  |none=>exact False.elim hr
  |some u=>
   simp only[lU]at h;split at h
   .rename_i e;cases e
   .rename_i k n e;cases e;cases hr;simp only[aA]at h;subst h;rfl
   .cases h
def OR.of(F:FR J I H S A){x:Option Operand}(h: ∀y,x=some y->cI P y=true):OR J H (x.map (cP S)) (x.map (ev A)):=by
 cases x with
 |none=>trivial
 |some y=>exact cU F (h y rfl)
def Ss{p:PSt}(M:Mem J I p H){t:TypeId}{v w:PV}{u:Value}{lo hi mx:Option PV}{lm jz mx':Option Value}{own:Bool}(r:R J H v u)
    (rl:OR J H lo lm) (rh:OR J H hi jz) (rm:OR J H mx mx') (h:kE P p t v lo hi mx=some (w,own)):
    ∃y,oN P H t u lm jz mx'=some y/\R J H w y/\(own=true->Ow J I H .hand w y):=by
 unfold kE at h;unfold oN;split at h
 .rename_i e;rw[e];split at h
  .rename_i s l hh _ _ hl ka;cases r with
   |str ba=>
   obtain⟨rfl,di⟩:=P3 hl rl;obtain⟨rfl,hph⟩:=P3 ka rh;cases mx' with
   |some _=>exact False.elim rm
   |none=>
    simp only[aF,aB]at h;obtain⟨y,hy,rfl,rfl⟩:=h;refine⟨y,?_,.ofV1 (iZ hy),λh=>(by cases h)⟩
    simp only[Option.isNone_none,di,hph,Bool.and_self,aI];exact hy
  .cases h
 .rename_i e he;rw[he];split at h
  .rename_i z l hh m hz hl ka hm;have el:=wV hl rl;have eh:=wV ka rh;have em:=wV hm rm;split at h
   .rename_i id off len;split at h
    .rename_i z' ag cs hg;obtain⟨a,us,h1,h2,_⟩:=M.get id _ hg;cases r with
     |rs0 _ _ _ c a' hν=>rw[hν]at h1;cases h1
     |rs _ _ _ c a' hν=>
      rw[hν]at h1;simp only[aA]at h1;subst h1;cases hc:Nat.beq z z'&&decide (0<=l.getD 0)&&decide (l.getD 0<hh.getD (len:Int))&&decide (hh.getD (len:Int)<=(len:Int))with
      |false=>rw[hc,aJ]at h;cases h
      |true=>
       rw[hc,aI]at h;simp only[aA,aB]at h;obtain⟨rfl,rfl⟩:=h;simp only[aC,aD]at hc;obtain⟨⟨⟨gq,hl0⟩,hlh⟩,pq⟩:=hc;have gq:=aE gq;subst gq;have lr:oG H a' z=true:=by
        simp only[oG,row_of_get h2 rfl,cQ];simp[cS]
       simp only[hz,el,eh,em,xI,Bool.and_false,Bool.false_and,aJ,lr,aI];rw[show(decide (0<=l.getD 0)&&decide (l.getD 0<=hh.getD (len:Int))&&decide (hh.getD (len:Int)<=(len:Int)))=true by simp;omega]
       simp only[aI,cQ];have key: ∀c',R J H (.rs id (off+(l.getD 0).toNat*z) ((hh.getD (len:Int)).toNat-(l.getD 0).toNat)) (.slice (some ⟨a',off+(l.getD 0).toNat*z,none⟩) ((hh.getD (len:Int)).toNat-(l.getD 0).toNat) c'):=λc'=> .rs _ _ _ _ _ hν
       by_cases hA:c=len/\(hh.getD (len:Int)).toNat=len
       .rw[show(decide (c=len)&&decide ((hh.getD (len:Int)).toNat=len))=true by simp[hA.1,hA.2]]
        rw[show decide ((l.getD 0).toNat=len)=false by simp;omega]
        simp only[aI,aJ];refine⟨_,rfl,?_,λh=>(by cases h)⟩
        have:=key (len-(l.getD 0).toNat);rw[hA.2]at this⊢;exact this
       .rw[show(decide (c=len)&&decide ((hh.getD (len:Int)).toNat=len))=false by exact Ge hA]
        simp only[aJ];by_cases hB:(hh.getD (len:Int)).toNat=len/\(l.getD 0).toNat=0
        .rw[show(decide ((hh.getD (len:Int)).toNat=len)&&decide ((l.getD 0).toNat=0))=true by simp[hB.1,hB.2]]
         simp only[aI];refine⟨_,rfl,?_,λh=>(by cases h)⟩
         have:=key c;rw[hB.1,hB.2]at this⊢;simpa using this
        .rw[show(decide ((hh.getD (len:Int)).toNat=len)&&decide ((l.getD 0).toNat=0))=false by exact Ge hB]
         rw[show decide (l.getD 0<(len:Int))=true by simp;omega]
         simp only[aJ,aI];exact⟨_,rfl,key _,λh=>(by cases h)⟩
    .cases h
   .rename_i z' es;cases r with
    |sl _ _ id off c rcs mm hz1 hs hr hm1 hb hhr=>
     cases hc:Nat.beq z z'&&decide (0<=l.getD 0)&&decide (l.getD 0<=hh.getD (es.length:Int))&&decide (hh.getD (es.length:Int)<=(es.length:Int))with
     |false=>rw[hc,aJ]at h;cases h
     |true=>
      rw[hc,aI]at h;simp only[aA,aB]at h;obtain⟨rfl,rfl⟩:=h;simp only[aC,aD]at hc;obtain⟨⟨⟨gq,hl0⟩,hlh⟩,pq⟩:=hc;have gq:=aE gq;subst gq;have lr:oG H id z=true:=by simp only[oG,hr.1,cQ,hm1];simp
      simp only[hz,el,eh,em,xI,Bool.and_false,Bool.false_and,aJ,lr,aI];rw[show(decide (0<=l.getD 0)&&decide (l.getD 0<=hh.getD (es.length:Int))&&decide (hh.getD (es.length:Int)<=(es.length:Int)))=true by simp;omega]
      simp only[aI,cQ];have r0:R J H (.sl z es) (.slice (some ⟨id,off,none⟩) es.length c):= .sl z es id off c rcs mm hz1 hs hr hm1 hb hhr;have key:=λc'=>R.sub r0 (l:=(l.getD 0).toNat) (h:=(hh.getD (es.length:Int)).toNat) (by omega) (by omega) c'
      by_cases hA:c=es.length/\(hh.getD (es.length:Int)).toNat=es.length
      .rw[show(decide (c=es.length)&&decide ((hh.getD (es.length:Int)).toNat=es.length))=true by simp[hA.1,hA.2]]
       simp only[aI];by_cases hE:(l.getD 0).toNat=es.length
       .rw[show decide ((l.getD 0).toNat=es.length)=true by simp[hE]]
        simp only[aI];refine⟨_,rfl,?_,λh=>(by cases h)⟩
        rw[hA.2,hE,List.drop_eq_nil_of_le (by simp)]
        exact .emp1 _ _ _ _ _ hr
       .rw[show decide ((l.getD 0).toNat=es.length)=false by simp[hE]]
        simp only[aJ];refine⟨_,rfl,?_,λh=>(by cases h)⟩
        have:=key (es.length-(l.getD 0).toNat);rw[hA.2]at this⊢;exact this
      .rw[show(decide (c=es.length)&&decide ((hh.getD (es.length:Int)).toNat=es.length))=false by exact Ge hA]
       simp only[aJ];by_cases hB:(hh.getD (es.length:Int)).toNat=es.length/\(l.getD 0).toNat=0
       .rw[show(decide ((hh.getD (es.length:Int)).toNat=es.length)&&decide ((l.getD 0).toNat=0))=true by simp[hB.1,hB.2]]
        simp only[aI];refine⟨_,rfl,?_,λh=>(by cases h)⟩
        have:=key c;rw[hB.1,hB.2]at this⊢;simpa using this
       .rw[show(decide ((hh.getD (es.length:Int)).toNat=es.length)&&decide ((l.getD 0).toNat=0))=false by exact Ge hB]
        simp only[aJ];by_cases hE:l.getD 0<(es.length:Int)
        .rw[show decide (l.getD 0<(es.length:Int))=true by simp;omega]
         simp only[aI];exact⟨_,rfl,key _,λh=>(by cases h)⟩
        .rw[show decide (l.getD 0<(es.length:Int))=false by simp;omega]
         simp only[aJ];refine⟨_,rfl,?_,λh=>(by cases h)⟩
         rw[List.drop_eq_nil_of_le (by simp;omega)]
         exact .emp2 _ _ _ _
   .cases hc:decide (0<=l.getD 0)&&decide (l.getD 0<=hh.getD 0)&&decide (hh.getD 0<=0)with
    |false=>rw[hc,aJ]at h;cases h
    |true=>
     rw[hc,aI]at h;simp only[aA,aB]at h;obtain⟨rfl,rfl⟩:=h;simp only[aC,aD]at hc;have qj:mx'=none:=by
      cases mx' with
      |none=>rfl
      |some w=>cases w<;>simp[lX]at em
     subst qj;cases r with
     |emp0=>
      simp only[hz,el,eh,em,xI,Bool.and_false,Bool.false_and,aJ];rw[show(decide (0<=l.getD 0)&&decide (l.getD 0<=hh.getD ((0:Nat):Int))&&decide (hh.getD ((0:Nat):Int)<=((0:Nat):Int)))=true by simp;omega]
      exact⟨_,rfl,.emp0,λh=>(by cases h)⟩
     |emp1 id off c rcs m hr=>
      simp only[hz,el,eh,em,xI,Bool.and_false,Bool.false_and,aJ];rw[show(decide (0<=l.getD 0)&&decide (l.getD 0<=hh.getD ((0:Nat):Int))&&decide (hh.getD ((0:Nat):Int)<=((0:Nat):Int)))=true by simp;omega]
      have hl0:(l.getD 0).toNat=0:=by omega
      have hh0:(hh.getD ((0:Nat):Int)).toNat=0:=by simp;omega
      simp only[aI,hl0,hh0];cases lr:oG H id z with
      |false=>simp only[aJ];exact⟨_,rfl,.emp1 _ _ _ _ _ hr,λh=>(by cases h)⟩
      |true=>
       simp only[aI];cases gp:Nat.beq c 0&&Nat.beq 0 0 with
       |true=>
        simp only[aI];exact⟨_,rfl,.emp1 _ _ _ _ _ hr,λh=>(by cases h)⟩
       |false=>
        simp only[aJ];exact⟨_,rfl,.emp1 _ _ _ _ _ hr,λh=>(by cases h)⟩
     |emp2 b o s c=>
      simp only[hz,el,eh,em,xI,Bool.and_false,Bool.false_and,aJ];rw[show(decide (0<=l.getD 0)&&decide (l.getD 0<=hh.getD ((0:Nat):Int))&&decide (hh.getD ((0:Nat):Int)<=((0:Nat):Int)))=true by simp;omega]
      exact⟨_,rfl,.emp2 _ _ _ _,λh=>(by cases h)⟩
   .rename_i z' es m';cases r with
    |sl _ _ id off c rcs mm hz1 hs hr hm1 hb hhr=>
     cases hc:Nat.beq z z'&&decide (0<=l.getD 0)&&decide (l.getD 0<hh.getD (es.length:Int))&&decide (hh.getD (es.length:Int)<=(es.length:Int))&&hh.isSome&&decide (hh.getD (es.length:Int)=m')with
     |false=>
      rw[hc,aJ]at h;cases hc2:List.isEmpty es&&(decide (0<=l.getD 0)&&decide (l.getD 0<=hh.getD 0)&&decide (hh.getD 0<=0)&&hh.isSome&&decide (m'=0))with
      |false=>rw[hc2,aJ]at h;cases h
      |true=>
       rw[hc2,aI]at h;simp only[aA,aB]at h;obtain⟨rfl,rfl⟩:=h;simp only[aC,aD,List.isEmpty_iff]at hc2;obtain⟨rfl,⟨⟨⟨hl0,hlh⟩,hh0⟩,sg⟩,rfl⟩:=hc2;have hb:(decide (0<=l.getD 0)&&decide (l.getD 0<=hh.getD ((0:Nat):Int))&&decide (hh.getD ((0:Nat):Int)<=((0:Nat):Int)))=true:=by simp;omega
       have hq:(Nat.beq 0 0&&xI (some 0)&&hh.isSome)=true:=by rw[sg];rfl
       simp only[hz,el,eh,em,aX,hb,hq,aI];exact⟨_,rfl,.emp2 0 0 1 0,λ_=> .zer _ 0 0⟩
     |true=>
      rw[hc,aI]at h;simp only[aA,aB]at h;obtain⟨rfl,rfl⟩:=h;simp only[aC,aD]at hc;obtain⟨⟨⟨⟨⟨gq,hl0⟩,hlh⟩,pq⟩,sg⟩,hhm⟩:=hc;have gq:=aE gq;subst gq;have lr:oG H id z=true:=by simp only[oG,hr.1,cQ,hm1];simp
      simp only[hz,el,eh,em,xI,Bool.and_false,Bool.false_and,aJ,lr,aI];rw[show(decide (0<=l.getD 0)&&decide (l.getD 0<=hh.getD (es.length:Int))&&decide (hh.getD (es.length:Int)<=(es.length:Int)))=true by simp;omega]
      simp only[aI];rw[show Nat.beq es.length 0=false by rw[cQ];exact bG (by omega)]
      simp only[Bool.false_and,aJ];rw[show(decide (hh.getD (es.length:Int)=m')&&decide (l.getD 0<m')&&hh.isSome)=true by simp[sg,hhm];omega]
      simp only[aI];have r0:R J H (.sl z es) (.slice (some ⟨id,off,none⟩) es.length c):= .sl z es id off c rcs mm hz1 hs hr hm1 hb hhr;exact⟨_,rfl,R.sub r0 (by omega) (by omega) _,λ_=> .exact _ _ _ _ rcs mm hr⟩
   .cases hc:decide (0<=l.getD 0)&&decide (l.getD 0<=hh.getD 0)&&decide (hh.getD 0<=0)with
    |false=>rw[hc,aJ]at h;cases h
    |true=>
     rw[hc,aI]at h;simp only[aA,aB]at h;obtain⟨rfl,rfl⟩:=h;simp only[aC,aD]at hc;have qj:mx'=none:=by
      cases mx' with
      |none=>rfl
      |some w=>cases w<;>simp[lX]at em
     subst qj;cases r with
     |nil=>
      simp only[hz,el,eh,em,xI,Bool.and_false,Bool.false_and,aJ];rw[show(decide (0<=l.getD 0)&&decide (l.getD 0<=hh.getD ((0:Nat):Int))&&decide (hh.getD ((0:Nat):Int)<=((0:Nat):Int)))=true by simp;omega]
      exact⟨_,rfl,.emp0,λh=>(by cases h)⟩
   .rename_i m';cases hc:decide (0<=l.getD 0)&&decide (l.getD 0<=hh.getD 0)&&decide (hh.getD 0<=0)&&hh.isSome&&decide (m'=0)with
    |false=>rw[hc,aJ]at h;cases h
    |true=>
     rw[hc,aI]at h;simp only[aA,aB]at h;obtain⟨rfl,rfl⟩:=h;simp only[aC,aD]at hc;obtain⟨⟨⟨⟨hl0,hlh⟩,hh0⟩,sg⟩,rfl⟩:=hc;have hb:(decide (0<=l.getD 0)&&decide (l.getD 0<=hh.getD ((0:Nat):Int))&&decide (hh.getD ((0:Nat):Int)<=((0:Nat):Int)))=true:=by simp;omega
     have hq:(Nat.beq 0 0&&xI (some 0)&&hh.isSome)=true:=by rw[sg];rfl
     cases r with
     |emp0=>simp only[hz,el,eh,em,hb,hq,aI];exact⟨_,rfl,.emp0,λ_=> .nil _⟩
     |emp1 id off c rcs m hr=>simp only[hz,el,eh,em,hb,hq,aI];exact⟨_,rfl,.emp2 0 0 1 0,λ_=> .zer _ 0 0⟩
     |emp2 b o s c=>simp only[hz,el,eh,em,hb,hq,aI];exact⟨_,rfl,.emp2 0 0 1 0,λ_=> .zer _ 0 0⟩
   .rename_i m';cases hc:decide (0<=l.getD 0)&&decide (l.getD 0<=hh.getD 0)&&decide (hh.getD 0<=0)&&hh.isSome&&decide (m'=0)with
    |false=>rw[hc,aJ]at h;cases h
    |true=>
     rw[hc,aI]at h;simp only[aA,aB]at h;obtain⟨rfl,rfl⟩:=h;simp only[aC,aD]at hc;obtain⟨⟨⟨⟨hl0,hlh⟩,hh0⟩,sg⟩,rfl⟩:=hc;have hb:(decide (0<=l.getD 0)&&decide (l.getD 0<=hh.getD ((0:Nat):Int))&&decide (hh.getD ((0:Nat):Int)<=((0:Nat):Int)))=true:=by simp;omega
     have hq:(Nat.beq 0 0&&xI (some 0)&&hh.isSome)=true:=by rw[sg];rfl
     cases r with
     |nil=>simp only[hz,el,eh,em,hb,hq,aI];exact⟨_,rfl,.emp0,λ_=> .nil _⟩
   .cases h
  .cases h
 .cases h
end
end Go.PI
