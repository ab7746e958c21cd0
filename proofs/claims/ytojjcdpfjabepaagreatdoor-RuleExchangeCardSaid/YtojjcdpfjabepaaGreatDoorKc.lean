import Derived.Test.YtojjcdpfjabepaaGreatDoorKa
import Derived.Test.YtojjcdpfjabepaaGreatDoorKb
set_option linter.unusedVariables false
set_option linter.unusedSimpArgs false
set_option linter.constructorNameAsVariable false
namespace Go.AI
theorem Tr.get_nil{α:Type}(n:Nat):(Tr.nil:Tr α).get n=none:=rfl
theorem cJ(a b:Nat):Nat.beq a b=decide (a=b):=by
 cases h:Nat.beq a b with
 |true=>simp[nqE h]
 |false=>simp[Nat.ne_of_beq_eq_false h]
theorem aFg(a b:Nat):Nat.ble a b=decide (a≤b):=by
 cases h:Nat.ble a b with
 |true=>simp[Nat.le_of_ble_eq_true h]
 |false=>symm;rw[dfN];intro hl;rw[Nat.ble_eq_true_of_le hl]at h;cases h
theorem fP(a b:Nat):Nat.blt a b=decide (a<b):=by
 simp[Nat.blt,aFg,Nat.succ_le_iff]
theorem Tr.get_node{α:Type}(v:Option α)(l r:Tr α)(n:Nat):(Tr.node v l r).get n=if n=0 then v else if n%2=1 then l.get (n/2)else r.get (n/2-1):=by
 simp only[Tr.get,cJ,Bool.cond_decide]
theorem Tr.get_setF{α:Type}: ∀(f:Nat) (t:Tr α) (n m:Nat) (x:α),n<f→(Tr.setF f t n x).get m=if m=n then some x else t.get m:=by
 intro f;induction f with
 |zero=>intro t n m x h;omega
 |succ f ih=>
  intro t n m x h;cases t with
  |nil=>
   simp only[Tr.setF,cJ,Bool.cond_decide];split
   ·rename_i hn;subst hn;simp only[Tr.get_node,Tr.get_nil];split<;>simp
   ·split
    ·simp only[Tr.get_node,Tr.get_nil];split
     ·rw[if_neg (by omega)]
     ·split
      ·rw[ih _ _ _ _ (by omega),Tr.get_nil]
       by_cases e:m=n
       ·subst e;simp
       ·rw[if_neg e,if_neg (by omega)]
      ·rw[if_neg (by omega)]
    ·simp only[Tr.get_node,Tr.get_nil];split
     ·rw[if_neg (by omega)]
     ·split
      ·rw[if_neg (by omega)]
      ·rw[ih _ _ _ _ (by omega),Tr.get_nil]
       by_cases e:m=n
       ·subst e;simp
       ·rw[if_neg e,if_neg (by omega)]
  |node v l r=>
   simp only[Tr.setF,cJ,Bool.cond_decide];split
   ·rename_i hn;subst hn;simp only[Tr.get_node];split<;>simp_all
   ·split
    ·simp only[Tr.get_node];split
     ·rw[if_neg (by omega)]
     ·split
      ·rw[ih _ _ _ _ (by omega)]
       by_cases e:m=n
       ·subst e;simp
       ·rw[if_neg e,if_neg (by omega)]
      ·rw[if_neg (by omega)]
    ·simp only[Tr.get_node];split
     ·rw[if_neg (by omega)]
     ·split
      ·rw[if_neg (by omega)]
      ·rw[ih _ _ _ _ (by omega)]
       by_cases e:m=n
       ·subst e;simp
       ·rw[if_neg e,if_neg (by omega)]
theorem Tr.get_set{α:Type}(t:Tr α)(n m:Nat)(x:α):(t.set n x).get m=if m=n then some x else t.get m:=
 Tr.get_setF _ _ _ _ _ (Nat.lt_succ_self n)
theorem dL{α:Type}{P:Program}{s:Sem α}{a:α}(h:aO P s=some a)(w:World):s.run P w= .ok a w:=by
 induction s with
 |pure b=>simp only[aO,ojE]at h;subst h;rfl
 |program k ih=>simp only[aO]at h;exact ih _ h
 |mark m k ih=>simp only[aO]at h;exact ih h
 |_=>simp[aO]at h
theorem aA{α β:Type}{P:Program}(s:Sem α)(k:α→Sem β):aO P (s>>=k)=(aO P s).bind fun a=>aO P (k a):=by
 induction s with
 |pure b=>rfl
 |program k ih=>exact ih _
 |mark m k ih=>exact ih
 |_=>rfl
theorem aC{α:Type}{P:Program}(a:α):aO P (pure a:Sem α)=some a:=rfl
structure Place where
 b:Nat
 o:Nat
 e:Nat
 z:Nat
abbrev Mp:=Nat→Option Place
inductive VR(μ:Mp):Value→Value→Prop where
 |same (v:Value) (h:aB v=true):VR μ v v
 |ptr (id off:Nat) (p:Place) (h:μ id=some p):VR μ (.pointer (some ⟨id,off,none⟩)) (.pointer (some ⟨p.b,p.o+off,none⟩))
 |slc (id off len c cap:Nat) (p:Place) (h:μ id=some p) (hc:c=len→cap=len) (hl:len≤cap) (he:p.o+off+cap*p.z≤p.e):
      VR μ (.slice (some ⟨id,off,none⟩) len c) (.slice (some ⟨p.b,p.o+off,none⟩) len cap)
 |emp (a:Addr) (s cap:Nat) (h:s=1→cap=0):VR μ (.slice (some ⟨0,0,some s⟩) 0 0) (.slice (some a) 0 cap)
 |mp (id:Nat) (p:Place) (h:μ id=some p):VR μ (.map (some id)) (.map (some p.b))
 |fn (f:Fn) (xs ys us vs:Array Value) (hl:xs.toList.length=us.toList.length) (h: ∀(i:Nat) (x u:Value),xs.toList[i]?=some x→us.toList[i]?=some u→VR μ x u)
      (hl':ys.toList.length=vs.toList.length) (h': ∀(i:Nat) (x u:Value),ys.toList[i]?=some x→vs.toList[i]?=some u→VR μ x u):VR μ (.func f xs ys) (.func f us vs)
 |iface (t:TypeId) (x u:Value) (h:VR μ x u):VR μ (.iface t x) (.iface t u)
 |agg (xs us:Array Value) (hl:xs.toList.length=us.toList.length) (h: ∀(i:Nat) (x u:Value),xs.toList[i]?=some x→us.toList[i]?=some u→VR μ x u):VR μ (.agg xs) (.agg us)
 |tuple (xs us:Array Value) (hl:xs.toList.length=us.toList.length) (h: ∀(i:Nat) (x u:Value),xs.toList[i]?=some x→us.toList[i]?=some u→VR μ x u):VR μ (.tuple xs) (.tuple us)
def VRL(μ:Mp)(xs us:List Value):Prop:=xs.length=us.length∧∀(i:Nat) (x u:Value),xs[i]?=some x→us[i]?=some u→VR μ x u
def Ext(n:Nat)(μ μ':Mp):Prop:=(∀id p,μ id=some p→μ' id=some p)∧∀id,id<n→μ' id=μ id
theorem Ext.refl(n:Nat)(μ:Mp):Ext n μ μ:=⟨fun _ _ h=>h,fun _ _=>rfl⟩
theorem Ext.trans{n n':Nat}{μ μ' μ'':Mp}(h:Ext n μ μ')(h':Ext n' μ' μ'')(hn:n≤n'):Ext n μ μ'':=
 ⟨fun id p e=>h'.1 id p (h.1 id p e),fun id hi=>(h'.2 id (by omega)).trans (h.2 id hi)⟩
theorem Ext.mono{n n':Nat}{μ μ':Mp}(h:Ext n μ μ')(hn:n'≤n):Ext n' μ μ':=⟨h.1,fun id hi=>h.2 id (by omega)⟩
theorem VR.mono'{μ μ':Mp}(h: ∀id p,μ id=some p→μ' id=some p){v u:Value}(r:VR μ v u):VR μ' v u:=by
 induction r with
 |same v hv=>exact .same v hv
 |ptr id off p hp=>exact .ptr id off p (h _ _ hp)
 |slc id off len c cap p hp hc hl he=>exact .slc id off len c cap p (h _ _ hp) hc hl he
 |emp a s cap h=>exact .emp a s cap h
 |mp id p hp=>exact .mp id p (h _ _ hp)
 |fn f xs ys us vs hl _ hl' _ ih ih'=>exact .fn f xs ys us vs hl ih hl' ih'
 |iface t x u _ ih=>exact .iface t x u ih
 |agg xs us hl _ ih=>exact .agg xs us hl ih
 |tuple xs us hl _ ih=>exact .tuple xs us hl ih
theorem VRL.mono'{μ μ':Mp}(h: ∀id p,μ id=some p→μ' id=some p){xs us:List Value}(r:VRL μ xs us):VRL μ' xs us:=
 ⟨r.1,fun i x u hx hu=>(r.2 i x u hx hu).mono' h⟩
theorem VR.mono{n:Nat}{μ μ':Mp}(h:Ext n μ μ'){v u:Value}(r:VR μ v u):VR μ' v u:=r.mono' h.1
theorem VRL.mono{n:Nat}{μ μ':Mp}(h:Ext n μ μ'){xs us:List Value}(r:VRL μ xs us):VRL μ' xs us:=r.mono' h.1
section
variable{μ:Mp}
theorem VR.eq0{v u:Value}(r:VR μ v u)(h:aB v=true):u=v:=by
 cases r<;>first|rfl|simp[aB]at h
theorem VRL.nil:VRL μ [] []:=⟨rfl,fun i x u h=>by simp at h⟩
theorem VRL.cons{x u:Value}{xs us:List Value}(h:VR μ x u)(r:VRL μ xs us):VRL μ (x::xs) (u::us):=by
 refine⟨by simp[r.1],fun i y v hy hv=>?_⟩
 cases i with
 |zero=>simp at hy hv;subst hy;subst hv;exact h
 |succ i=>simp at hy hv;exact r.2 i y v hy hv
theorem VRL.cons_inv{x:Value}{xs us:List Value}(r:VRL μ (x::xs) us): ∃u vs,us=u::vs∧VR μ x u∧VRL μ xs vs:=by
 cases us with
 |nil=>have:=r.1;simp at this
 |cons u vs=>exact⟨u,vs,rfl,r.2 0 x u (by simp) (by simp),by simpa using r.1,fun i y v hy hv=>r.2 (i+1) y v (by simpa using hy) (by simpa using hv)⟩
theorem VRL.nil_inv{us:List Value}(r:VRL μ [] us):us=[]:=by
 have:=r.1;simpa using this.symm
theorem VRL.get{xs us:List Value}(r:VRL μ xs us){i:Nat}{x:Value}(h:xs[i]?=some x): ∃u,us[i]?=some u∧VR μ x u:=by
 have hi:i<xs.length:=by
  rcases Nat.lt_or_ge i xs.length with h'|h'
  ·exact h'
  ·simp[List.getElem?_eq_none h']at h
 have:us[i]?=some (us[i]'(r.1▸hi)):=geG _;exact⟨_,this,r.2 i x _ h this⟩
theorem VRL.append{xs us ys vs:List Value}(r:VRL μ xs us)(s:VRL μ ys vs):VRL μ (xs++ys) (us++vs):=by
 induction xs generalizing us with
 |nil=>rw[r.nil_inv];exact s
 |cons x xs ih=>obtain⟨u,us',rfl,h,r'⟩:=r.cons_inv;exact .cons h (ih r')
theorem VRL.eq0{xs us:List Value}(r:VRL μ xs us)(h:xs.all aB=true):us=xs:=by
 induction xs generalizing us with
 |nil=>exact r.nil_inv
 |cons x xs ih=>
  obtain⟨u,us',rfl,hx,r'⟩:=r.cons_inv;simp only[alC,bjE]at h;rw[hx.eq0 h.1,ih r' h.2]
theorem VRL.same{xs:List Value}(h:xs.all aB=true):VRL μ xs xs:=by
 induction xs with
 |nil=>exact .nil
 |cons x xs ih=>
  simp only[alC,bjE]at h;exact .cons (.same x h.1) (ih h.2)
theorem VR.agg_inv{xs:Array Value}{u:Value}(r:VR μ (.agg xs) u): ∃us,u= .agg us∧VRL μ xs.toList us.toList:=by
 cases r with
 |same _ h=>simp[aB]at h
 |agg _ us hl h=>exact⟨us,rfl,hl,h⟩
theorem VR.tuple_inv{xs:Array Value}{u:Value}(r:VR μ (.tuple xs) u): ∃us,u= .tuple us∧VRL μ xs.toList us.toList:=by
 cases r with
 |same _ h=>simp[aB]at h
 |tuple _ us hl h=>exact⟨us,rfl,hl,h⟩
theorem VR.mkAgg{xs us:List Value}(r:VRL μ xs us):VR μ (.agg xs.toArray) (.agg us.toArray):= .agg _ _ (by simpa using r.1) (by simpa using r.2)
theorem VR.mkAgg'{xs us:Array Value}(r:VRL μ xs.toList us.toList):VR μ (.agg xs) (.agg us):= .agg _ _ r.1 r.2
theorem VR.mkTuple{xs us:List Value}(r:VRL μ xs us):VR μ (.tuple xs.toArray) (.tuple us.toArray):= .tuple _ _ (by simpa using r.1) (by simpa using r.2)
theorem VR.eq1{v u:Value}(r:VR μ v u)(h:aH v=true):u=v:=by
 cases v with
 |agg cs=>
  obtain⟨us,rfl,hl⟩:=r.agg_inv;have:=hl.eq0 (by simpa [aH]using h)
  rw[Array.toList_inj.1 this]
 |_=>exact r.eq0 (by simpa [aH]using h)
theorem VR.same1{v:Value}(h:aH v=true):VR μ v v:=by
 cases v with
 |agg cs=>exact .mkAgg' (.same (by simpa [aH]using h))
 |_=>exact .same _ (by simpa [aH]using h)
theorem VR.undef:VR μ Go.undef Go.undef:= .tuple _ _ rfl (fun i x u h=>by simp at h)
theorem VR.cells{v u:Value}(r:VR μ v u):VRL μ v.cells.toList u.cells.toList:=by
 cases r with
 |same v h=>
  have hc:v.cells= #[v]:=by cases v<;>first|rfl|simp[aB]at h
  rw[hc];exact .same (by simpa using h)
 |agg xs us hl h=>exact⟨hl,h⟩
 |ptr id off p h=>exact .cons (.ptr id off p h) .nil
 |slc id off len c cap p h hc hl he=>exact .cons (.slc id off len c cap p h hc hl he) .nil
 |emp a s cap h=>exact .cons (.emp a s cap h) .nil
 |mp id p h=>exact .cons (.mp id p h) .nil
 |fn f xs ys us vs hl h hl' h'=>exact .cons (.fn f xs ys us vs hl h hl' h') .nil
 |iface t x u h=>exact .cons (.iface t x u h) .nil
 |tuple xs us hl h=>exact .cons (.tuple xs us hl h) .nil
theorem VR.one_eq{v u:Value}(r:VR μ v u):one u=one v:=by
 cases r<;>rfl
theorem VRL.one_eq{xs us:List Value}(r:VRL μ xs us):us.all one=xs.all one:=by
 induction xs generalizing us with
 |nil=>rw[r.nil_inv]
 |cons x xs ih=>obtain⟨u,us',rfl,h,r'⟩:=r.cons_inv;simp[h.one_eq,ih r']
theorem VRL.drop{xs us:List Value}(r:VRL μ xs us)(n:Nat):VRL μ (xs.drop n) (us.drop n):=
 ⟨by simp[r.1],fun i x u hx hu=>r.2 (n+i) x u (by simpa using hx) (by simpa using hu)⟩
theorem VRL.take{xs us:List Value}(r:VRL μ xs us)(n:Nat):VRL μ (xs.take n) (us.take n):=by
 refine⟨by simp[r.1],fun i x u hx hu=>?_⟩
 rw[List.getElem?_take]at hx hu;split at hx
 ·rename_i hi;rw[if_pos hi]at hu;exact r.2 i x u hx hu
 ·cases hx
theorem VRL.set{xs us:List Value}(r:VRL μ xs us){x u:Value}(h:VR μ x u)(n:Nat):VRL μ (xs.set n x) (us.set n u):=by
 refine⟨by simp[r.1],fun i y v hy hv=>?_⟩
 rw[List.getElem?_set]at hy hv;split at hy
 ·rename_i e;rw[if_pos e]at hv;split at hy
  ·split at hv
   ·simp at hy hv;subst hy;subst hv;exact h
   ·cases hv
  ·cases hy
 ·rename_i e;rw[if_neg e]at hv;exact r.2 i y v hy hv
theorem VRL.toArray_cells{xs us:List Value}(r:VRL μ xs us):VRL μ xs.toArray.toList us.toArray.toList:=by simpa using r
end
def Off(p:Place)(lo hi:Nat)(q:Place)(lo' hi':Nat):Prop:=p.b=q.b→∀x,lo≤x→x<hi→lo'≤x→x<hi'→False
structure W0 extends World where
 O:Nat→Option Obj
def W0.of(w:World):W0:={toWorld:=w,O:=fun _=>none}
instance:Coe W0 World:=⟨W0.toWorld⟩
instance:Coe World W0:=⟨W0.of⟩
structure RowAt(w0:W0)(μ:Mp)(w:World)(p:Place)(cs:List Value)(m:Mta):Prop where
 row: ∃C t fr,w.heap[p.b]?=some (.cells C t fr)∧(∀(i:Nat) (v:Value),cs[i]?=some v→∃u,C[p.o+i]?=some u∧VR μ v u)∧(m.tip=true→p.e≤C.size)
 wr:m.wr=true→w0.heap.size≤p.b
 tip:m.tip=true→p.o+cs.length≤p.e
 z:p.z=m.z
 fz:m.wr=true→∀C t fr,w.heap[p.b]?=some (.cells C t fr)→fr=(0,0)
structure MapAt(w0:W0)(μ:Mp)(w:World)(p:Place)(es:List (Value×Value)):Prop where
 map: ∃ES clock,w.heap[p.b]?=some (.map ES clock)∧VRL μ (es.map (·.1)) (ES.toList.map (·.key))∧VRL μ (es.map (·.2)) (ES.toList.map (·.val))
 wr:w0.heap.size≤p.b
def eN(m n:Mta):Prop:= ∃g v v',m.grp=some (g,v)∧n.grp=some (g,v')
structure Kept(w0 w:World):Prop where
 os:w.os=w0.os
 output:w.output=w0.output
 size:w0.heap.size≤w.heap.size
 old: ∀k,k<w0.heap.size→w.heap[k]?=w0.heap[k]?
theorem Kept.frozen{w0 w:World}(h:Kept w0 w){a:Addr}(ha:a.block<w0.heap.size):w.frozen? a=w0.frozen? a:=by
 simp only[World.frozen?,h.old _ ha]
theorem Kept.keptBut{w0 w:World}(h:Kept w0 w):w0.keptBut w (fun _=>False):=by
 refine⟨h.os,h.output,fun i hi=>?_⟩
 rw[h.old i hi];cases w0.heap[i]? with
 |none=>trivial
 |some o=>cases o<;>first|exact⟨rfl,rfl,rfl,fun _ _=>rfl⟩|exact .inr ⟨rfl,rfl⟩|rfl
theorem Kept.refl(w:World):Kept w w:=⟨rfl,rfl,nlR _,fun _ _=>rfl⟩
structure KeptO(w0:W0)(μ:Mp)(w:World):Prop extends Kept w0.toWorld w where
 oth: ∀k o,w0.O k=some o→w.heap[k]?=some o∧∀id p,μ id=some p→p.b≠k
 bnd: ∀id p,μ id=some p→p.b<w.heap.size
theorem KeptO.refl{μ:Mp}{w:World}(h: ∀id p,μ id=some p→p.b<w.heap.size):KeptO (W0.of w) μ w:=⟨Kept.refl w,(fun k o h=>(by cases h)),h⟩
structure Sim(w0:W0)(P:Program)(μ:Mp)(σ:St)(w:World):Prop where
 kept:KeptO w0 μ w
 dom: ∀id,σ.next≤id→μ id=none
 glob: ∀g,g<P.globals.size→∃p,μ g=some p∧p.b=g∧p.o=0
 row: ∀id p cs m,μ id=some p→σ.get id=some (.cells cs m)→σ.good m=true→RowAt w0 μ w p cs m
 map: ∀id p es,μ id=some p→σ.get id=some (.map es)→MapAt w0 μ w p es
 off: ∀i j p q cs ds m n,i≠j→μ i=some p→μ j=some q→σ.get i=some (.cells cs m)→σ.get j=some (.cells ds n)→σ.good m=true→σ.good n=true→
  m.wr=true→¬eN m n→Off p p.o (p.o+cs.length) q q.o (q.o+ds.length)
 tip: ∀i j p q cs ds m n,i≠j→μ i=some p→μ j=some q→σ.get i=some (.cells cs m)→σ.get j=some (.cells ds n)→σ.good m=true→σ.good n=true→
  m.tip=true→Off p (p.o+cs.length) p.e q q.o (q.o+ds.length)∧(n.tip=true→Off p (p.o+cs.length) p.e q (q.o+ds.length) q.e)
 maps: ∀i j p q es fs,i≠j→μ i=some p→μ j=some q→σ.get i=some (.map es)→σ.get j=some (.map fs)→p.b≠q.b
 vers: ∀id cs m g v,σ.get id=some (.cells cs m)→m.grp=some (g,v)→v≤σ.ver g
 lim: ∀i j p q cs ds m n,i≠j→μ i=some p→μ j=some q→σ.get i=some (.cells cs m)→σ.get j=some (.cells ds n)→σ.good m=true→σ.good n=true→
  m.tip=true→Off p (p.o+m.lim) (p.o+cs.length) q q.o (q.o+ds.length)
theorem Off.symm{p q:Place}{a b c d:Nat}(h:Off p a b q c d):Off q c d p a b:=fun e x h1 h2 h3 h4=>h e.symm x h3 h4 h1 h2
theorem St.get_put(σ:St)(id k:Nat)(o:AObj):(σ.put id o).get k=if k=id then some o else σ.get k:=Tr.get_set _ _ _ _
theorem St.get_bump(σ:St)(g v k:Nat):(σ.bump g v).get k=σ.get k:=rfl
theorem St.ver_bump(σ:St)(g v k:Nat):(σ.bump g v).ver k=if k=g then v else σ.ver k:=by
 simp only[St.ver,St.bump,Tr.get_set];split<;>rfl
theorem St.good_iff(σ:St)(m:Mta):σ.good m=true↔∀g v,m.grp=some (g,v)→σ.ver g=v:=by
 unfold St.good;cases hm:m.grp with
 |none=>simp
 |some x=>obtain⟨g,v⟩:=x;simp[cJ]
theorem St.row_some{σ:St}{id:Nat}{cs:List Value}{m:Mta}(h:σ.row id=some (cs,m)):σ.get id=some (.cells cs m)∧σ.good m=true:=by
 unfold St.row at h;split at h
 ·rename_i cs' m' hg;cases hb:σ.good m' with
  |true=>simp only[hb,cdt,ojE,pjE]at h;obtain⟨rfl,rfl⟩:=h;exact⟨hg,hb⟩
  |false=>simp[hb]at h
 ·cases h
end Go.AI
namespace Go.PI
open Go.AI
abbrev Nu:=Nat→Option (Option Nat)
inductive K where
 |slot (t:Nat)
 |cell (id off:Nat)
 |out
 |hand
 |arg (i:Nat)
 deriving DecidableEq
abbrev Ga:=Nat→Option K
def eG(es:List PV):List PV:=es.flatMap PV.cells
def Fz(ν:Nu)(σ:St)(id:Nat)(cs:List Value)(m:Mta):Prop:=σ.row id=some (cs,m)∧∀k,ν k≠some (some id)
inductive R(ν:Nu)(σ:St):PV→Value→Prop where
 |und (u:Value):R ν σ .und u
 |v (x:Value) (h:aB x=true):R ν σ (.v x) x
 |str (s:ByteArray):R ν σ (.str s.data.toList) (.string s)
 |agg (xs:List PV) (us:Array Value) (hl:xs.length=us.toList.length) (h: ∀(i:Nat) (x:PV) (u:Value),xs[i]?=some x→us.toList[i]?=some u→R ν σ x u):R ν σ (.agg xs) (.agg us)
 |tup (xs:List PV) (us:Array Value) (hl:xs.length=us.toList.length) (h: ∀(i:Nat) (x:PV) (u:Value),xs[i]?=some x→us.toList[i]?=some u→R ν σ x u):R ν σ (.tup xs) (.tuple us)
 |nil:R ν σ .nil (.slice none 0 0)
 |emp0:R ν σ .emp (.slice none 0 0)
 |emp1 (id off c:Nat) (rcs:List Value) (m:Mta) (hr:Fz ν σ id rcs m):R ν σ .emp (.slice (some ⟨id,off,none⟩) 0 c)
 |emp2 (b o s c:Nat):R ν σ .emp (.slice (some ⟨b,o,some s⟩) 0 c)
 |sl (z:Nat) (es:List PV) (id off c:Nat) (rcs:List Value) (m:Mta) (hz:1≤z) (hs: ∀e∈es,e.cells.length=z∧e.cells.all PV.pur=true) (hr:Fz ν σ id rcs m) (hm:m.z=z)
      (hb:off+es.length*z≤rcs.length) (h: ∀(i:Nat) (x:PV) (u:Value),(eG es)[i]?=some x→rcs[off+i]?=some u→R ν σ x u):
      R ν σ (.sl z es) (.slice (some ⟨id,off,none⟩) es.length c)
 |pin (z:Nat) (es:List PV) (i off id base:Nat) (rcs:List Value) (m:Mta) (hs: ∀e∈es,e.cells.length=z∧e.cells.all PV.pur=true) (hr:Fz ν σ id rcs m)
      (hb:base+es.length*z≤rcs.length) (h: ∀(i:Nat) (x:PV) (u:Value),(eG es)[i]?=some x→rcs[base+i]?=some u→R ν σ x u):
      R ν σ (.pin es i off) (.pointer (some ⟨id,base+i*z+off,none⟩))
 |ptr (id off a:Nat) (h:ν id=some (some a)):R ν σ (.ptr id off) (.pointer (some ⟨a,off,none⟩))
 |ptr0 (id off a:Nat) (h:ν id=some none):R ν σ (.ptr id off) (.pointer (some ⟨a,off,none⟩))
 |rs (id off len c a:Nat) (h:ν id=some (some a)):R ν σ (.rs id off len) (.slice (some ⟨a,off,none⟩) len c)
 |rs0 (id off len c a:Nat) (h:ν id=some none):R ν σ (.rs id off len) (.slice (some ⟨a,off,none⟩) len c)
 |fn (f:Nat) (xs ys:List PV) (us vs:Array Value) (hl:xs.length=us.toList.length) (h: ∀(i:Nat) (x:PV) (u:Value),xs[i]?=some x→us.toList[i]?=some u→R ν σ x u)
      (hl':ys.length=vs.toList.length) (h': ∀(i:Nat) (x:PV) (u:Value),ys[i]?=some x→vs.toList[i]?=some u→R ν σ x u):R ν σ (.fn f xs ys) (.func (.func f) us vs)
def RL(ν:Nu)(σ:St)(xs:List PV)(us:List Value):Prop:=xs.length=us.length∧∀(i:Nat) (x:PV) (u:Value),xs[i]?=some x→us[i]?=some u→R ν σ x u
inductive Ow(ν:Nu)(γ:Ga)(σ:St)(k:K):PV→Value→Prop where
 |nil (x:PV):Ow ν γ σ k x (.slice none 0 0)
 |exact(x:PV) (id off len:Nat) (rcs:List Value) (m:Mta) (hr:Fz ν σ id rcs m):Ow ν γ σ k x (.slice (some ⟨id,off,none⟩) len len)
 |zer (x:PV) (b o:Nat):Ow ν γ σ k x (.slice (some ⟨b,o,some 1⟩) 0 0)
 |tip (z:Nat) (es:List PV) (id off c:Nat) (rcs:List Value) (m:Mta) (hr:Fz ν σ id rcs m) (ht:m.tip=true) (hw:m.wr=true) (hg:m.grp.isSome=true)
      (hb:off+es.length*m.z=rcs.length) (hk:γ id=some k):Ow ν γ σ k (.sl z es) (.slice (some ⟨id,off,none⟩) es.length c)
 |tup (x:PV) (xs:List PV) (u:Value) (us:List Value) (hx:x.one=true) (h:Ow ν γ σ k x u):Ow ν γ σ k (.tup (x::xs)) (.tuple ⟨u::us⟩)
structure Keep(ν:Nu)(γ:Ga)(σ σ':St):Prop where
 vers:σ'.vers=σ.vers
 next:σ.next≤σ'.next
 dom: ∀a,σ'.get a=none→σ.get a=none
 row: ∀a,(∀k,ν k≠some (some a))→∀cs m,σ.get a=some (.cells cs m)→∃b,σ'.get a=some (.cells cs {m with tip:=b})∧(m.tip=false→b=false)∧(γ a=some .out→b=m.tip)
def Mon(σ:St)(ν ν':Nu):Prop:=(∀id x,ν id=some x→ν' id=some x∨ν' id=some none)∧(∀id a,ν' id=some (some a)→ν id=some (some a)∨σ.get a=none)
theorem Mon.refl(σ:St)(ν:Nu):Mon σ ν ν:=⟨fun _ _ h=> .inl h,fun _ _ h=> .inl h⟩
theorem Mon.trans{σ σ':St}{ν ν' ν'':Nu}(h:Mon σ ν ν')(h':Mon σ' ν' ν'')(hd: ∀a,σ'.get a=none→σ.get a=none):Mon σ ν ν'':=by
 refine⟨fun id x e=>?_,fun id a e=>?_⟩
 ·rcases h.1 id x e with h1|h1
  ·exact h'.1 id x h1
  ·rcases h'.1 id none h1 with h2|h2<;>exact .inr h2
 ·rcases h'.2 id a e with h1|h1
  ·rcases h.2 id a h1 with h2|h2
   ·exact .inl h2
   ·exact .inr h2
  ·exact .inr (hd a h1)
theorem gM{σ σ':St}(h:σ'.vers=σ.vers)(m:Mta):σ'.good m=σ.good m:=by
 simp only[St.good,St.ver,h]
theorem row_of_get{σ:St}{id:Nat}{cs:List Value}{m:Mta}(h:σ.get id=some (.cells cs m))(hg:σ.good m=true):σ.row id=some (cs,m):=by
 simp only[St.row,h,hg,cdt]
theorem bO{σ:St}{id:Nat}{cs:List Value}{m:Mta}(h:σ.row id=some (cs,m)):σ.get id=some (.cells cs m)∧σ.good m=true:=by
 unfold St.row at h;split at h
 ·rename_i cs' m' e;cases hg:σ.good m' with
  |true=>rw[hg,cdt]at h;simp only[ojE,pjE]at h;obtain⟨rfl,rfl⟩:=h;exact⟨e,hg⟩
  |false=>rw[hg,cdf]at h;cases h
 ·cases h
theorem Keep.refl(ν:Nu)(γ:Ga)(σ:St):Keep ν γ σ σ:=⟨rfl,nlR _,fun _ h=>h,fun a _ cs m h=>⟨m.tip,by rw[h],id,fun _=>rfl⟩⟩
theorem Fz.keep{ν ν':Nu}{γ:Ga}{σ σ':St}{id:Nat}{cs:List Value}{m:Mta}(h:Fz ν σ id cs m)(k:Keep ν γ σ σ')(hm:Mon σ ν ν'):
    ∃b,Fz ν' σ' id cs {m with tip:=b}:=by
 obtain⟨hr,hn⟩:=h;obtain⟨hg,hgood⟩:=bO hr;obtain⟨b,hb,_⟩:=k.row id hn cs m hg;refine⟨b,row_of_get hb ?_,fun j hj=>?_⟩
 ·rw[gM k.vers];exact hgood
 ·rcases hm.2 j id hj with h1|h1
  ·exact hn j h1
  ·rw[h1]at hg;cases hg
theorem R.keep{ν ν':Nu}{γ:Ga}{σ σ':St}(k:Keep ν γ σ σ')(hm:Mon σ ν ν'){x:PV}{u:Value}(r:R ν σ x u):R ν' σ' x u:=by
 induction r with
 |und u=>exact .und u
 |v x h=>exact .v x h
 |str s=>exact .str s
 |agg xs us hl _ ih=>exact .agg xs us hl ih
 |tup xs us hl _ ih=>exact .tup xs us hl ih
 |nil=>exact .nil
 |emp0=>exact .emp0
 |emp1 id off c rcs m hr=>obtain⟨b,hf⟩:=hr.keep k hm;exact .emp1 id off c rcs _ hf
 |emp2 b o s c=>exact .emp2 b o s c
 |sl z es id off c rcs m hz hs hr hmz hb _ ih=>
  obtain⟨b,hf⟩:=hr.keep k hm;exact .sl z es id off c rcs _ hz hs hf hmz hb ih
 |pin z es i off id base rcs m hs hr hb _ ih=>
  obtain⟨b,hf⟩:=hr.keep k hm;exact .pin z es i off id base rcs _ hs hf hb ih
 |ptr id off a h=>
  rcases hm.1 id _ h with h1|h1
  ·exact .ptr id off a h1
  ·exact .ptr0 id off a h1
 |ptr0 id off a h=>
  rcases hm.1 id _ h with h2|h2<;>exact .ptr0 id off a h2
 |rs id off len c a h=>
  rcases hm.1 id _ h with h1|h1
  ·exact .rs id off len c a h1
  ·exact .rs0 id off len c a h1
 |rs0 id off len c a h=>
  rcases hm.1 id _ h with h2|h2<;>exact .rs0 id off len c a h2
 |fn f xs ys us vs hl _ hl' _ ih ih'=>exact .fn f xs ys us vs hl ih hl' ih'
theorem Ow.keep{ν ν':Nu}{γ γ1 γ':Ga}{σ σ':St}{k k':K}{x:PV}{u:Value}(o:Ow ν γ σ k x u)(kp:Keep ν γ1 σ σ')(hm:Mon σ ν ν')
    (h: ∀i,γ i=some k→σ.get i≠none→γ1 i=some .out∧γ' i=some k'):Ow ν' γ' σ' k' x u:=by
 induction o with
 |nil x=>exact .nil x
 |exact x id off len rcs m hr=>obtain⟨b,hf⟩:=hr.keep kp hm;exact .exact x id off len rcs _ hf
 |zer x b o=>exact .zer x b o
 |tup x xs u us hx _ ih=>exact .tup x xs u us hx ih
 |tip z es id off c rcs m hr ht hw hg hb hk=>
  obtain⟨hr0,hn⟩:=hr;obtain⟨hget,hgood⟩:=bO hr0;obtain⟨h1,h2⟩:=h id hk (by rw[hget];simp)
  obtain⟨b,hb',_,hb2⟩:=kp.row id hn rcs m hget;have hbt:=hb2 h1;subst hbt;refine .tip z es id off c rcs m ⟨row_of_get hb' (by rw[gM kp.vers];exact hgood),fun j hj=>?_⟩ ht hw hg hb h2
  rcases hm.2 j id hj with h3|h3
  ·exact hn j h3
  ·rw[h3]at hget;cases hget
def mv(k k':K)(γ:Ga):Ga:=fun i=>if γ i=some k then some k' else γ i
theorem Ow.mv{ν:Nu}{γ:Ga}{σ:St}{k k':K}{x:PV}{u:Value}(o:Ow ν γ σ k x u):Ow ν (mv k k' γ) σ k' x u:=by
 induction o with
 |nil x=>exact .nil x
 |exact x id off len rcs m hr=>exact .exact x id off len rcs m hr
 |zer x b o=>exact .zer x b o
 |tup x xs u us hx _ ih=>exact .tup x xs u us hx ih
 |tip z es id off c rcs m hr ht hw hg hb hk=>exact .tip z es id off c rcs m hr ht hw hg hb (by simp[PI.mv,hk])
theorem Ow.mv_ne{ν:Nu}{γ:Ga}{σ:St}{k k' j:K}{x:PV}{u:Value}(o:Ow ν γ σ j x u)(h:j≠k):Ow ν (PI.mv k k' γ) σ j x u:=by
 induction o with
 |nil x=>exact .nil x
 |exact x id off len rcs m hr=>exact .exact x id off len rcs m hr
 |zer x b o=>exact .zer x b o
 |tup x xs u us hx _ ih=>exact .tup x xs u us hx ih
 |tip z es id off c rcs m hr ht hw hg hb hk=>exact .tip z es id off c rcs m hr ht hw hg hb (by simp[PI.mv,hk,h])
theorem Ow.weak{ν:Nu}{γ γ':Ga}{σ:St}{k k':K}{x:PV}{u:Value}(o:Ow ν γ σ k x u)(h: ∀i,γ i=some k→γ' i=some k'):Ow ν γ' σ k' x u:=by
 induction o with
 |nil x=>exact .nil x
 |exact x id off len rcs m hr=>exact .exact x id off len rcs m hr
 |zer x b o=>exact .zer x b o
 |tup x xs u us hx _ ih=>exact .tup x xs u us hx ih
 |tip z es id off c rcs m hr ht hw hg hb hk=>exact .tip z es id off c rcs m hr ht hw hg hb (h id hk)
theorem Ow.slice{ν:Nu}{γ:Ga}{σ:St}{k:K}{x:PV}{u:Value}(o:Ow ν γ σ k x u)(h:x.cells.all PV.one=true):cV u=true:=by
 cases o with
 |tup x xs u us _ _=>simp[PV.cells,PV.one]at h
 |_=>rfl
def ObjR(ν:Nu)(γ:Ga)(σ:St)(id:Nat):lP→Prop
 | .box cs=> ∃a us,ν id=some (some a)∧σ.get a=some (.cells us boxMeta)∧us.length=cs.length∧
      ∀(i:Nat) (x:PV) (b:Bool) (u:Value),cs[i]?=some (x,b)→us[i]?=some u→R ν σ x u∧x.one=true∧(b=true→Ow ν γ σ (.cell id i) x u)
 | .row z _ cs=> ∃a us,ν id=some (some a)∧σ.get a=some (.cells us (bD z))∧us.length=cs.length∧cs.all PV.one=true∧
      ∀(i:Nat) (x:PV) (u:Value),cs[i]?=some x→us[i]?=some u→R ν σ x u
 | .map _=>False
 | .gone=>ν id=some none
structure Mem(ν:Nu)(γ:Ga)(p:PSt)(σ:St):Prop where
 le: ∀id x,ν id=some x→id<p.next
 lt: ∀id a,ν id=some (some a)→a<σ.next
 inj: ∀i j a,ν i=some (some a)→ν j=some (some a)→i=j
 live: ∀id a,ν id=some (some a)→∃o,p.get id=some o
 get: ∀id o,p.get id=some o→ObjR ν γ σ id o
 free: ∀a,σ.next≤a→σ.get a=none
 ver: ∀g,σ.ver g=0
def FR(ν:Nu)(γ:Ga)(σ:St)(S:PS)(A:Slots):Prop:=
 ∀t,R ν σ (S.at t).1 (A.at t)∧((S.at t).2=true→Ow ν γ σ (.slot t) (S.at t).1 (A.at t))
section
variable{ν:Nu}{σ:St}
theorem RL.nil:RL ν σ [] []:=⟨rfl,fun i x u h=>by simp at h⟩
theorem RL.cons{x:PV}{u:Value}{xs:List PV}{us:List Value}(h:R ν σ x u)(r:RL ν σ xs us):RL ν σ (x::xs) (u::us):=by
 refine⟨by simp[r.1],fun i y v hy hv=>?_⟩
 cases i with
 |zero=>simp at hy hv;subst hy;subst hv;exact h
 |succ i=>simp at hy hv;exact r.2 i y v hy hv
theorem RL.cons_inv{x:PV}{xs:List PV}{us:List Value}(r:RL ν σ (x::xs) us): ∃u vs,us=u::vs∧R ν σ x u∧RL ν σ xs vs:=by
 cases us with
 |nil=>have:=r.1;simp at this
 |cons u vs=>exact⟨u,vs,rfl,r.2 0 x u (by simp) (by simp),by simpa using r.1,fun i y v hy hv=>r.2 (i+1) y v (by simpa using hy) (by simpa using hv)⟩
theorem RL.nil_inv{us:List Value}(r:RL ν σ [] us):us=[]:=by have:=r.1;simpa using this.symm
theorem RL.append{xs ys:List PV}{us vs:List Value}(r:RL ν σ xs us)(s:RL ν σ ys vs):RL ν σ (xs++ys) (us++vs):=by
 induction xs generalizing us with
 |nil=>rw[r.nil_inv];exact s
 |cons x xs ih=>obtain⟨u,us',rfl,h,r'⟩:=r.cons_inv;exact .cons h (ih r')
theorem RL.drop{xs:List PV}{us:List Value}(r:RL ν σ xs us)(n:Nat):RL ν σ (xs.drop n) (us.drop n):=
 ⟨by simp[r.1],fun i x u hx hu=>r.2 (n+i) x u (by simpa using hx) (by simpa using hu)⟩
theorem RL.take{xs:List PV}{us:List Value}(r:RL ν σ xs us)(n:Nat):RL ν σ (xs.take n) (us.take n):=by
 refine⟨by simp[r.1],fun i x u hx hu=>?_⟩
 rw[List.getElem?_take]at hx hu;split at hx
 ·rename_i hi;rw[if_pos hi]at hu;exact r.2 i x u hx hu
 ·cases hx
theorem RL.get{xs:List PV}{us:List Value}(r:RL ν σ xs us){i:Nat}{x:PV}(h:xs[i]?=some x): ∃u,us[i]?=some u∧R ν σ x u:=by
 have hi:i<xs.length:=by
  rcases Nat.lt_or_ge i xs.length with h'|h'
  ·exact h'
  ·simp[List.getElem?_eq_none h']at h
 have:us[i]?=some (us[i]'(r.1▸hi)):=geG _;exact⟨_,this,r.2 i x _ h this⟩
theorem RL.set{xs:List PV}{us:List Value}(r:RL ν σ xs us){x:PV}{u:Value}(h:R ν σ x u)(n:Nat):RL ν σ (xs.set n x) (us.set n u):=by
 refine⟨by simp[r.1],fun i y v hy hv=>?_⟩
 rw[List.getElem?_set]at hy hv;split at hy
 ·rename_i e;rw[if_pos e]at hv;split at hy
  ·split at hv
   ·simp at hy hv;subst hy;subst hv;exact h
   ·cases hv
  ·cases hy
 ·rename_i e;rw[if_neg e]at hv;exact r.2 i y v hy hv
theorem RL.keep{ν':Nu}{γ:Ga}{σ':St}(k:Keep ν γ σ σ')(hm:Mon σ ν ν'){xs:List PV}{us:List Value}(r:RL ν σ xs us):RL ν' σ' xs us:=
 ⟨r.1,fun i x u hx hu=>(r.2 i x u hx hu).keep k hm⟩
theorem R.agg_inv{xs:List PV}{u:Value}(r:R ν σ (.agg xs) u): ∃us,u= .agg us∧RL ν σ xs us.toList:=by
 cases r with
 |agg _ us hl h=>exact⟨us,rfl,hl,h⟩
theorem R.tup_inv{xs:List PV}{u:Value}(r:R ν σ (.tup xs) u): ∃us,u= .tuple us∧RL ν σ xs us.toList:=by
 cases r with
 |tup _ us hl h=>exact⟨us,rfl,hl,h⟩
theorem R.mkAgg{xs:List PV}{us:List Value}(r:RL ν σ xs us):R ν σ (.agg xs) (.agg us.toArray):= .agg _ _ (by simpa using r.1) (by simpa using r.2)
theorem R.mkAgg'{xs:List PV}{us:Array Value}(r:RL ν σ xs us.toList):R ν σ (.agg xs) (.agg us):= .agg _ _ r.1 r.2
theorem R.mkTup{xs:List PV}{us:List Value}(r:RL ν σ xs us):R ν σ (.tup xs) (.tuple us.toArray):= .tup _ _ (by simpa using r.1) (by simpa using r.2)
theorem R.one{x:PV}{u:Value}(r:R ν σ x u)(h:x.one=true):one u=true:=by
 cases r<;>first|rfl|assumption|(simp[PV.one]at h)|skip
 rename_i hp;cases u<;>first|rfl|simp[aB]at hp
theorem RL.one{xs:List PV}{us:List Value}(r:RL ν σ xs us)(h:xs.all PV.one=true):us.all AI.one=true:=by
 induction xs generalizing us with
 |nil=>rw[r.nil_inv];rfl
 |cons x xs ih=>
  obtain⟨u,us',rfl,hx,r'⟩:=r.cons_inv;simp only[alC,bjE]at h⊢;exact⟨hx.one h.1,ih r' h.2⟩
theorem rP{x:PV}(h:x.one=true):x.cells=[x]:=by cases x<;>first|rfl|simp[PV.one]at h
theorem aEZ{u:Value}(h:AI.one u=true):u.cells= #[u]:=by cases u<;>first|rfl|simp[AI.one]at h
theorem R.cells{x:PV}{u:Value}(r:R ν σ x u)(h:x.cells.all PV.one=true):RL ν σ x.cells u.cells.toList:=by
 cases x with
 |agg cs=>obtain⟨us,rfl,hl⟩:=r.agg_inv;exact hl
 |_=>
  first
  |(rw[aEZ (r.one (by simpa [PV.cells]using h))];exact .cons r .nil)
mutual
theorem R.wk: ∀{x:PV} {u:Value},R ν σ x u→R ν σ (wk x) u
 | .agg cs,u,r=>by
  obtain⟨us,rfl,hl⟩:=r.agg_inv;exact .mkAgg' (RL.wks hl)
 | .tup cs,u,r=>by
  obtain⟨us,rfl,hl⟩:=r.tup_inv;exact .tup _ _ (RL.wks hl).1 (RL.wks hl).2
 | .nil,u,r=>by cases r;exact .emp0
 | .sl z [],u,r=>by
  cases r with
  |sl _ _ id off c rcs m hz hs hr hm hb hh=>exact .emp1 _ _ _ _ _ hr
 | .sl z (e::es),u,r=>r
 | .v _,u,r=>r
 | .str _,u,r=>r
 | .emp,u,r=>r
 | .pin ..,u,r=>r
 | .ptr ..,u,r=>r
 | .rs ..,u,r=>r
 | .mp _,u,r=>r
 | .fn ..,u,r=>r
 | .und,u,r=>r
theorem RL.wks: ∀{xs:List PV} {us:List Value},RL ν σ xs us→RL ν σ (wks xs) us
 |[],us,r=>r
 |x::xs,us,r=>by
  obtain⟨u,us',rfl,hx,r'⟩:=r.cons_inv;exact .cons (R.wk hx) (RL.wks r')
end
end
end Go.PI
namespace Go.PI
open Go.AI
section
variable{P:Program}{ν:Nu}{γ:Ga}{σ:St}{S:PS}{A:Slots}
theorem R.ofV0{x:Value}(h:aB x=true):R ν σ (ofV x) x:=by
 cases x with
 |string s=>exact .str s
 |slice a l c=>
  cases a with
  |none=>simp only[aB,bjE]at h;have h1:=nqE h.1;have h2:=nqE h.2;subst h1;subst h2;exact .nil
  |some a=>simp[aB]at h
 |agg cs=>simp[aB]at h
 |tuple cs=>simp[aB]at h
 |_=>exact .v _ h
theorem RL.ofVs{xs:List Value}(h:xs.all aB=true):RL ν σ (ofVs xs) xs:=by
 induction xs with
 |nil=>exact .nil
 |cons x xs ih=>
  simp only[alC,bjE]at h;exact .cons (.ofV0 h.1) (ih h.2)
theorem R.ofV1{x:Value}(h:aH x=true):R ν σ (ofV x) x:=by
 cases x with
 |agg cs=>exact .mkAgg' (.ofVs h)
 |_=>exact .ofV0 h
theorem aDv{xs:List Value}(h:xs.all aB=true):(ofVs xs).all PV.one=true:=by
 induction xs with
 |nil=>rfl
 |cons x xs ih=>
  simp only[alC,bjE]at h;simp only[PI.ofVs,alC,bjE];refine⟨?_,ih h.2⟩;have h1:=h.1;cases x with
  |slice a l c=>cases a<;>first|rfl|simp[aB]at h1
  |_=>first|rfl|simp[aB]at h1
theorem lD(xs:List Value):(ofVs xs).length=xs.length:=by
 induction xs with
 |nil=>rfl
 |cons x xs ih=>simp[PI.ofVs,ih]
theorem jG{x:PV}{w u:Value}(h:sO x=some w)(r:R ν σ x u):u=w∧aB w=true:=by
 cases r<;>simp only[sO]at h<;>try cases h
 ·rename_i hp;rw[hp]at h;simp only[cdt,ojE]at h;subst h;exact⟨rfl,hp⟩
 ·exact⟨rfl,rfl⟩
theorem toVs_ok{xs:List PV}{ws us:List Value}(h:toVs xs=some ws)(r:RL ν σ xs us):us=ws∧ws.all aB=true:=by
 induction xs generalizing ws us with
 |nil=>simp only[toVs,ojE]at h;subst h;exact⟨r.nil_inv,rfl⟩
 |cons x xs ih=>
  obtain⟨u,us',rfl,hx,r'⟩:=r.cons_inv;simp only[toVs]at h;split at h
  ·rename_i a l h1 h2;simp only[ojE]at h;subst h;obtain⟨rfl,hp⟩:=jG h1 hx;obtain⟨rfl,hq⟩:=ih h2 r';exact⟨rfl,by simp[hp,hq]⟩
  ·cases h
theorem toVl_ok{xs:List PV}{ws us:List Value}(h:toVl xs=some ws)(r:RL ν σ xs us):us=ws∧ws.all aB=true:=by
 induction xs generalizing ws us with
 |nil=>simp only[toVl,ojE]at h;subst h;exact⟨r.nil_inv,rfl⟩
 |cons x xs ih=>
  obtain⟨u,us',rfl,hx,r'⟩:=r.cons_inv;simp only[toVl]at h;split at h
  ·rename_i a l h1 h2;simp only[ojE]at h;subst h;obtain⟨rfl,hp⟩:=jG h1 hx;obtain⟨rfl,hq⟩:=ih h2 r';exact⟨rfl,by simp[hp,hq]⟩
  ·cases h
theorem aCK{x:PV}{w u:Value}(h:toV x=some w)(r:R ν σ x u):u=w∧aH w=true:=by
 cases x with
 |agg cs=>
  obtain⟨us,rfl,hl⟩:=r.agg_inv;simp only[toV,mjE]at h;obtain⟨l,h1,rfl⟩:=h;obtain⟨h2,h3⟩:=toVs_ok h1 hl;refine⟨by rw[←h2],by simpa [aH]using h3⟩
 |_=>
  simp only[toV]at h;obtain⟨h1,h2⟩:=jG h r;refine⟨h1,?_⟩;cases w with
  |agg cs=>simp[aB]at h2
  |_=>exact h2
theorem dR{s:Sem Value}{w:Value}(h:aL P s=some w):aH w=true:=by
 unfold aL at h;split at h
 ·rename_i v e;cases hp:aH v with
  |true=>rw[hp,cdt]at h;simp only[ojE]at h;subst h;exact hp
  |false=>rw[hp,cdf]at h;cases h
 ·cases h
theorem aT(F:FR ν γ σ S A){x:Operand}(hx:aI P x=true):R ν σ (pev S x) (ev A x):=by
 cases x with
 |tmp t=>exact(F t).1
 |const v=>exact .ofV1 hx
 |global g=>exact .und _
 |func f=>exact .fn f [] [] #[] #[] rfl (fun i x u h=>by simp at h) rfl (fun i x u h=>by simp at h)
theorem qJ(F:FR ν γ σ S A){xs:List Operand}(hx:xs.all (aI P)=true):RL ν σ (xs.map (pev S)) (xs.map (ev A)):=by
 induction xs with
 |nil=>exact .nil
 |cons x xs ih=>
  simp only[alC,bjE]at hx;exact .cons (aT F hx.1) (ih hx.2)
theorem aDl{t:TypeId}{cs:List PV}{us:Array Value}{off:Nat}{v:PV}(r:RL ν σ cs us.toList)(h:nC P t cs off=some v): ∃u,wN P t us off=some u∧R ν σ v u:=by
 unfold nC at h;unfold wN;split at h
 ·rename_i e;rw[e];split at h
  ·rename_i n en;simp only[en];cases hb:Nat.beq ((cs.drop off).take n).length n with
   |false=>rw[hb,cdf]at h;cases h
   |true=>
    rw[hb,cdt]at h;simp only[ojE]at h;subst h;refine⟨_,rfl,.mkAgg' ?_⟩;have:=(r.drop off).take n;simpa [Array.toList_extract,List.extract_eq_take_drop]using this
  ·cases h
 ·rename_i e;rw[e];obtain⟨u,hu,hr⟩:=r.get h;exact⟨u,by simpa using hu,hr⟩
 ·cases h
theorem nB{t:TypeId}{cs:List PV}{us:List Value}{off base:Nat}{v:PV}(hb:base+cs.length≤us.length)
    (r: ∀(i:Nat) (x:PV) (u:Value),cs[i]?=some x→us[base+i]?=some u→R ν σ x u) (h:nC P t cs off=some v):
    ∃u,(match jA P t with
      |some true=>match jD P t with
        |some n=>(cut us (base+off) n).map fun l=>Value.agg l.toArray
        |none=>none
      |some false=>us[base+off]?
      |none=>none)=some u∧R ν σ v u:=by
 unfold nC at h;split at h
 ·rename_i e;rw[e];split at h
  ·rename_i n en;simp only[en];cases hb':Nat.beq ((cs.drop off).take n).length n with
   |false=>rw[hb',cdf]at h;cases h
   |true=>
    rw[hb',cdt]at h;simp only[ojE]at h;subst h;have hn:=nqE hb';simp only[List.length_take,List.length_drop]at hn;have hl:((us.drop (base+off)).take n).length=n:=by simp only[List.length_take,List.length_drop];omega
    refine⟨.agg ((us.drop (base+off)).take n).toArray,?_,.mkAgg ⟨?_,?_⟩⟩
    ·simp only[cut,cJ,hl,decide_true,cdt,omS]
    ·simp only[List.length_take,List.length_drop];omega
    ·intro i x u hx hu;rw[List.getElem?_take]at hx hu;split at hx
     ·rename_i hi;rw[if_pos hi]at hu;rw[List.getElem?_drop]at hx hu;exact r (off+i) x u hx (by rw[←Nat.add_assoc];exact hu)
     ·cases hx
  ·cases h
 ·rename_i e;rw[e];have hi:off<cs.length:=by
   rcases Nat.lt_or_ge off cs.length with h'|h'
   ·exact h'
   ·simp[List.getElem?_eq_none h']at h
  have hu:us[base+off]?=some (us[base+off]'(by omega)):=geG _
  exact⟨_,hu,r off v _ h hu⟩
 ·cases h
theorem cZ{z:Nat}{es:List PV}(hs: ∀e∈es,e.cells.length=z):(eG es).length=es.length*z:=by
 induction es with
 |nil=>simp[eG]
 |cons e es ih=>
  have:=ih (fun x hx=>hs x (mtE _ hx))
  simp only[eG,fmC,lnA,lcS]at this⊢;rw[hs e (by simp),this,Nat.add_mul];omega
theorem flat_get{z:Nat}{es:List PV}(hs: ∀e∈es,e.cells.length=z){i j:Nat}{e:PV}(he:es[i]?=some e)(hj:j<z):(eG es)[i*z+j]?=e.cells[j]?:=by
 induction es generalizing i with
 |nil=>simp at he
 |cons x es ih=>
  simp only[eG,fmC];have hx:=hs x (by simp)
  cases i with
  |zero=>
   simp only[gcZ,ojE]at he;subst he;rw[Nat.zero_mul,Nat.zero_add,List.getElem?_append_left (by omega)]
  |succ i=>
   simp only[gcS]at he;have:=ih (fun y hy=>hs y (mtE _ hy)) he
   rw[List.getElem?_append_right (by rw[hx,Nat.succ_mul];omega),hx]
   rw[show(i+1)*z+j-z=i*z+j by rw[Nat.succ_mul];omega]
   exact this
theorem dG{α:Type}{l:List α}{i:Nat}{x:α}(h:l[i]?=some x):x∈l:=List.mem_of_getElem? h
theorem vB{γ:Ga}{p:PSt}(M:Mem ν γ p σ){t:TypeId}{a v:PV}{w:Value}(r:R ν σ a w)(h:gD P p t a=some v): ∃u,fD P σ t w=some u∧R ν σ v u:=by
 cases a<;>simp only[gD]at h<;>try cases h
 ·rename_i es i off;cases r with
  |pin z _ _ _ id base rcs m hs hr hb hh=>
  split at h
  ·rename_i e he;have hz:=(hs e (dG he)).1;have hs:=fun e he=>(hs e he).1
   have hi:i<es.length:=by
    rcases Nat.lt_or_ge i es.length with h'|h'
    ·exact h'
    ·simp[List.getElem?_eq_none h']at he
   have hiz:i*z+z≤es.length*z:=by rw[←Nat.succ_mul];exact Nat.mul_le_mul_right _ hi
   have:=nB (ν:=ν) (σ:=σ) (us:=rcs) (base:=base+i*z) (by rw[hz];omega) (fun j x u hx hu=>by
    have hj:j<z:=by
     rcases Nat.lt_or_ge j e.cells.length with h'|h'
     ·omega
     ·simp[List.getElem?_eq_none h']at hx
    exact hh (i*z+j) x u (by rw[flat_get hs he hj];exact hx) (by rw[←Nat.add_assoc];exact hu)) h
   obtain⟨u,hu,hr'⟩:=this;refine⟨u,?_,hr'⟩;simp only[fD,hr.1];exact hu
  ·cases h
 ·rename_i id off;cases r with
  |ptr _ _ a hν=>
   split at h
   ·rename_i cs hg;obtain⟨a',us,h1,h2,h3,h4⟩:=M.get id _ hg;rw[hν]at h1;simp only[ojE]at h1;subst h1;have:=nB (ν:=ν) (σ:=σ) (us:=us) (base:=0) (by simp[h3]) (fun j x u hx hu=>by
     rw[List.getElem?_map]at hx;cases hc:cs[j]? with
     |none=>rw[hc]at hx;cases hx
     |some c=>
      rw[hc]at hx;simp only[omS,ojE]at hx;subst hx;exact(h4 j c.1 c.2 u hc (by simpa using hu)).1) h
    obtain⟨u,hu,hr'⟩:=this;refine⟨u,?_,hr'⟩;simp only[fD,row_of_get h2 rfl];simp only[Nat.zero_add]at hu;exact hu
   ·rename_i z ag cs hg;obtain⟨a',us,h1,h2,h3,h5,h4⟩:=M.get id _ hg;rw[hν]at h1;simp only[ojE]at h1;subst h1;have:=nB (ν:=ν) (σ:=σ) (us:=us) (base:=0) (by simp[h3]) (fun j x u hx hu=>h4 j x u hx (by simpa using hu)) h
    obtain⟨u,hu,hr'⟩:=this;refine⟨u,?_,hr'⟩;simp only[fD,row_of_get h2 rfl];simp only[Nat.zero_add]at hu;exact hu
   ·cases h
  |ptr0 _ _ _ hν=>
   split at h
   ·rename_i cs hg;obtain⟨a',us,h1,_⟩:=M.get id _ hg;rw[hν]at h1;cases h1
   ·rename_i z ag cs hg;obtain⟨a',us,h1,_⟩:=M.get id _ hg;rw[hν]at h1;cases h1
   ·cases h
end
end Go.PI
namespace Go.PI
open Go.AI
section
variable{P:Program}{ν:Nu}{γ:Ga}{σ:St}{S:PS}{A:Slots}
theorem aGT{t:TypeId}{v x:PV}{u:Value}{f:Nat}(r:R ν σ v u)(h:xY P t v f=some x): ∃w,aAf P t u f=some w∧R ν σ x w:=by
 unfold xY at h;unfold aAf;split at h
 ·rename_i fs e;rw[e];split at h
  ·rename_i fd e2;simp only[e2];split at h
   ·rename_i cs;obtain⟨us,rfl,hl⟩:=r.agg_inv;exact aDl hl h
   ·cases h
  ·cases h
 ·cases h
theorem vE{t:TypeId}{v x:PV}{u:Value}{f:Nat}(r:R ν σ v u)(h:dF P t v f=some x): ∃w,gP P t u f=some w∧R ν σ x w:=by
 unfold dF at h;unfold gP;split at h
 ·rename_i fs e;rw[e];split at h
  ·rename_i fd e2;simp only[e2];split at h
   ·rename_i n e3;simp only[e3];cases hb:Nat.beq n 0 with
    |true=>rw[hb,cdt]at h;cases h
    |false=>
     rw[hb,cdf]at h;split at h
     ·simp only[ojE]at h;subst h;cases r with
      |ptr id off a hν=>simp only[hb,cdf];exact⟨_,rfl,.ptr _ _ _ hν⟩
      |ptr0 id off a hν=>simp only[hb,cdf];exact⟨_,rfl,.ptr0 _ _ _ hν⟩
     ·rename_i es i off;simp only[ojE]at h;subst h;cases r with
      |pin z _ _ _ id base rcs m hs hr hb2 hh=>simp only[hb,cdf];exact⟨_,rfl,by rw[Nat.add_assoc];exact .pin z es i _ id base rcs m hs hr hb2 hh⟩
     ·cases h
   ·cases h
  ·cases h
 ·cases h
theorem vC{t:TypeId}{v x i:PV}{u w:Value}(r:R ν σ v u)(ri:R ν σ i w)(h:cH P t v i=some x): ∃y,cO P t u w=some y∧R ν σ x y:=by
 unfold cH at h;split at h
 ·rename_i k n;have hw:w= .int k n:=by cases ri;rfl
  subst hw;simp only[cO];split at h
  ·rename_i e he;simp only[he];split at h
   ·rename_i z hz;split at h
    ·rename_i z' es;cases r with
     |sl _ _ id off c rcs m h1 hs hr hm hb hh=>
      simp only[hz];cases hc:Nat.beq z z'&&aZ n es.length with
      |false=>rw[hc,cdf]at h;cases h
      |true=>
       rw[hc,cdt]at h;simp only[ojE]at h;subst h;simp only[bjE]at hc;have hzz:=nqE hc.1;subst hzz;rw[hc.2,cdt];refine⟨_,rfl,?_⟩;have:=R.pin (ν:=ν) (σ:=σ) z es n.toNat 0 id off rcs m hs hr hb hh;simpa using this
    ·rename_i id off len;cases hc:aZ n len with
     |false=>rw[hc,cdf]at h;cases h
     |true=>
      rw[hc,cdt]at h;simp only[ojE]at h;subst h;cases r with
      |rs _ _ _ c a hν=>simp only[hz,hc,cdt];exact⟨_,rfl,.ptr _ _ _ hν⟩
      |rs0 _ _ _ c a hν=>simp only[hz,hc,cdt];exact⟨_,rfl,.ptr0 _ _ _ hν⟩
    ·cases h
   ·cases h
  ·rename_i len e he;simp only[he];split at h
   ·rename_i z hz;split at h
    ·rename_i id off;cases hc:aZ n len with
     |false=>rw[hc,cdf]at h;cases h
     |true=>
      rw[hc,cdt]at h;simp only[ojE]at h;subst h;cases r with
      |ptr _ _ a hν=>simp only[hz,hc,cdt];exact⟨_,rfl,.ptr _ _ _ hν⟩
      |ptr0 _ _ a hν=>simp only[hz,hc,cdt];exact⟨_,rfl,.ptr0 _ _ _ hν⟩
    ·rename_i es j off;cases hc:aZ n len with
     |false=>rw[hc,cdf]at h;cases h
     |true=>
      rw[hc,cdt]at h;simp only[ojE]at h;subst h;cases r with
      |pin z0 _ _ _ id base rcs m hs hr hb2 hh=>simp only[hz,hc,cdt];exact⟨_,rfl,by rw[Nat.add_assoc];exact .pin z0 es j _ id base rcs m hs hr hb2 hh⟩
    ·cases h
   ·cases h
  ·cases h
 ·cases h
theorem tE{w:Value}(h:aB w=true):aH w=true:=by cases w<;>first|exact h|simp[aB]at h
theorem aGS{t:TypeId}{v x i:PV}{u w:Value}(r:R ν σ v u)(ri:R ν σ i w)(h:tF P t v i=some x): ∃y,aAe P t u w=some y∧R ν σ x y:=by
 unfold tF at h;unfold aAe;split at h
 ·rename_i e;rw[e];split at h
  ·rename_i a b ha hb;obtain⟨rfl,hpa⟩:=jG ha r;obtain⟨rfl,hpb⟩:=jG hb ri;simp only[mjE]at h;obtain⟨y,hy,rfl⟩:=h;exact⟨y,by simp only[hpa,hpb,Bool.and_self,cdt];exact hy,.ofV1 (dR hy)⟩
  ·cases h
 ·rename_i len e he;rw[he];split at h
  ·rename_i k n cs;have hw:w= .int k n:=by cases ri;rfl
   subst hw;obtain⟨us,rfl,hl⟩:=r.agg_inv;split at h
   ·rename_i z hz;cases hc:aZ n len with
    |false=>rw[hc,cdf]at h;cases h
    |true=>
     rw[hc,cdt]at h;simp only[hz,hc,cdt];exact aDl hl h
   ·cases h
  ·cases h
 ·cases h
theorem pbin_ok{op:BinOp}{t:TypeId}{x y:Operand}{a b v:PV}(ra:R ν σ a (ev A x))(rb:R ν σ b (ev A y))(h:pA P op t x y a b=some v):
    ∃w,(bif aH (ev A x)&&aH (ev A y)then aL P (do eqGuard op t x y (ev A x) (ev A y);binOp op t (ev A x) (ev A y))
      else match P.underlying t with
        |some (.slice _)=>anil op (ev A x) (ev A y)
        |_=>none)=some w∧R ν σ v w:=by
 unfold pA at h;split at h
 ·rename_i u w hu hw;obtain⟨h1,hp1⟩:=aCK hu ra;obtain⟨h2,hp2⟩:=aCK hw rb;simp only[mjE]at h;obtain⟨y',hy,rfl⟩:=h;rw[h1,h2,hp1,hp2];exact⟨y',by simpa using hy,.ofV1 (dR hy)⟩
 ·split at h
  ·rename_i e he _;unfold pnil at h;split at h
   ·generalize ev A x=u1 at*;generalize ev A y=u2 at*;cases ra;cases rb;rw[he];simp only[aH,aB,Bool.false_and,cdf];cases op<;>simp only[ojE,reduceCtorEq]at h<;>subst h<;>exact⟨_,rfl,.v _ rfl⟩
   ·cases h
  ·cases h
theorem pun_ok{op:UnOp}{a v:PV}{u:Value}(r:R ν σ a u)(h:pun P op a=some v): ∃w,(bif aB u then aL P (Op.unary op u)else none)=some w∧R ν σ v w:=by
 unfold pun at h;split at h
 ·rename_i u' hu;obtain⟨rfl,hp⟩:=jG hu r;simp only[mjE]at h;obtain⟨y,hy,rfl⟩:=h;exact⟨y,by rw[hp];exact hy,.ofV1 (dR hy)⟩
 ·cases h
theorem pconv_ok{s d:TypeId}{a v:PV}{u:Value}(r:R ν σ a u)(h:sE P s d a=some v): ∃w,(bif aB u then aL P (convert s d u)else none)=some w∧R ν σ v w:=by
 unfold sE at h;split at h
 ·rename_i u' hu;obtain⟨rfl,hp⟩:=jG hu r;simp only[mjE]at h;obtain⟨y,hy,rfl⟩:=h;exact⟨y,by rw[hp];exact hy,.ofV1 (dR hy)⟩
 ·cases h
theorem aDV(place:Nat): ∀(c:List PV) (c':List Value) (k:Nat) (A:List PV) (A':Array Value),RL ν σ c c'→RL ν σ A A'.toList→
    RL ν σ (aE9 A (place+k) c) ((c'.zipIdx k).foldl (fun(cs:Array Value) x=>cs.setIfInBounds (place+x.2) x.1) A').toList:=by
 intro c;induction c with
 |nil=>intro c' k A A' h hA;rw[h.nil_inv];exact hA
 |cons x c ih=>
  intro c' k A A' h hA;obtain⟨u,us,rfl,hx,hr⟩:=h.cons_inv;simp only[List.zipIdx_cons,List.foldl_cons,aE9];have:=ih us (k+1) (A.set (place+k) x) (A'.setIfInBounds (place+k) u) hr (by rw[Array.toList_setIfInBounds];exact hA.set hx _)
  exact this
def PRs(ν:Nu)(σ:St)(ps:List (Nat×PV))(qs:List (Nat×Value)):Prop:=ps.map (·.1)=qs.map (·.1)∧RL ν σ (ps.map (·.2)) (qs.map (·.2))
theorem PRs.of(F:FR ν γ σ S A){parts:List (Nat×Operand)}(h:(parts.map (·.2)).all (aI P)=true):
    PRs ν σ (parts.map fun(i,x)=>(i,pev S x)) (parts.map fun(i,x)=>(i,ev A x)):=by
 refine⟨by simp[Function.comp_def],?_⟩
 have:=qJ (P:=P) F h;simpa [Function.comp_def]using this
theorem aDn(place:Nat→Option (Nat×Nat)): ∀(ps:List (Nat×PV)) (qs:List (Nat×Value)) (B:List PV) (B':Array Value) (r:List PV),PRs ν σ ps qs→RL ν σ B B'.toList→vD place B ps=some r→
    ∃r',Instr.fill place B' qs=some r'∧RL ν σ r r'.toList:=by
 intro ps;induction ps with
 |nil=>
  intro qs B B' r hp hB h;have:qs=[]:=by have:=hp.1;simpa using this.symm
  subst this;simp only[vD,ojE]at h;subst h;exact⟨B',rfl,hB⟩
 |cons q ps ih=>
  intro qs B B' r hp hB h;obtain⟨i,x⟩:=q;cases qs with
  |nil=>have:=hp.1;simp at this
  |cons q' qs=>
   obtain⟨i',u⟩:=q';have h1:=hp.1;simp only[mpC,List.cons.injEq]at h1;obtain⟨rfl,h1⟩:=h1;have h2:=hp.2;simp only[mpC]at h2;obtain⟨u',us',he,hx,hr⟩:=h2.cons_inv;simp only[List.cons.injEq]at he;obtain⟨rfl,rfl⟩:=he;simp only[vD]at h;simp only[Instr.fill];split at h
   ·cases h
   ·rename_i off size e;simp only[e];cases hc:Nat.beq x.cells.length size&&Nat.ble (off+size) B.length&&x.cells.all PV.one with
    |false=>rw[hc,cdf]at h;cases h
    |true=>
     rw[hc,cdt]at h;simp only[bjE]at hc;have hcs:=hx.cells hc.2;have hsz:=nqE hc.1.1;have hle:=Nat.le_of_ble_eq_true hc.1.2;have hul:u.cells.size=size:=by have:=hcs.1;simp at this;omega
     have hBl:B.length=B'.size:=by have:=hB.1;simpa using this
     rw[if_neg (by simp[hul];omega)]
     refine ih qs _ _ r ⟨h1,hr⟩ ?_ h;have:=aDV (ν:=ν) (σ:=σ) off x.cells u.cells.toList 0 B B' hcs hB;rw[←Array.foldl_toList,Array.toList_zipIdx];exact this
theorem jE{t:TypeId}{z:List PV}(h:zeroCells P t=some z): ∃w,aO P (zeroValue t)=some w∧w.cells.toList.all aB=true∧z=ofVs w.cells.toList:=by
 unfold zeroCells at h;split at h
 ·rename_i w e;cases hc:w.cells.toList.all aB with
  |false=>rw[hc,cdf]at h;cases h
  |true=>rw[hc,cdt]at h;simp only[ojE]at h;exact⟨w,e,hc,h.symm⟩
 ·cases h
theorem aGW{t:TypeId}{ps:List (Nat×PV)}{qs:Array (Nat×Value)}{v:PV}(hp:PRs ν σ ps qs.toList)(h:qK P t ps=some v): ∃w,aAg P t qs=some w∧R ν σ v w:=by
 unfold qK at h;split at h
 ·rename_i z hz;obtain⟨w,hw,hpl,rfl⟩:=jE hz;unfold aAg;simp only[hw,hpl,cdt];split at h
  ·rename_i fs e;simp only[e];split at h
   ·rename_i pl e2;simp only[e2];simp only[mjE]at h;obtain⟨cs,hf,rfl⟩:=h;obtain⟨cs',hf',hr⟩:=aDn _ _ _ _ _ _ hp (.ofVs hpl) hf;exact⟨_,by rw[hf'];rfl,.mkAgg' hr⟩
   ·cases h
  ·rename_i n e he;simp only[he];split at h
   ·rename_i s e2;simp only[e2];simp only[mjE]at h;obtain⟨cs,hf,rfl⟩:=h;obtain⟨cs',hf',hr⟩:=aDn _ _ _ _ _ _ hp (.ofVs hpl) hf;exact⟨_,by rw[hf'];rfl,.mkAgg' hr⟩
   ·cases h
  ·cases h
 ·cases h
theorem plen_ok{t:TypeId}{v x:PV}{u:Value}(r:R ν σ v u)(h:aFT P t v=some x): ∃w,alen P t u=some w∧R ν σ x w:=by
 unfold aFT at h;unfold alen;split at h
 ·rename_i e he;simp only[he];split at h<;>(try cases h)<;>(cases r<;>exact⟨_,rfl,.v _ rfl⟩)
 ·rename_i he;simp only[he];split at h<;>(try cases h)
  cases r with
  |str s=>refine⟨_,rfl,?_⟩;simp only[i64,goInt,Array.length_toList];exact .v _ rfl
 ·rename_i n e he;simp only[he];cases h;exact⟨_,rfl,.v _ rfl⟩
 ·cases h
theorem tD{mx:Bool}{ts:Array TypeId}{ty:TypeId}{as:List PV}{us:Array Value}{x:PV}(r:RL ν σ as us.toList)(h:gZ P mx ts ty as=some x):
    ∃w,(bif us.toList.all aB then aL P (bif mx then Builtin.max_ ts ty us else Builtin.min_ ts ty us)else none)=some w∧R ν σ x w:=by
 unfold gZ at h;split at h
 ·rename_i l hl;obtain⟨h1,h2⟩:=toVl_ok hl r;simp only[mjE]at h;obtain⟨y,hy,rfl⟩:=h;refine⟨y,?_,.ofV1 (dR hy)⟩;rw[h1,h2,cdt,←hy];rw[show us=l.toArray by rw[←h1]]
 ·cases h
end
end Go.PI
namespace Go.PI
open Go.AI
theorem kU(S:PS)(t k:Nat)(x:PV×Bool):PS.at (PS.set S t x) k=if k=t then x else S.at k:=by
 simp only[PS.at,PS.set,cJ,Bool.cond_decide]
theorem wU(A:Slots)(t k:Nat)(x:Value):Slots.at (Tr.set A t x) k=if k=t then x else A.at k:=by
 simp only[Slots.at,Tr.get_set];split<;>rfl
def G2(γ γ':Ga):Prop:= ∀i,(γ i=some .out→γ' i=some .out)∧∀id off,γ i=some (.cell id off)→γ' i=some (.cell id off)
theorem G2.refl(γ:Ga):G2 γ γ:=fun i=>⟨id,fun _ _=>id⟩
theorem G2.trans{γ γ' γ'':Ga}(h:G2 γ γ')(h':G2 γ' γ''):G2 γ γ'':=fun i=>⟨fun e=>(h' i).1 ((h i).1 e),fun id off e=>(h' i).2 id off ((h i).2 id off e)⟩
theorem G2.mv{γ:Ga}{k k':K}(h:k≠ .out)(h': ∀id off,k≠ .cell id off):G2 γ (PI.mv k k' γ):=by
 intro i;refine⟨fun e=>?_,fun id off e=>?_⟩<;>simp only[PI.mv,e]
 ·rw[if_neg (by simpa using Ne.symm h)]
 ·rw[if_neg (by simpa using Ne.symm (h' id off))]
section
variable{P:Program}{ν:Nu}{γ:Ga}{σ:St}{S:PS}{A:Slots}
theorem ObjR.g2{γ':Ga}{id:Nat}{o:lP}(h:ObjR ν γ σ id o)(g: ∀i off,γ i=some (.cell id off)→γ' i=some (.cell id off)):ObjR ν γ' σ id o:=by
 cases o with
 |box cs=>
  obtain⟨a,us,h1,h2,h3,h4⟩:=h;refine⟨a,us,h1,h2,h3,fun i x b u hx hu=>?_⟩
  obtain⟨h5,h6,h7⟩:=h4 i x b u hx hu;exact⟨h5,h6,fun hb=>(h7 hb).weak fun j hj=>g j i hj⟩
 |_=>exact h
theorem Mem.g2{γ':Ga}{p:PSt}(M:Mem ν γ p σ)(g:G2 γ γ'):Mem ν γ' p σ:=
 ⟨M.le,M.lt,M.inj,M.live,fun id o h=>(M.get id o h).g2 fun i off e=>(g i).2 id off e,M.free,M.ver⟩
theorem FR.put(F:FR ν γ σ S A){v:PV}{u:Value}{own:Bool}(r:R ν σ v u)(ho:own=true→Ow ν γ σ .hand v u)(d:Option Tmp):
    ∃γ',FR ν γ' σ (S.put d v own) (A.store d u)∧G2 γ γ':=by
 cases d with
 |none=>exact⟨γ,F,.refl γ⟩
 |some d=>
  refine⟨PI.mv .hand (.slot d) γ,fun t=>?_,.mv (by simp) (by simp)⟩
  simp only[PS.put,Slots.store,kU,wU];by_cases e:t=d
  ·subst e;simp only[if_true];exact⟨r,fun h=>(ho h).mv⟩
  ·simp only[if_neg e];exact⟨(F t).1,fun h=>((F t).2 h).mv_ne (by simp)⟩
theorem FR.keeps(F:FR ν γ σ S A)(ts:List Nat):FR ν γ σ (keeps S ts) A:=by
 induction ts with
 |nil=>intro k;exact⟨.und _,fun h=>by cases h⟩
 |cons t ts ih=>
  intro k;simp only[PI.keeps,kU];split
  ·rename_i e;subst e;exact F k
  ·exact ih k
theorem aDE(F:FR ν γ σ S A)(x:Operand)(hx:aI P x=true): ∃γ',FR ν γ' σ (oT S x) A∧(hJ S x=true→Ow ν γ' σ .hand (pev S x) (ev A x))∧G2 γ γ'∧∀i k,γ i=some (.arg k)→γ' i=some (.arg k):=by
 cases x with
 |tmp t=>
  have hF:=F t;simp only[oT,hJ,pev,ev];refine⟨PI.mv (.slot t) .hand γ,fun k=>?_,fun h=>?_,.mv (by simp) (by simp),fun i k hi=>by simp[PI.mv,hi]⟩
  ·rw[kU];split
   ·rename_i hk;subst hk;exact⟨hF.1,fun h=>by cases h⟩
   ·rename_i hk;exact⟨(F k).1,fun h=>((F k).2 h).mv_ne (by simpa using hk)⟩
  ·simp only[Bool.or_eq_true]at h;rcases h with h|h
   ·exact(hF.2 h).mv
   ·have hr:=hF.1;generalize (S.at t).1=v at hr h;generalize A.at t=u at hr;cases v<;>simp only[gJ]at h<;>try cases h
    cases hr;exact .nil _
 |const v=>
  refine⟨γ,F,fun h=>?_,.refl γ,fun _ _ h=>h⟩
  cases v with
  |slice a l c=>
   cases a with
   |none=>
    simp only[aI,aH,aB,bjE]at hx;have h1:=nqE hx.1;have h2:=nqE hx.2;subst h1;subst h2;exact .nil _
   |some a=>simp only[hJ]at h;cases h
  |_=>simp only[hJ]at h;cases h
 |global g=>exact⟨γ,F,fun h=>(by cases h),.refl γ,fun _ _ h=>h⟩
 |func f=>exact⟨γ,F,fun h=>(by cases h),.refl γ,fun _ _ h=>h⟩
theorem nI(F:FR ν γ σ S A)(x:Operand)(hx:aI P x=true): ∃γ',FR ν γ' σ (oT S x) A∧(hJ S x=true→Ow ν γ' σ .hand (pev S x) (ev A x))∧G2 γ γ':=by
 obtain⟨γ',h1,h2,h3,_⟩:=aDE F x hx;exact⟨γ',h1,h2,h3⟩
theorem qN{P:Program}{a:Array Operand}(h:a.all (aI P)=true):a.toList.all (aI P)=true:=by simpa using h
theorem aDk(F:FR ν γ σ S A){o:Oper}(ho:o.op.operands.all (aI P)=true){v:PV}{take own:Bool}{S':PS}(h:bK P take S o=some (v,own,S')):
    ∃u γ',fQ P (ev A) o=some u∧R ν σ v u∧FR ν γ' σ S' A∧(own=true→Ow ν γ' σ .hand v u)∧G2 γ γ':=by
 have fin: ∀{x:Option PV},x.map (fun v=>(v,false,S))=some (v,own,S')→∀{y:Option Value},(∀v',x=some v'→∃u,y=some u∧R ν σ v' u)→
      ∃u γ',y=some u∧R ν σ v u∧FR ν γ' σ S' A∧(own=true→Ow ν γ' σ .hand v u)∧G2 γ γ':=by
  intro x hx y hy;simp only[mjE,pjE]at hx;obtain⟨v',h1,rfl,rfl,rfl⟩:=hx;obtain⟨u,h2,h3⟩:=hy v' h1;exact⟨u,γ,h2,h3,F,fun h=>(by cases h),.refl γ⟩
 replace ho:=qN ho
 obtain⟨dst,op,ty,pos,af,g⟩:=o;cases op with
 |move x=>
  simp only[Op.operands,alC,List.all_nil,bnA]at ho;cases take with
  |true=>
   simp only[bK,cdt,ojE,pjE]at h;obtain⟨rfl,rfl,rfl⟩:=h;obtain⟨γ',h1,h2,h3⟩:=nI F x ho;exact⟨_,γ',rfl,aT F ho,h1,h2,h3⟩
  |false=>
   simp only[bK,cdf,ojE,pjE]at h;obtain⟨rfl,rfl,rfl⟩:=h;exact⟨_,γ,rfl,aT F ho,F,fun h=>(by cases h),.refl γ⟩
 |assign x=>
  simp only[Op.operands,alC,List.all_nil,bnA]at ho;cases take with
  |true=>
   simp only[bK,cdt,ojE,pjE]at h;obtain⟨rfl,rfl,rfl⟩:=h;obtain⟨γ',h1,h2,h3⟩:=nI F x ho;exact⟨_,γ',rfl,aT F ho,h1,h2,h3⟩
  |false=>
   simp only[bK,cdf,ojE,pjE]at h;obtain⟨rfl,rfl,rfl⟩:=h;exact⟨_,γ,rfl,aT F ho,F,fun h=>(by cases h),.refl γ⟩
 |pick c a b=>
  simp only[Op.operands,alC,List.all_nil,bnA,bjE]at ho;have hc:=aT F ho.1;simp only[bK]at h;simp only[fQ];split at h
  ·rename_i e2;rw[e2]at hc;simp only[ojE,pjE]at h;obtain⟨rfl,rfl,rfl⟩:=h;generalize ev A c=w at hc;cases hc;exact⟨_,γ,rfl,aT F ho.2.1,F,fun h=>(by cases h),.refl γ⟩
  ·rename_i e2;rw[e2]at hc;simp only[ojE,pjE]at h;obtain⟨rfl,rfl,rfl⟩:=h;generalize ev A c=w at hc;cases hc;exact⟨_,γ,rfl,aT F ho.2.2,F,fun h=>(by cases h),.refl γ⟩
  ·cases h
 |build t parts=>
  simp only[bK]at h;refine fin h fun v' hv=>aGW ?_ hv
  have:=PRs.of (P:=P) F (parts:=parts.toList) (by simpa [Op.operands]using ho)
  simpa using this
 |nilCheck x=>
  simp only[Op.operands,alC,List.all_nil,bnA]at ho;have hx:=aT F ho;simp only[bK]at h;simp only[fQ];split at h
  ·rename_i id off e2;rw[e2]at hx;simp only[ojE,pjE]at h;obtain⟨rfl,rfl,rfl⟩:=h;generalize ev A x=w at hx⊢;cases hx with
   |ptr _ _ a hν=>exact⟨_,γ,rfl,.ptr _ _ _ hν,F,fun h=>(by cases h),.refl γ⟩
   |ptr0 _ _ a hν=>exact⟨_,γ,rfl,.ptr0 _ _ _ hν,F,fun h=>(by cases h),.refl γ⟩
  ·rename_i es i off e2;rw[e2]at hx;simp only[ojE,pjE]at h;obtain⟨rfl,rfl,rfl⟩:=h;generalize ev A x=w at hx⊢;cases hx with
   |pin z _ _ _ id base rcs m hs hr hb2 hh=>exact⟨_,γ,rfl,.pin z es i _ id base rcs m hs hr hb2 hh,F,fun h=>(by cases h),.refl γ⟩
  ·cases h
 |binOp op t x y ty=>
  simp only[bK]at h;simp only[Op.operands,alC,List.all_nil,bnA,bjE]at ho;exact fin h fun v' hv=>pbin_ok (aT F ho.1) (aT F ho.2) hv
 |unOp op t x=>
  simp only[bK]at h;simp only[Op.operands,alC,List.all_nil,bnA]at ho;exact fin h fun v' hv=>pun_ok (aT F ho) hv
 |convert s d x=>
  simp only[bK]at h;simp only[Op.operands,alC,List.all_nil,bnA]at ho;exact fin h fun v' hv=>pconv_ok (aT F ho) hv
 |makeFunc fn first captured=>
  simp only[Op.operands,Array.toList_append,List.all_append,bjE]at ho;cases fn with
  |func f=>
   simp only[bK,ojE,pjE]at h;obtain⟨rfl,rfl,rfl⟩:=h;have h1:=(qJ F ho.1).wks;have h2:=(qJ F ho.2).wks;refine⟨_,γ,rfl,.fn f _ _ _ _ ?_ ?_ ?_ ?_,F,fun h=>(by cases h),.refl γ⟩
   ·simpa using h1.1
   ·simpa using h1.2
   ·simpa using h2.1
   ·simpa using h2.2
  |_=>simp only[bK]at h;cases h
 |fieldAddr s x f=>
  simp only[bK]at h;simp only[Op.operands,alC,List.all_nil,bnA]at ho;exact fin h fun v' hv=>vE (aT F ho) hv
 |field s x f=>
  simp only[bK]at h;simp only[Op.operands,alC,List.all_nil,bnA]at ho;exact fin h fun v' hv=>aGT (aT F ho) hv
 |indexAddr t x i=>
  simp only[bK]at h;simp only[Op.operands,alC,List.all_nil,bnA,bjE]at ho;exact fin h fun v' hv=>vC (aT F ho.1) (aT F ho.2) hv
 |index t x i=>
  simp only[bK]at h;simp only[Op.operands,alC,List.all_nil,bnA,bjE]at ho;exact fin h fun v' hv=>aGS (aT F ho.1) (aT F ho.2) hv
 |extract t i=>
  simp only[Op.operands,alC,List.all_nil,bnA]at ho;have hx:=aT F ho;simp only[bK]at h;simp only[fQ];split at h
  ·rename_i vs e2;rw[e2]at hx;obtain⟨us,hu,hl⟩:=hx.tup_inv;cases htk:(take&&Nat.beq i 0)with
   |false=>
    rw[htk,cdf]at h;simp only[hu];refine fin h fun v' hv=>?_
    obtain⟨u,h1,h2⟩:=hl.get hv;exact⟨u,by simpa using h1,h2⟩
   |true=>
    rw[htk,cdt]at h;simp only[bjE,Nat.beq_eq]at htk;obtain⟨_,rfl⟩:=htk;simp only[mjE,pjE]at h;obtain⟨v',hv,rfl,rfl,rfl⟩:=h;obtain⟨u,h1,h2⟩:=hl.get hv;obtain⟨γ',f1,f2,f3⟩:=nI F t ho;refine⟨u,γ',by rw[hu];simpa using h1,h2,f1,fun hw=>?_,f3⟩
    have:=f2 hw;rw[e2,hu]at this;cases this with
    |tup x xs u' us' _ hh=>
     simp only[gcZ,ojE]at hv;subst hv;have h1':u'=u:=by simpa using h1
     subst h1';exact hh
  ·cases h
 |call c=>
  obtain⟨callee,args,argTypes⟩:=c;simp only[Op.operands,Call.operands,Array.toList_append,List.all_append,bjE]at ho;simp only[fQ];cases callee with
  |builtin b=>
   cases b with
   |len=>
    simp only[bK]at h;simp only[jV];split at h
    ·rename_i t x ht hx;simp only[ht,hx];have hxo:aI P x=true:=by
      have:x∈args.toList:=by
       have:=Array.mem_of_getElem? hx;simpa using this
      exact(List.all_eq_true.1 ho.2) x this
     exact fin h fun v' hv=>plen_ok (aT F hxo) hv
    ·cases h
   |min=>
    simp only[bK]at h;simp only[jV];have:=qJ F ho.2;exact fin h fun v' hv=>tD (mx:=false) (by simpa using this) hv
   |max=>
    simp only[bK]at h;simp only[jV];have:=qJ F ho.2;exact fin h fun v' hv=>tD (mx:=true) (by simpa using this) hv
   |_=>simp only[bK]at h;cases h
  |_=>simp only[bK]at h;cases h
 |_=>simp only[bK]at h;cases h
end
end Go.PI
namespace Go.PI
open Go.AI
def GoOut(σ:St)(γ γ':Ga):Prop:= ∀i,σ.get i≠none→γ i=some .out→γ' i=some .out
theorem GoOut.refl(σ:St)(γ:Ga):GoOut σ γ γ:=fun _ _ h=>h
theorem GoOut.trans{σ σ':St}{γ γ' γ'':Ga}(h:GoOut σ γ γ')(h':GoOut σ' γ' γ'')(hd: ∀a,σ'.get a=none→σ.get a=none):GoOut σ γ γ'':=fun i e hi=>h' i (fun e'=>e (hd i e')) (h i e hi)
theorem G2.out{σ:St}{γ γ':Ga}(g:G2 γ γ'):GoOut σ γ γ':=fun i _ h=>(g i).1 h
theorem fJ{p:PSt}{id:Nat}{o:lP}(h:id<p.next)(k:Nat):(p.upd id o).get k=if k=id then some o else p.get k:=by
 simp only[PSt.get,PSt.upd,Tr.get_set,fP,Bool.cond_decide];by_cases e:k=id
 ·subst e;simp[h]
 ·simp[e]
theorem aHu{p:PSt}{id:Nat}{o:lP}(h:p.get id=some o):id<p.next:=by
 simp only[PSt.get,fP,Bool.cond_decide]at h;by_cases e:id<p.next
 ·exact e
 ·simp[e]at h
theorem aEj{p q:Prop}[Decidable p][Decidable q](h: ¬(p∧q)):(decide p&&decide q)=false:=by
 by_cases hp:p<;>by_cases hq:q<;>simp_all
section
variable{P:Program}{ν:Nu}{γ:Ga}{σ:St}{S:PS}{A:Slots}
theorem aDA{z:Nat}{es:List PV}{id off c:Nat}(r:R ν σ (.sl z es) (.slice (some ⟨id,off,none⟩) es.length c)):R ν σ (cQ z es) (.slice (some ⟨id,off,none⟩) es.length c):=by
 cases es with
 |nil=>cases r with|sl _ _ _ _ _ rcs m hz hs hr hm hb hh=>exact .emp1 _ _ _ _ _ hr
 |cons e es=>exact r
theorem zB{z:Nat}: ∀{es:List PV} (hs: ∀e∈es,e.cells.length=z) (l:Nat),eG (es.drop l)=(eG es).drop (l*z):=by
 intro es;induction es with
 |nil=>intro hs l;simp[eG]
 |cons e es ih=>
  intro hs l;cases l with
  |zero=>simp
  |succ l=>
   have:=ih (fun x hx=>hs x (mtE _ hx)) l
   simp only[List.drop_succ_cons,this];simp only[eG,fmC];have he:=hs e (by simp)
   have h1:e.cells.drop ((l+1)*z)=[]:=List.drop_eq_nil_of_le (by rw[he,Nat.succ_mul];omega)
   have h2:(l+1)*z-z=l*z:=by rw[Nat.succ_mul];omega
   rw[List.drop_append,h1,he,h2,nlA]
theorem zA{z:Nat}: ∀{es:List PV} (hs: ∀e∈es,e.cells.length=z) (l:Nat),eG (es.take l)=(eG es).take (l*z):=by
 intro es;induction es with
 |nil=>intro hs l;simp[eG]
 |cons e es ih=>
  intro hs l;cases l with
  |zero=>simp[eG]
  |succ l=>
   have:=ih (fun x hx=>hs x (mtE _ hx)) l
   simp only[eG,List.take_succ_cons,fmC]at this⊢;have he:=hs e (by simp)
   have h1:e.cells.take ((l+1)*z)=e.cells:=List.take_of_length_le (by rw[he,Nat.succ_mul];omega)
   have h2:(l+1)*z-z=l*z:=by rw[Nat.succ_mul];omega
   rw[this,List.take_append,h1,he,h2]
theorem R.sub{z:Nat}{es:List PV}{id off n c:Nat}(r:R ν σ (.sl z es) (.slice (some ⟨id,off,none⟩) n c)){l h:Nat}(h1:l≤h)(h2:h≤es.length)(c':Nat):
    R ν σ (cQ z ((es.take h).drop l)) (.slice (some ⟨id,off+l*z,none⟩) (h-l) c'):=by
 cases r with
 |sl _ _ _ _ _ rcs m hz hs hr hm hb hh=>
  have hlen:((es.take h).drop l).length=h-l:=by simp;omega
  have hle:(h-l)*z+l*z≤es.length*z:=by rw[←Nat.add_mul];exact Nat.mul_le_mul_right _ (by omega)
  rw[←hlen];refine aDA (.sl z _ id _ c' rcs m hz (fun e he=>hs e (List.mem_of_mem_take (List.mem_of_mem_drop he))) hr hm (by rw[hlen];omega) fun i x u hx hu=>?_)
  have hs': ∀e∈es.take h,e.cells.length=z:=fun e he=>(hs e (List.mem_of_mem_take he)).1
  rw[zB hs',zA (fun e he=>(hs e he).1),List.getElem?_drop,List.getElem?_take]at hx
  split at hx
  ·exact hh (l*z+i) x u hx (by rw[←Nat.add_assoc];exact hu)
  ·cases hx
def OR(ν:Nu)(σ:St)(xs:Option PV)(us:Option Value):Prop:=match xs,us with|some x,some u=>R ν σ x u|none,none=>True|_,_=>False
theorem aG2{xs:Option PV}{us:Option Value}{l:Option Value}(h:optV xs=some l)(hr:OR ν σ xs us):
    us=l∧aB (us.getD (.bool true))=true:=by
 cases xs with
 |none=>
  cases us with
  |none=>simp only[optV,ojE]at h;exact⟨h,rfl⟩
  |some u=>exact False.elim hr
 |some x=>
  cases us with
  |none=>exact False.elim hr
  |some u=>
   simp only[optV]at h;split at h
   ·rename_i v hv;simp only[ojE]at h;subst h;obtain⟨rfl,hp⟩:=jG hv hr;exact⟨rfl,hp⟩
   ·cases h
theorem qM{xs:Option PV}{us:Option Value}{l:Option Int}(h:iP xs=some l)(hr:OR ν σ xs us):
    iR us=some l:=by
 cases xs with
 |none=>
  cases us with
  |none=>simp only[iP,ojE]at h;subst h;rfl
  |some u=>exact False.elim hr
 |some x=>
  cases us with
  |none=>exact False.elim hr
  |some u=>
   simp only[iP]at h;split at h
   ·rename_i e;cases e
   ·rename_i k n e;cases e;cases hr;simp only[ojE]at h;subst h;rfl
   ·cases h
theorem OR.of(F:FR ν γ σ S A){x:Option Operand}(h: ∀y,x=some y→aI P y=true):OR ν σ (x.map (pev S)) (x.map (ev A)):=by
 cases x with
 |none=>trivial
 |some y=>exact aT F (h y rfl)
theorem aGP{p:PSt}(M:Mem ν γ p σ){t:TypeId}{v w:PV}{u:Value}{lo hi mx:Option PV}{lo' hi' mx':Option Value}{own:Bool}(r:R ν σ v u)
    (rl:OR ν σ lo lo') (rh:OR ν σ hi hi') (rm:OR ν σ mx mx') (h:fT P p t v lo hi mx=some (w,own)):
    ∃y,oW P σ t u lo' hi' mx'=some y∧R ν σ w y∧(own=true→Ow ν γ σ .hand w y):=by
 unfold fT at h;unfold oW;split at h
 ·rename_i e;rw[e];split at h
  ·rename_i s l hh _ _ hl hhi;cases r with
   |str ba=>
   obtain⟨rfl,hpl⟩:=aG2 hl rl;obtain⟨rfl,hph⟩:=aG2 hhi rh;cases mx' with
   |some _=>exact False.elim rm
   |none=>
    simp only[mjE,pjE]at h;obtain⟨y,hy,rfl,rfl⟩:=h;refine⟨y,?_,.ofV1 (dR hy),fun h=>(by cases h)⟩
    simp only[Option.isNone_none,hpl,hph,Bool.and_self,cdt];exact hy
  ·cases h
 ·rename_i e he;rw[he];split at h
  ·rename_i z l hh m hz hl hhi hm;have el:=qM hl rl;have eh:=qM hhi rh;have em:=qM hm rm;split at h
   ·rename_i id off len;split at h
    ·rename_i z' ag cs hg;obtain⟨a,us,h1,h2,_⟩:=M.get id _ hg;cases r with
     |rs0 _ _ _ c a' hν=>rw[hν]at h1;cases h1
     |rs _ _ _ c a' hν=>
      rw[hν]at h1;simp only[ojE]at h1;subst h1;cases hc:Nat.beq z z'&&decide (0≤l.getD 0)&&decide (l.getD 0<hh.getD (len:Int))&&decide (hh.getD (len:Int)≤(len:Int))with
      |false=>rw[hc,cdf]at h;cases h
      |true=>
       rw[hc,cdt]at h;simp only[ojE,pjE]at h;obtain⟨rfl,rfl⟩:=h;simp only[bjE,djE]at hc;obtain⟨⟨⟨hzz,hl0⟩,hlh⟩,hhl⟩:=hc;have hzz:=nqE hzz;subst hzz;have hrz:aAF σ a' z=true:=by
        simp only[aAF,row_of_get h2 rfl,cJ];simp[bD]
       simp only[hz,el,eh,em,aFl,Bool.and_false,Bool.false_and,cdf,hrz,cdt];rw[show(decide (0≤l.getD 0)&&decide (l.getD 0≤hh.getD (len:Int))&&decide (hh.getD (len:Int)≤(len:Int)))=true by simp;omega]
       simp only[cdt,cJ];have key: ∀c',R ν σ (.rs id (off+(l.getD 0).toNat*z) ((hh.getD (len:Int)).toNat-(l.getD 0).toNat)) (.slice (some ⟨a',off+(l.getD 0).toNat*z,none⟩) ((hh.getD (len:Int)).toNat-(l.getD 0).toNat) c'):=fun c'=> .rs _ _ _ _ _ hν
       by_cases hA:c=len∧(hh.getD (len:Int)).toNat=len
       ·rw[show(decide (c=len)&&decide ((hh.getD (len:Int)).toNat=len))=true by simp[hA.1,hA.2]]
        rw[show decide ((l.getD 0).toNat=len)=false by simp;omega]
        simp only[cdt,cdf];refine⟨_,rfl,?_,fun h=>(by cases h)⟩
        have:=key (len-(l.getD 0).toNat);rw[hA.2]at this⊢;exact this
       ·rw[show(decide (c=len)&&decide ((hh.getD (len:Int)).toNat=len))=false by exact aEj hA]
        simp only[cdf];by_cases hB:(hh.getD (len:Int)).toNat=len∧(l.getD 0).toNat=0
        ·rw[show(decide ((hh.getD (len:Int)).toNat=len)&&decide ((l.getD 0).toNat=0))=true by simp[hB.1,hB.2]]
         simp only[cdt];refine⟨_,rfl,?_,fun h=>(by cases h)⟩
         have:=key c;rw[hB.1,hB.2]at this⊢;simpa using this
        ·rw[show(decide ((hh.getD (len:Int)).toNat=len)&&decide ((l.getD 0).toNat=0))=false by exact aEj hB]
         rw[show decide (l.getD 0<(len:Int))=true by simp;omega]
         simp only[cdf,cdt];exact⟨_,rfl,key _,fun h=>(by cases h)⟩
    ·cases h
   ·rename_i z' es;cases r with
    |sl _ _ id off c rcs mm hz1 hs hr hm1 hb hhr=>
     cases hc:Nat.beq z z'&&decide (0≤l.getD 0)&&decide (l.getD 0≤hh.getD (es.length:Int))&&decide (hh.getD (es.length:Int)≤(es.length:Int))with
     |false=>rw[hc,cdf]at h;cases h
     |true=>
      rw[hc,cdt]at h;simp only[ojE,pjE]at h;obtain⟨rfl,rfl⟩:=h;simp only[bjE,djE]at hc;obtain⟨⟨⟨hzz,hl0⟩,hlh⟩,hhl⟩:=hc;have hzz:=nqE hzz;subst hzz;have hrz:aAF σ id z=true:=by simp only[aAF,hr.1,cJ,hm1];simp
      simp only[hz,el,eh,em,aFl,Bool.and_false,Bool.false_and,cdf,hrz,cdt];rw[show(decide (0≤l.getD 0)&&decide (l.getD 0≤hh.getD (es.length:Int))&&decide (hh.getD (es.length:Int)≤(es.length:Int)))=true by simp;omega]
      simp only[cdt,cJ];have r0:R ν σ (.sl z es) (.slice (some ⟨id,off,none⟩) es.length c):= .sl z es id off c rcs mm hz1 hs hr hm1 hb hhr;have key:=fun c'=>R.sub r0 (l:=(l.getD 0).toNat) (h:=(hh.getD (es.length:Int)).toNat) (by omega) (by omega) c'
      by_cases hA:c=es.length∧(hh.getD (es.length:Int)).toNat=es.length
      ·rw[show(decide (c=es.length)&&decide ((hh.getD (es.length:Int)).toNat=es.length))=true by simp[hA.1,hA.2]]
       simp only[cdt];by_cases hE:(l.getD 0).toNat=es.length
       ·rw[show decide ((l.getD 0).toNat=es.length)=true by simp[hE]]
        simp only[cdt];refine⟨_,rfl,?_,fun h=>(by cases h)⟩
        rw[hA.2,hE,List.drop_eq_nil_of_le (by simp)]
        exact .emp1 _ _ _ _ _ hr
       ·rw[show decide ((l.getD 0).toNat=es.length)=false by simp[hE]]
        simp only[cdf];refine⟨_,rfl,?_,fun h=>(by cases h)⟩
        have:=key (es.length-(l.getD 0).toNat);rw[hA.2]at this⊢;exact this
      ·rw[show(decide (c=es.length)&&decide ((hh.getD (es.length:Int)).toNat=es.length))=false by exact aEj hA]
       simp only[cdf];by_cases hB:(hh.getD (es.length:Int)).toNat=es.length∧(l.getD 0).toNat=0
       ·rw[show(decide ((hh.getD (es.length:Int)).toNat=es.length)&&decide ((l.getD 0).toNat=0))=true by simp[hB.1,hB.2]]
        simp only[cdt];refine⟨_,rfl,?_,fun h=>(by cases h)⟩
        have:=key c;rw[hB.1,hB.2]at this⊢;simpa using this
       ·rw[show(decide ((hh.getD (es.length:Int)).toNat=es.length)&&decide ((l.getD 0).toNat=0))=false by exact aEj hB]
        simp only[cdf];by_cases hE:l.getD 0<(es.length:Int)
        ·rw[show decide (l.getD 0<(es.length:Int))=true by simp;omega]
         simp only[cdt];exact⟨_,rfl,key _,fun h=>(by cases h)⟩
        ·rw[show decide (l.getD 0<(es.length:Int))=false by simp;omega]
         simp only[cdf];refine⟨_,rfl,?_,fun h=>(by cases h)⟩
         rw[List.drop_eq_nil_of_le (by simp;omega)]
         exact .emp2 _ _ _ _
   ·cases hc:decide (0≤l.getD 0)&&decide (l.getD 0≤hh.getD 0)&&decide (hh.getD 0≤0)with
    |false=>rw[hc,cdf]at h;cases h
    |true=>
     rw[hc,cdt]at h;simp only[ojE,pjE]at h;obtain⟨rfl,rfl⟩:=h;simp only[bjE,djE]at hc;have hmn:mx'=none:=by
      cases mx' with
      |none=>rfl
      |some w=>cases w<;>simp[iR]at em
     subst hmn;cases r with
     |emp0=>
      simp only[hz,el,eh,em,aFl,Bool.and_false,Bool.false_and,cdf];rw[show(decide (0≤l.getD 0)&&decide (l.getD 0≤hh.getD ((0:Nat):Int))&&decide (hh.getD ((0:Nat):Int)≤((0:Nat):Int)))=true by simp;omega]
      exact⟨_,rfl,.emp0,fun h=>(by cases h)⟩
     |emp1 id off c rcs m hr=>
      simp only[hz,el,eh,em,aFl,Bool.and_false,Bool.false_and,cdf];rw[show(decide (0≤l.getD 0)&&decide (l.getD 0≤hh.getD ((0:Nat):Int))&&decide (hh.getD ((0:Nat):Int)≤((0:Nat):Int)))=true by simp;omega]
      have hl0:(l.getD 0).toNat=0:=by omega
      have hh0:(hh.getD ((0:Nat):Int)).toNat=0:=by simp;omega
      simp only[cdt,hl0,hh0];cases hrz:aAF σ id z with
      |false=>simp only[cdf];exact⟨_,rfl,.emp1 _ _ _ _ _ hr,fun h=>(by cases h)⟩
      |true=>
       simp only[cdt];cases hcc:Nat.beq c 0&&Nat.beq 0 0 with
       |true=>
        simp only[cdt];exact⟨_,rfl,.emp1 _ _ _ _ _ hr,fun h=>(by cases h)⟩
       |false=>
        simp only[cdf];exact⟨_,rfl,.emp1 _ _ _ _ _ hr,fun h=>(by cases h)⟩
     |emp2 b o s c=>
      simp only[hz,el,eh,em,aFl,Bool.and_false,Bool.false_and,cdf];rw[show(decide (0≤l.getD 0)&&decide (l.getD 0≤hh.getD ((0:Nat):Int))&&decide (hh.getD ((0:Nat):Int)≤((0:Nat):Int)))=true by simp;omega]
      exact⟨_,rfl,.emp2 _ _ _ _,fun h=>(by cases h)⟩
   ·rename_i z' es m';cases r with
    |sl _ _ id off c rcs mm hz1 hs hr hm1 hb hhr=>
     cases hc:Nat.beq z z'&&decide (0≤l.getD 0)&&decide (l.getD 0<hh.getD (es.length:Int))&&decide (hh.getD (es.length:Int)≤(es.length:Int))&&hh.isSome&&decide (hh.getD (es.length:Int)=m')with
     |false=>
      rw[hc,cdf]at h;cases hc2:List.isEmpty es&&(decide (0≤l.getD 0)&&decide (l.getD 0≤hh.getD 0)&&decide (hh.getD 0≤0)&&hh.isSome&&decide (m'=0))with
      |false=>rw[hc2,cdf]at h;cases h
      |true=>
       rw[hc2,cdt]at h;simp only[ojE,pjE]at h;obtain⟨rfl,rfl⟩:=h;simp only[bjE,djE,List.isEmpty_iff]at hc2;obtain⟨rfl,⟨⟨⟨hl0,hlh⟩,hh0⟩,his⟩,rfl⟩:=hc2;have hb:(decide (0≤l.getD 0)&&decide (l.getD 0≤hh.getD ((0:Nat):Int))&&decide (hh.getD ((0:Nat):Int)≤((0:Nat):Int)))=true:=by simp;omega
       have hq:(Nat.beq 0 0&&aFl (some 0)&&hh.isSome)=true:=by rw[his];rfl
       simp only[hz,el,eh,em,lnN,hb,hq,cdt];exact⟨_,rfl,.emp2 0 0 1 0,fun _=> .zer _ 0 0⟩
     |true=>
      rw[hc,cdt]at h;simp only[ojE,pjE]at h;obtain⟨rfl,rfl⟩:=h;simp only[bjE,djE]at hc;obtain⟨⟨⟨⟨⟨hzz,hl0⟩,hlh⟩,hhl⟩,his⟩,hhm⟩:=hc;have hzz:=nqE hzz;subst hzz;have hrz:aAF σ id z=true:=by simp only[aAF,hr.1,cJ,hm1];simp
      simp only[hz,el,eh,em,aFl,Bool.and_false,Bool.false_and,cdf,hrz,cdt];rw[show(decide (0≤l.getD 0)&&decide (l.getD 0≤hh.getD (es.length:Int))&&decide (hh.getD (es.length:Int)≤(es.length:Int)))=true by simp;omega]
      simp only[cdt];rw[show Nat.beq es.length 0=false by rw[cJ];exact decide_eq_false (by omega)]
      simp only[Bool.false_and,cdf];rw[show(decide (hh.getD (es.length:Int)=m')&&decide (l.getD 0<m')&&hh.isSome)=true by simp[his,hhm];omega]
      simp only[cdt];have r0:R ν σ (.sl z es) (.slice (some ⟨id,off,none⟩) es.length c):= .sl z es id off c rcs mm hz1 hs hr hm1 hb hhr;exact⟨_,rfl,R.sub r0 (by omega) (by omega) _,fun _=> .exact _ _ _ _ rcs mm hr⟩
   ·cases hc:decide (0≤l.getD 0)&&decide (l.getD 0≤hh.getD 0)&&decide (hh.getD 0≤0)with
    |false=>rw[hc,cdf]at h;cases h
    |true=>
     rw[hc,cdt]at h;simp only[ojE,pjE]at h;obtain⟨rfl,rfl⟩:=h;simp only[bjE,djE]at hc;have hmn:mx'=none:=by
      cases mx' with
      |none=>rfl
      |some w=>cases w<;>simp[iR]at em
     subst hmn;cases r with
     |nil=>
      simp only[hz,el,eh,em,aFl,Bool.and_false,Bool.false_and,cdf];rw[show(decide (0≤l.getD 0)&&decide (l.getD 0≤hh.getD ((0:Nat):Int))&&decide (hh.getD ((0:Nat):Int)≤((0:Nat):Int)))=true by simp;omega]
      exact⟨_,rfl,.emp0,fun h=>(by cases h)⟩
   ·rename_i m';cases hc:decide (0≤l.getD 0)&&decide (l.getD 0≤hh.getD 0)&&decide (hh.getD 0≤0)&&hh.isSome&&decide (m'=0)with
    |false=>rw[hc,cdf]at h;cases h
    |true=>
     rw[hc,cdt]at h;simp only[ojE,pjE]at h;obtain⟨rfl,rfl⟩:=h;simp only[bjE,djE]at hc;obtain⟨⟨⟨⟨hl0,hlh⟩,hh0⟩,his⟩,rfl⟩:=hc;have hb:(decide (0≤l.getD 0)&&decide (l.getD 0≤hh.getD ((0:Nat):Int))&&decide (hh.getD ((0:Nat):Int)≤((0:Nat):Int)))=true:=by simp;omega
     have hq:(Nat.beq 0 0&&aFl (some 0)&&hh.isSome)=true:=by rw[his];rfl
     cases r with
     |emp0=>simp only[hz,el,eh,em,hb,hq,cdt];exact⟨_,rfl,.emp0,fun _=> .nil _⟩
     |emp1 id off c rcs m hr=>simp only[hz,el,eh,em,hb,hq,cdt];exact⟨_,rfl,.emp2 0 0 1 0,fun _=> .zer _ 0 0⟩
     |emp2 b o s c=>simp only[hz,el,eh,em,hb,hq,cdt];exact⟨_,rfl,.emp2 0 0 1 0,fun _=> .zer _ 0 0⟩
   ·rename_i m';cases hc:decide (0≤l.getD 0)&&decide (l.getD 0≤hh.getD 0)&&decide (hh.getD 0≤0)&&hh.isSome&&decide (m'=0)with
    |false=>rw[hc,cdf]at h;cases h
    |true=>
     rw[hc,cdt]at h;simp only[ojE,pjE]at h;obtain⟨rfl,rfl⟩:=h;simp only[bjE,djE]at hc;obtain⟨⟨⟨⟨hl0,hlh⟩,hh0⟩,his⟩,rfl⟩:=hc;have hb:(decide (0≤l.getD 0)&&decide (l.getD 0≤hh.getD ((0:Nat):Int))&&decide (hh.getD ((0:Nat):Int)≤((0:Nat):Int)))=true:=by simp;omega
     have hq:(Nat.beq 0 0&&aFl (some 0)&&hh.isSome)=true:=by rw[his];rfl
     cases r with
     |nil=>simp only[hz,el,eh,em,hb,hq,cdt];exact⟨_,rfl,.emp0,fun _=> .nil _⟩
   ·cases h
  ·cases h
 ·cases h
end
end Go.PI
