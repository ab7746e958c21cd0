import Derived.Test.YtdjaoblfbbcpdaaGreatDoorKc
set_option linter.unusedVariables false
set_option linter.unusedSimpArgs false
set_option linter.constructorNameAsVariable false
set_option linter.defProp false
namespace Go.AI
section
variable{w0:W0}{P:Program}{Y:Mp}{H:St}{w:World}
def Av: ∀(xs cs:List Value) (off:Nat),(gQ cs off xs).length=cs.length
 |[],_,_=>rfl
 |x::xs,cs,off=>by rw[gQ,Av xs];simp
def aAa: ∀(xs cs:List Value) (off i:Nat),off+xs.length<=cs.length->(gQ cs off xs)[i]?=if off<=i/\i<off+xs.length then xs[i-off]? else cs[i]?:=by
 intro xs;induction xs with
 |nil=>intro cs off i _;rw[gQ,bH (by simp)]
 |cons x xs ih=>
  intro cs off i h;simp only[aM]at h;rw[gQ,ih _ _ _ (by simp;omega)]
  by_cases h1:off+1<=i/\i<off+1+xs.length
  .rw[bI h1,bI (by simp;omega)]
   rw[show i-off=(i-(off+1))+1 by omega];simp
  .rw[bH h1];by_cases h2:i=off
   .subst h2;rw[bI (by simp),List.getElem?_set_self (by omega)];simp
   .rw[bH (by simp;omega),List.getElem?_set_ne (by omega)]
def WA(l us:List Value)(a k:Nat)(h:a+us.length<=l.length):
    (l.take a++us++l.drop (a+us.length))[k]?=if a<=k/\k<a+us.length then us[k-a]? else l[k]?:=by
 have hl:(l.take a).length=a:=by simp;omega
 rw[aQ,List.getElem?_append];split
 .rename_i h1;rw[hl]at h1;rw[bH (by omega),List.getElem?_take,bI h1]
 .rename_i h1;rw[hl]at h1⊢;rw[List.getElem?_append];split
  .rename_i h2;rw[bI (by omega)]
  .rename_i h2;rw[bH (by omega),List.getElem?_drop]
   congr 1;omega
def DG(l us:List Value)(a:Nat)(h:a+us.length<=l.length):(l.take a++us++l.drop (a+us.length)).length=l.length:=by simp;omega
def RowAt.other{q:Place}{ds:List Value}{n:pM}(R:RowAt w0 Y w q ds n){b:Nat}{C C':Array Value}{t:TypeId}(hC:w.heap[b]?=some (.cells C t (0,0)))(ci:C'.size=C.size)
    (h:q.b=b->∀i,i<ds.length->C'[q.o+i]?=C[q.o+i]?):RowAt w0 Y (w.setRow b C') q ds n:=by
 obtain⟨⟨D,u,fr,hD,lz,cq⟩,h2,h3,h4,h5⟩:=R;refine⟨?_,h2,h3,h4,λhw C1 t1 fr1 e1=>?_⟩
 rotate_left
 .by_cases hb:q.b=b
  .rw[hb,setRow_heap w b C C' _ _ hC]at e1;cases e1;rfl
  .rw[setRow_other _ _ _ _ hb]at e1;exact h5 hw _ _ _ e1
 by_cases hb:q.b=b
 .rw[hb,hC]at hD;cases hD;refine⟨C',_,_,by rw[hb];exact setRow_heap w b C C' _ _ hC,λi v hi=>?_,λht=>by rw[ci];exact cq ht⟩
  obtain⟨u,hu,hr⟩:=lz i v hi;have bi:i<ds.length:=by
   rcases Nat.lt_or_ge i ds.length with h'|h'
   .exact h'
   .rw[List.getElem?_eq_none h']at hi;cases hi
  exact⟨u,by rw[h hb i bi];exact hu,hr⟩
 .exact⟨D,u,fr,by rw[setRow_other _ _ _ _ hb];exact hD,lz,cq⟩
def MapAt.other{q:Place}{es:List (Value×Value)}(R:MapAt w0 Y w q es){b:Nat}{C C':Array Value}{t:TypeId}(hC:w.heap[b]?=some (.cells C t (0,0))):MapAt w0 Y (w.setRow b C') q es:=by
 obtain⟨⟨ES,c,h,h1,h2⟩,h3⟩:=R;have hb:q.b≠b:=by intro e;rw[e,hC]at h;cases h
 exact⟨⟨ES,c,by rw[setRow_other _ _ _ _ hb];exact h,h1,h2⟩,h3⟩
def KeptO.setRow(K:KeptO w0 Y w){b:Nat}(hb:w0.heap.size<=b)(hbo: ∀k o,w0.O k=some o->b≠k)(C':Array Value):KeptO w0 Y (w.setRow b C'):=by
 refine⟨⟨K.os,K.output,by rw[setRow_size];exact K.size,λk hk=>by rw[setRow_other _ _ _ _ (by omega)];exact K.old k hk⟩,λk o hk=>?_,λid p h=>by rw[setRow_size];exact K.bnd id p h⟩
 .exact⟨by rw[setRow_other _ _ _ _ (Ne.symm (hbo k o hk))];exact(K.oth k o hk).1,(K.oth k o hk).2⟩
def Sim.write(S:Sim w0 P Y H w){id:Nat}{p:Place}{cs:List Value}{m m':pM}{H':St}{C:Array Value}{t:TypeId}(hp:Y id=some p)(hg:H.get id=some (.cells cs m))(bf:H.good m=true)
    (gk:m.wr=true) (hC:w.heap[p.b]?=some (.cells C t (0,0))) {off:Nat} {xs us:List Value} (hxs:VRL Y xs us) (hlen:off+xs.length<=cs.length)
    (hnext:H'.next=H.next) (hid:H'.get id=some (.cells (gQ cs off xs) m')) (bm: ∀k,k≠id->H'.get k=H.get k)
    (vu:m'.wr=m.wr/\m'.tip=m.tip/\m'.z=m.z/\(∀n,jP m' n↔jP m n)/\(∀n,jP n m'↔jP n m)) (hml:m'.lim=m.lim)
    (qv: ∀k ds n,k≠id->H.get k=some (.cells ds n)->H'.good n=true->H.good n=true/\(¬jP m n∨(m.tip=true/\m.lim<=off)))
    (hvers: ∀k ds n g v,H'.get k=some (.cells ds n)->n.grp=some (g,v)->v<=H'.ver g):
    Sim w0 P Y H' (w.setRow p.b (C.toList.take (p.o+off)++us++C.toList.drop (p.o+off+us.length)).toArray):=by
 have R:=S.row id p cs m hp hg bf;have hin:xs.length=0∨p.o+off+us.length<=C.toList.length:=by
  rcases Nat.eq_zero_or_pos xs.length with h|h
  .exact .inl h
  .right;obtain⟨D,u,fr,hD,lz,_⟩:=R.row;rw[hC]at hD;cases hD;have:off+xs.length-1<cs.length:=by omega
   obtain⟨x,hx,_⟩:=lz _ _ (aV this);have:=(Array.getElem?_eq_some_iff.1 hx).1;rw[<-hxs.1];simp;omega
 generalize hC':(C.toList.take (p.o+off)++us++C.toList.drop (p.o+off+us.length)).toArray=C';have bc: ∀k,C'[k]?=if p.o+off<=k/\k<p.o+off+us.length then us[k-(p.o+off)]? else C[k]?:=by
  intro k;rw[<-hC'];rcases hin with h|h
  .have hu:us=[]:=by have:=hxs.1;rw[h]at this;exact List.eq_nil_of_length_eq_zero this.symm
   subst hu;rw[bH (by simp)]
   simp
  .have:=WA C.toList us (p.o+off) k h;simpa using this
 have ci:C'.size=C.size:=by
  rw[<-hC'];rcases hin with h|h
  .have hu:us=[]:=by have:=hxs.1;rw[h]at this;exact List.eq_nil_of_length_eq_zero this.symm
   subst hu;simp
  .have:=DG C.toList us (p.o+off) h;simpa using this
 have xe:(gQ cs off xs).length=cs.length:=Av _ _ _;have Rid:RowAt w0 Y (w.setRow p.b C') p (gQ cs off xs) m':=by
  obtain⟨⟨D,u,fr,hD,lz,cq⟩,h2,h3,h4,h5⟩:=R;rw[hC]at hD;cases hD;refine⟨⟨C',_,_,setRow_heap w p.b C C' _ _ hC,λi v hi=>?_,λht=>?_⟩,λh=>h2 (vu.1▸h),λh=>by rw[xe];exact h3 (vu.2.1▸h),by rw[vu.2.2.1];exact h4,λ_ C1 t1 fr1 e1=>by rw[setRow_heap w p.b C C' _ _ hC]at e1;cases e1;rfl⟩
  .rw[aAa _ _ _ _ hlen]at hi;rw[bc];split at hi
   .rename_i h1;rw[bI (by have:=hxs.1;omega)]
    obtain⟨u,hu,hr⟩:=hxs.get hi;exact⟨u,by rw[show p.o+i-(p.o+off)=i-off by omega];exact hu,hr⟩
   .rename_i h1;rw[bH (by have:=hxs.1;omega)]
    exact lz i v hi
  .rw[ci];exact cq (vu.2.1▸ht)
 have Roth: ∀k q ds n,k≠id->Y k=some q->H.get k=some (.cells ds n)->H.good n=true->(¬jP m n∨(m.tip=true/\m.lim<=off))->RowAt w0 Y (w.setRow p.b C') q ds n:=by
  intro k q ds n hk hq hgk jf hs;refine(S.row k q ds n hq hgk jf).other hC ci (λhb i hi=>?_)
  rw[bc,bH];intro h1;rcases hs with hs|⟨ht,hl⟩
  .exact S.off id k p q cs ds m n (Ne.symm hk) hp hq hg hgk bf jf gk hs hb.symm (q.o+i) (by have:=hxs.1;omega) (by have:=hxs.1;omega) (by omega) (by omega)
  .exact S.lim id k p q cs ds m n (Ne.symm hk) hp hq hg hgk bf jf ht hb.symm (q.o+i) (by have:=hxs.1;omega) (by have:=hxs.1;omega) (by omega) (by omega)
 have old: ∀{k q ds n},k≠id->Y k=some q->H'.get k=some (.cells ds n)->H'.good n=true->H.get k=some (.cells ds n)/\H.good n=true/\(¬jP m n∨(m.tip=true/\m.lim<=off)):=by
  intro k q ds n hk hq bp hgd';rw[bm k hk]at bp;obtain⟨h1,h2⟩:=qv k ds n hk bp hgd';exact⟨bp,h1,h2⟩
 refine⟨S.kept.setRow (R.wr gk) (λk o hk=>(S.kept.oth k o hk).2 id p hp) C',λk hk=>S.dom k (hnext▸hk),S.glob,?_,?_,?_,?_,?_,hvers,?_⟩
 .intro k q ds n hq bp jf;by_cases hk:k=id
  .subst hk;rw[hp]at hq;cases hq;rw[hid]at bp;cases bp;exact Rid
  .obtain⟨h1,h2,h3⟩:=old hk hq bp jf;exact Roth k q ds n hk hq h1 h2 h3
 .intro k q es hq bp;have hk:k≠id:=by intro e;subst e;rw[hid]at bp;cases bp
  rw[bm k hk]at bp;exact(S.map k q es hq bp).other hC
 .intro i j a b as bs n1 n2 bn ha hb kt jg h1 h2 hw hs;by_cases hi:i=id
  .subst hi;rw[hp]at ha;cases ha;rw[hid]at kt;cases kt;obtain⟨g1,g2,g3⟩:=old (Ne.symm bn) hb jg h2;rw[xe];exact S.off i j p b cs bs m n2 bn hp hb hg g1 bf g2 gk (λh=>hs ((vu.2.2.2.1 n2).2 h))
  .obtain⟨f1,f2,f3⟩:=old hi ha kt h1;by_cases hj:j=id
   .subst hj;rw[hp]at hb;cases hb;rw[hid]at jg;cases jg;rw[xe];exact S.off i j a p as cs n1 m bn ha hp f1 hg f2 bf hw (λh=>hs ((vu.2.2.2.2 n1).2 h))
   .obtain⟨g1,g2,g3⟩:=old hj hb jg h2;exact S.off i j a b as bs n1 n2 bn ha hb f1 g1 f2 g2 hw hs
 .intro i j a b as bs n1 n2 bn ha hb kt jg h1 h2 hw;by_cases hi:i=id
  .subst hi;rw[hp]at ha;cases ha;rw[hid]at kt;cases kt;obtain⟨g1,g2,g3⟩:=old (Ne.symm bn) hb jg h2;rw[xe];exact S.tip i j p b cs bs m n2 bn hp hb hg g1 bf g2 (vu.2.1▸hw)
  .obtain⟨f1,f2,f3⟩:=old hi ha kt h1;by_cases hj:j=id
   .subst hj;rw[hp]at hb;cases hb;rw[hid]at jg;cases jg;rw[xe];have:=S.tip i j a p as cs n1 m bn ha hp f1 hg f2 bf hw;exact⟨this.1,λh=>this.2 (vu.2.1▸h)⟩
   .obtain⟨g1,g2,g3⟩:=old hj hb jg h2;exact S.tip i j a b as bs n1 n2 bn ha hb f1 g1 f2 g2 hw
 .intro i j a b es fs bn ha hb kt jg;have hi:i≠id:=by intro e;subst e;rw[hid]at kt;cases kt
  have hj:j≠id:=by intro e;subst e;rw[hid]at jg;cases jg
  rw[bm i hi]at kt;rw[bm j hj]at jg;exact S.maps i j a b es fs bn ha hb kt jg
 .intro i j a b as bs n1 n2 bn ha hb kt jg h1 h2 hw;by_cases hi:i=id
  .subst hi;rw[hp]at ha;cases ha;rw[hid]at kt;cases kt;obtain⟨g1,g2,g3⟩:=old (Ne.symm bn) hb jg h2;rw[xe,hml];exact S.lim i j p b cs bs m n2 bn hp hb hg g1 bf g2 (vu.2.1▸hw)
  .obtain⟨f1,f2,f3⟩:=old hi ha kt h1;by_cases hj:j=id
   .subst hj;rw[hp]at hb;cases hb;rw[hid]at jg;cases jg;rw[xe];exact S.lim i j a p as cs n1 m bn ha hp f1 hg f2 bf hw
   .obtain⟨g1,g2,g3⟩:=old hj hb jg h2;exact S.lim i j a b as bs n1 n2 bn ha hb f1 g1 f2 g2 hw
def GD(v:Value):v.oneCell'=one v:=by cases v<;>rfl
def aAS{t:TypeId}{a b x y:Value}{H':St}(S:Sim w0 P Y H w)(ra:VR Y a b)(rx:VR Y x y)(h:eT P H t a x=some H'):
    ∃w',(Instr.storeAt t b y).run P w= .ok () w'/\Sim w0 P Y H' w'/\H'.next=H.next:=by
 unfold eT at h;split at h<;>try cases h
 rename_i id off;obtain⟨p,hp,rfl⟩:=ra.ptr_inv;split at h<;>try cases h
 rename_i cs m n bh hn;obtain⟨hg,bf⟩:=St.row_some bh;cases hc:(m.wr&&Nat.beq x.cells.size n&&Nat.ble (off+n) cs.length&&x.cells.toList.all one)with
 |false=>rw[hc]at h;cases h
 |true=>
  rw[hc]at h;simp only[aC,BF,cR,aD]at hc;obtain⟨⟨⟨gk,ci⟩,hle⟩,fw⟩:=hc;simp only[aI]at h;have R:=S.row id p cs m hp hg bf;obtain⟨C,ty,fr,hC,hcs,_⟩:=R.row;have hfr:=R.fz gk C ty fr hC;subst hfr;have hxs:=rx.cells;have gu:x.cells.toList.length=n:=by simpa using ci
  have hone': ∀v∈y.cells.toList,v.oneCell'=true:=by
   intro v hv;rw[GD];have:=hxs.one_eq;rw[fw]at this;exact bJ.1 this v hv
  have ke:p.o+off+y.cells.toList.length<=C.size∨y.cells.toList=[]:=by
   rcases Nat.eq_zero_or_pos n with h0|h0
   .right;apply List.eq_nil_of_length_eq_zero;rw[<-hxs.1,gu,h0]
   .left;have:off+n-1<cs.length:=by omega
    obtain⟨u,hu,_⟩:=hcs _ _ (aV this);have:=(Array.getElem?_eq_some_iff.1 hu).1;rw[<-hxs.1,gu];omega
  have gc:(Instr.storeAt t (.pointer (some ⟨p.b,p.o+off,none⟩)) y).run P w=
        .ok () (w.setRow p.b (C.toList.take (p.o+off)++y.cells.toList++C.toList.drop (p.o+off+y.cells.toList.length)).toArray):=by
   unfold Instr.storeAt storeVar;have hsy: ¬(y.cells.size≠n):=by have:=hxs.size;omega
   simp only[Instr.sureAddr,Sem.run_bind,Sem.run_pure,Result.andThen_ok,iN (w:=w) (show cI P (Go.sizeOf t)=some n by rw[cU];exact hn),bH hsy]
   rcases ke with hf|hf
   .have:=run_storeCells_at P p.b (p.o+off) ty y.cells.toList 0 C w hC (by simpa using hf) hone'
    simpa using this
   .rw[hf];simp only[storeCells,bA,aX,Nat.add_zero,List.take_append_drop,Array.toArray_toList];rw[setRow_self w p.b C ty (0,0) hC];rfl
  refine⟨_,gc,?_⟩;cases jd:m.grp with
  |none=>
   simp only[jd,aA]at h;subst h;have qr: ∀n,¬jP m n:=λn ⟨g,v,v',e,_⟩=>by rw[jd]at e;cases e
   refine⟨S.write hp hg bf gk hC hxs (by rw[gu];exact hle) rfl (m':=m) (by rw[St.get_put,bI rfl]) (λk hk=>by rw[St.get_put,bH hk]) ⟨rfl,rfl,rfl,λ_=>Iff.rfl,λ_=>Iff.rfl⟩ rfl
    (λk ds n _ _ jf=>⟨jf,.inl (qr n)⟩) (λk ds n g v hk jc=>?_),rfl⟩
   rw[St.get_put]at hk;split at hk
   .cases hk;rw[jd]at jc;cases jc
   .exact S.vers k ds n g v hk jc
  |some gv=>
   obtain⟨g,v⟩:=gv;simp only[jd]at h;cases df:(m.tip&&Nat.ble m.lim off)with
   |true=>
    rw[df]at h;simp only[aI,aA]at h;subst h;simp only[aC,BF,aD]at df;refine⟨S.write hp hg bf gk hC hxs (by rw[gu];exact hle) rfl (m':=m) (by rw[St.get_put,bI rfl]) (λk hk=>by rw[St.get_put,bH hk]) ⟨rfl,rfl,rfl,λ_=>Iff.rfl,λ_=>Iff.rfl⟩ rfl
     (λk ds n _ _ jf=>⟨jf,.inr df⟩) (λk ds n g v hk jc=>?_),rfl⟩
    rw[St.get_put]at hk;split at hk
    .cases hk;exact S.vers id _ _ g v hg jc
    .exact S.vers k ds n g v hk jc
   |false=>
   rw[df]at h;simp only[aJ,aA]at h;subst h;have hver:H.ver g=v:=(St.good_iff H m).1 bf g v jd;refine⟨S.write hp hg bf gk hC hxs (by rw[gu];exact hle) rfl (m':={m with grp:=some (g,v+1)}) (by rw[St.get_bump,St.get_put,bI rfl]) (λk hk=>by rw[St.get_bump,St.get_put,bH hk])
    ⟨rfl,rfl,rfl,λn=>?_,λn=>?_⟩ rfl (λk ds n hk hgk jf=>?_) (λk ds n g' v' hk jc=>?_),rfl⟩
   .constructor
    .rintro⟨g1,v1,v2,e1,e2⟩;cases e1;exact⟨_,_,_,jd,e2⟩
    .rintro⟨g1,v1,v2,e1,e2⟩;rw[jd]at e1;cases e1;exact⟨_,_,_,rfl,e2⟩
   .constructor
    .rintro⟨g1,v1,v2,e1,e2⟩;cases e2;exact⟨_,_,_,e1,jd⟩
    .rintro⟨g1,v1,v2,e1,e2⟩;rw[jd]at e2;cases e2;exact⟨_,_,_,e1,rfl⟩
   .rw[St.good_iff]at jf;have rj: ∀v',n.grp≠some (g,v'):=by
     intro v' e;have h1:=jf g v' e;rw[St.ver_bump,bI rfl]at h1;have h2:=S.vers k ds n g v' hgk e;omega
    refine⟨(St.good_iff H n).2 λg' v' e=>?_,.inl ?_⟩
    .have h1:=jf g' v' e;rw[St.ver_bump]at h1;split at h1
     .rename_i eg;subst eg;exact absurd e (rj v')
     .exact h1
    .rintro⟨g1,v1,v2,e1,e2⟩;rw[jd]at e1;cases e1;exact rj v2 e2
   .rw[St.get_bump,St.get_put]at hk;rw[St.ver_bump];split at hk
    .cases hk;cases jc;rw[bI rfl];exact aS _
    .have:=S.vers k ds n g' v' hk jc;split
     .rename_i eg;subst eg;omega
     .exact this
end
end Go.AI
namespace Go.AI
section
variable{w0:W0}{P:Program}{Y:Mp}{H:St}{w:World}
def Sim.untip(S:Sim w0 P Y H w){id:Nat}{cs:List Value}{m:pM}(hg:H.get id=some (.cells cs m)):Sim w0 P Y (H.put id (.cells cs {m with tip:=false})) w:=by
 have bc: ∀{k ds n},(H.put id (.cells cs {m with tip:=false})).get k=some (.cells ds n)->∃n',H.get k=some (.cells ds n')/\n.wr=n'.wr/\n.z=n'.z/\n.grp=n'.grp/\(n.tip=true->n'.tip=true/\n.lim=n'.lim):=by
  intro k ds n h;rw[St.get_put]at h;split at h
  .rename_i e;subst e;cases h;exact⟨m,hg,rfl,rfl,rfl,λh=>by cases h⟩
  .exact⟨n,h,rfl,rfl,rfl,λh=>⟨h,rfl⟩⟩
 have mo: ∀{k es},(H.put id (.cells cs {m with tip:=false})).get k=some (.map es)->H.get k=some (.map es):=by
  intro k es h;rw[St.get_put]at h;split at h
  .cases h
  .exact h
 have bf: ∀{n n':pM},n.grp=n'.grp->H.good n=true->H.good n'=true:=by
  intro n n' e h;rw[St.good_iff]at h⊢;intro g v e';exact h g v (e.trans e')
 have cm: ∀{a a' b b':pM},a.grp=a'.grp->b.grp=b'.grp->jP a' b'->jP a b:=by
  rintro a a' b b' e1 e2 ⟨g,v,v',h1,h2⟩;exact⟨g,v,v',e1.trans h1,e2.trans h2⟩
 refine⟨S.kept,S.dom,S.glob,?_,?_,?_,?_,?_,?_,?_⟩
 .intro k q ds n hq h qv;obtain⟨n',h',e1,e2,e3,e4⟩:=bc h;obtain⟨⟨D,t,fr,hD,lz,cq⟩,h2,h3,h4,h5⟩:=S.row k q ds n' hq h' (bf e3 qv);exact⟨⟨D,t,fr,hD,lz,λht=>cq (e4 ht).1⟩,λhw=>h2 (e1▸hw),λht=>h3 (e4 ht).1,by rw[h4,e2],λhw=>h5 (e1▸hw)⟩
 .intro k q es hq h;exact S.map k q es hq (mo h)
 .intro i j a b as bs n1 n2 bn ha hb h1 h2 g1 g2 hw hs;obtain⟨m1,f1,a1,a2,a3,a4⟩:=bc h1;obtain⟨m2,f2,b1,b2,b3,b4⟩:=bc h2;exact S.off i j a b as bs m1 m2 bn ha hb f1 f2 (bf a3 g1) (bf b3 g2) (a1▸hw) (λh=>hs (cm a3 b3 h))
 .intro i j a b as bs n1 n2 bn ha hb h1 h2 g1 g2 hw;obtain⟨m1,f1,a1,a2,a3,a4⟩:=bc h1;obtain⟨m2,f2,b1,b2,b3,b4⟩:=bc h2;have:=S.tip i j a b as bs m1 m2 bn ha hb f1 f2 (bf a3 g1) (bf b3 g2) (a4 hw).1;exact⟨this.1,λh=>this.2 (b4 h).1⟩
 .intro i j a b es fs bn ha hb h1 h2;exact S.maps i j a b es fs bn ha hb (mo h1) (mo h2)
 .intro k ds n g v h e;obtain⟨n',h',_,_,e3,_⟩:=bc h;exact S.vers k ds n' g v h' (e3▸e)
 .intro i j a b as bs n1 n2 bn ha hb h1 h2 g1 g2 hw;obtain⟨m1,f1,a1,a2,a3,a4⟩:=bc h1;obtain⟨m2,f2,b1,b2,b3,b4⟩:=bc h2;rw[(a4 hw).2];exact S.lim i j a b as bs m1 m2 bn ha hb f1 f2 (bf a3 g1) (bf b3 g2) (a4 hw).1
def Sim.extend(S:Sim w0 P Y H w){id bv:Nat}{p:Place}{cs xs us:List Value}{m:pM}{C:Array Value}{t:TypeId}{off:Nat}(hp:Y id=some p)(hg:H.get id=some (.cells cs m))(bf:H.good m=true)
    (cq:m.tip=true) (gk:m.wr=true) (sw:m.grp.isSome=true) (hC:w.heap[p.b]?=some (.cells C t (0,0))) (jz:off<=cs.length) (hxs:VRL Y xs us) (ke:p.o+cs.length+xs.length<=p.e)
    (hid:Y bv=none) (bi:bv<H.next):
    Sim w0 P (upd Y bv ⟨p.b,p.o+off,p.e,p.z⟩) ((H.put id (.cells cs {m with tip:=false})).put bv (.cells (cs.drop off++xs) {m with lim:=(cs.drop off).length}))
      (w.setRow p.b (C.toList.take (p.o+cs.length)++us++C.toList.drop (p.o+cs.length+us.length)).toArray):=by
 have bm:bv≠id:=by intro e;subst e;rw[hid]at hp;cases hp
 have cb:=mK (⟨p.b,p.o+off,p.e,p.z⟩:Place) hid;have R:=S.row id p cs m hp hg bf;have hCe:p.e<=C.size:=by
  obtain⟨D,u,fr,hD,_,ht⟩:=R.row;rw[hC]at hD;cases hD;exact ht cq
 have hin:p.o+cs.length+us.length<=C.toList.length:=by have:=hxs.1;simp;omega
 generalize hC':(C.toList.take (p.o+cs.length)++us++C.toList.drop (p.o+cs.length+us.length)).toArray=C';have bc: ∀k,C'[k]?=if p.o+cs.length<=k/\k<p.o+cs.length+us.length then us[k-(p.o+cs.length)]? else C[k]?:=by
  intro k;rw[<-hC'];have:=WA C.toList us (p.o+cs.length) k hin;simpa using this
 have ci:C'.size=C.size:=by rw[<-hC'];have:=DG C.toList us (p.o+cs.length) hin;simpa using this
 have gi:=hxs.1;have ky:(cs.drop off++xs).length=cs.length-off+xs.length:=by simp
 have dt: ∀{k q ds n},upd Y bv ⟨p.b,p.o+off,p.e,p.z⟩ k=some q->((H.put id (.cells cs {m with tip:=false})).put bv (.cells (cs.drop off++xs) {m with lim:=(cs.drop off).length})).get k=some (.cells ds n)->
      (k=bv/\q=⟨p.b,p.o+off,p.e,p.z⟩/\ds=cs.drop off++xs/\n={m with lim:=(cs.drop off).length})∨(k=id/\q=p/\ds=cs/\n={m with tip:=false})∨(k≠bv/\k≠id/\Y k=some q/\H.get k=some (.cells ds n)):=by
  intro k q ds n hq h;by_cases e:k=bv
  .subst e;rw[kW]at hq;cases hq;rw[St.get_put,bI rfl]at h;cases h;exact .inl ⟨rfl,rfl,rfl,rfl⟩
  .rw[jE e]at hq;rw[St.get_put,bH e,St.get_put]at h;by_cases e2:k=id
   .subst e2;rw[hp]at hq;cases hq;rw[bI rfl]at h;cases h;exact .inr (.inl ⟨rfl,rfl,rfl,rfl⟩)
   .rw[bH e2]at h;exact .inr (.inr ⟨e,e2,hq,h⟩)
 have hcaseM: ∀{k q es},upd Y bv ⟨p.b,p.o+off,p.e,p.z⟩ k=some q->((H.put id (.cells cs {m with tip:=false})).put bv (.cells (cs.drop off++xs) {m with lim:=(cs.drop off).length})).get k=some (.map es)->Y k=some q/\H.get k=some (.map es):=by
  intro k q es hq h;rw[St.get_put]at h;split at h
  .cases h
  .rename_i e;rw[jE e]at hq;rw[St.get_put]at h;split at h
   .cases h
   .exact⟨hq,h⟩
 have hsg:jP m {m with tip:=false}:=by
  obtain⟨⟨g,v⟩,e⟩:=Option.isSome_iff_exists.1 sw;exact⟨g,v,v,e,e⟩
 have hsg':jP {m with tip:=false} m:=by
  obtain⟨⟨g,v⟩,e⟩:=Option.isSome_iff_exists.1 sw;exact⟨g,v,v,e,e⟩
 refine⟨(S.kept.upd (id:=bv) (q:=⟨p.b,p.o+off,p.e,p.z⟩) (λk o hk=>(S.kept.oth k o hk).2 id p hp) (S.kept.bnd id p hp)).setRow (R.wr gk) (λk o hk=>(S.kept.oth k o hk).2 id p hp) C',?_,?_,?_,?_,?_,?_,?_,?_,?_⟩
 .intro k hk;have jb:H.next<=k:=hk
  rw[jE (by omega)];exact S.dom k jb
 .intro g bp;obtain⟨q,hq,h1,h2⟩:=S.glob g bp;exact⟨q,cb g q hq,h1,h2⟩
 .intro k q ds n hq h qv;rcases dt hq h with⟨rfl,rfl,rfl,rfl⟩|⟨rfl,rfl,rfl,rfl⟩|⟨h1,h2,ge,h'⟩
  .obtain⟨⟨D,u,fr,hD,lz,_⟩,h2,h3,h4,h5⟩:=R;rw[hC]at hD;cases hD;refine⟨⟨C',_,_,setRow_heap w p.b C C' _ _ hC,λi v hi=>?_,λ_=>by rw[ci];exact hCe⟩,h2,λ_=>by rw[ky];show p.o+off+_<=p.e;omega,h4,λ_ C1 t1 fr1 e1=>by have e2:=(setRow_heap w p.b C C' _ _ hC).symm.trans e1;cases e2;rfl⟩
   show∃u,C'[p.o+off+i]?=some u/\_;rw[bc];rw[List.getElem?_append]at hi;split at hi
   .rename_i hl;rw[List.length_drop]at hl;rw[bH (by omega)]
    rw[List.getElem?_drop]at hi;obtain⟨u,hu,hr⟩:=lz _ _ hi;exact⟨u,by rw[show p.o+off+i=p.o+(off+i) by omega];exact hu,hr.mono' cb⟩
   .rename_i hl;rw[List.length_drop]at hl hi;have rt:i-(cs.length-off)<xs.length:=by
     rcases Nat.lt_or_ge (i-(cs.length-off)) xs.length with h'|h'
     .exact h'
     .rw[List.getElem?_eq_none h']at hi;cases hi
    rw[bI (by omega)]
    obtain⟨u,hu,hr⟩:=hxs.get hi;exact⟨u,by rw[show p.o+off+i-(p.o+cs.length)=i-(cs.length-off) by omega];exact hu,hr.mono' cb⟩
  .obtain⟨⟨D,u,fr,hD,lz,_⟩,h2,h3,h4,h5⟩:=R;rw[hC]at hD;cases hD;refine⟨⟨C',_,_,setRow_heap w q.b C C' _ _ hC,λi v hi=>?_,λht=>by cases ht⟩,h2,(λht=>by cases ht),h4,λ_ C1 t1 fr1 e1=>by have e2:=(setRow_heap w q.b C C' _ _ hC).symm.trans e1;cases e2;rfl⟩
   have hil:i<ds.length:=by
    rcases Nat.lt_or_ge i ds.length with h'|h'
    .exact h'
    .rw[List.getElem?_eq_none h']at hi;cases hi
   rw[bc,bH (by omega)]
   obtain⟨u,hu,hr⟩:=lz i v hi;exact⟨u,hu,hr.mono' cb⟩
  .have Rk:=(S.row k q ds n ge h' qv).other hC ci (λhb i hi=>by
    rw[bc,bH];intro h3;exact(S.tip id k p q cs ds m n (Ne.symm h2) hp ge hg h' bf qv cq).1 hb.symm (q.o+i) (by omega) (by omega) (by omega) (by omega))
   obtain⟨⟨D,u,fr,hD,lz,ht⟩,g2,g3,g4,g5⟩:=Rk;exact⟨⟨D,u,fr,hD,λi v hi=>let ⟨u,hu,hr⟩:=lz i v hi;⟨u,hu,hr.mono' cb⟩,ht⟩,g2,g3,g4,g5⟩
 .intro k q es hq h;obtain⟨ge,h'⟩:=hcaseM hq h;obtain⟨⟨ES,c,h1,h2,h3⟩,h4⟩:=(S.map k q es ge h').other hC (C':=C');exact⟨⟨ES,c,h1,h2.mono' cb,h3.mono' cb⟩,h4⟩
 .intro i j a b as bs n1 n2 bn ha hb h1 h2 g1 g2 hw hs;rcases dt ha h1 with⟨rfl,rfl,rfl,rfl⟩|⟨rfl,rfl,rfl,rfl⟩|⟨i1,i2,cx,h1'⟩
  .rcases dt hb h2 with⟨rfl,_⟩|⟨rfl,rfl,rfl,rfl⟩|⟨j1,j2,bu,h2'⟩
   .exact absurd rfl bn
   .exact absurd hsg hs
   .intro hbb x x1 x2 x3 x4;rw[ky]at x2;simp only at x1 x2 hbb;by_cases hx:x<p.o+cs.length
    .exact S.off id j p b cs bs m n2 (Ne.symm j2) hp bu hg h2' bf g2 gk hs hbb x (by omega) hx x3 x4
    .exact(S.tip id j p b cs bs m n2 (Ne.symm j2) hp bu hg h2' bf g2 cq).1 hbb x (by omega) (by omega) x3 x4
  .rcases dt hb h2 with⟨rfl,rfl,rfl,rfl⟩|⟨rfl,_⟩|⟨j1,j2,bu,h2'⟩
   .exact absurd hsg' hs
   .exact absurd rfl bn
   .exact S.off i j _ b _ bs m n2 bn hp bu hg h2' bf g2 gk (λh=>hs (by obtain⟨g,v,v',e1,e2⟩:=h;exact⟨g,v,v',e1,e2⟩))
  .rcases dt hb h2 with⟨rfl,rfl,rfl,rfl⟩|⟨rfl,rfl,rfl,rfl⟩|⟨j1,j2,bu,h2'⟩
   .intro hbb x x1 x2 x3 x4;rw[ky]at x4;simp only at x3 x4 hbb;by_cases hx:x<p.o+cs.length
    .exact S.off i id a p as cs n1 m i2 cx hp h1' hg g1 bf hw hs hbb x x1 x2 (by omega) hx
    .exact(S.tip id i p a cs as m n1 (Ne.symm i2) hp cx hg h1' bf g1 cq).1 hbb.symm x (by omega) (by omega) x1 x2
   .exact S.off i j a b as bs n1 m bn cx hp h1' hg g1 bf hw (λh=>hs (by obtain⟨g,v,v',e1,e2⟩:=h;exact⟨g,v,v',e1,e2⟩))
   .exact S.off i j a b as bs n1 n2 bn cx bu h1' h2' g1 g2 hw hs
 .intro i j a b as bs n1 n2 bn ha hb h1 h2 g1 g2 hw;rcases dt ha h1 with⟨rfl,rfl,rfl,rfl⟩|⟨rfl,rfl,rfl,rfl⟩|⟨i1,i2,cx,h1'⟩
  .rcases dt hb h2 with⟨rfl,_⟩|⟨rfl,rfl,rfl,rfl⟩|⟨j1,j2,bu,h2'⟩
   .exact absurd rfl bn
   .refine⟨λhbb x x1 x2 x3 x4=>?_,(λh=>by cases h)⟩
    rw[ky]at x1;simp only at x1;omega
   .have T:=S.tip id j p b cs bs m n2 (Ne.symm j2) hp bu hg h2' bf g2 cq;refine⟨λhbb x x1 x2 x3 x4=>?_,λht hbb x x1 x2 x3 x4=>?_⟩
    .rw[ky]at x1;simp only at x1 x2 hbb;exact T.1 hbb x (by omega) x2 x3 x4
    .rw[ky]at x1;simp only at x1 x2 hbb;exact T.2 ht hbb x (by omega) x2 x3 x4
  .cases hw
  .rcases dt hb h2 with⟨rfl,rfl,rfl,rfl⟩|⟨rfl,rfl,rfl,rfl⟩|⟨j1,j2,bu,h2'⟩
   .have T:=S.tip i id a p as cs n1 m i2 cx hp h1' hg g1 bf hw;refine⟨λhbb x x1 x2 x3 x4=>?_,λht hbb x x1 x2 x3 x4=>?_⟩
    .rw[ky]at x4;simp only at x3 x4 hbb;by_cases hx:x<p.o+cs.length
     .exact T.1 hbb x x1 x2 (by omega) hx
     .exact T.2 cq hbb x x1 x2 (by omega) (by omega)
    .rw[ky]at x3;simp only at x3 x4 hbb;exact T.2 cq hbb x x1 x2 (by omega) x4
   .have T:=S.tip i j a b as bs n1 m bn cx hp h1' hg g1 bf hw;exact⟨T.1,(λh=>by cases h)⟩
   .exact S.tip i j a b as bs n1 n2 bn cx bu h1' h2' g1 g2 hw
 .intro i j a b es fs bn ha hb h1 h2;obtain⟨a1,a2⟩:=hcaseM ha h1;obtain⟨b1,b2⟩:=hcaseM hb h2;exact S.maps i j a b es fs bn a1 b1 a2 b2
 .intro k ds n g v h e;rw[St.get_put]at h;split at h
  .cases h;exact S.vers id _ _ g v hg e
  .rw[St.get_put]at h;split at h
   .cases h;exact S.vers id _ _ g v hg e
   .exact S.vers k ds n g v h e
 .intro i j a b as bs n1 n2 bn ha hb h1 h2 g1 g2 hw;rcases dt ha h1 with⟨rfl,rfl,rfl,rfl⟩|⟨rfl,rfl,rfl,rfl⟩|⟨i1,i2,cx,h1'⟩
  .rcases dt hb h2 with⟨rfl,_⟩|⟨rfl,rfl,rfl,rfl⟩|⟨j1,j2,bu,h2'⟩
   .exact absurd rfl bn
   .intro hbb x x1 x2 x3 x4;simp only[List.length_drop]at x1;omega
   .intro hbb x x1 x2 x3 x4;rw[ky]at x2;simp only[List.length_drop]at x1 x2 hbb;exact(S.tip id j p b cs bs m n2 (Ne.symm j2) hp bu hg h2' bf g2 cq).1 hbb x (by omega) (by omega) x3 x4
  .cases hw
  .rcases dt hb h2 with⟨rfl,rfl,rfl,rfl⟩|⟨rfl,rfl,rfl,rfl⟩|⟨j1,j2,bu,h2'⟩
   .intro hbb x x1 x2 x3 x4;rw[ky]at x4;simp only at x3 x4 hbb;by_cases hx:x<p.o+cs.length
    .exact S.lim i id a p as cs n1 m i2 cx hp h1' hg g1 bf hw hbb x x1 x2 (by omega) hx
    .exact(S.tip id i p a cs as m n1 (Ne.symm i2) hp cx hg h1' bf g1 cq).1 hbb.symm x (by omega) (by omega) (by omega) x2
   .exact S.lim i j a b as bs n1 m bn cx hp h1' hg g1 bf hw
   .exact S.lim i j a b as bs n1 n2 bn cx bu h1' h2' g1 g2 hw
def S7{z:Nat}{x x':Value}{n:Nat}{xs:List Value}{t1:TypeId}{u:TypeDesc}(S:Sim w0 P Y H w)(r:VR Y x x')(hu:P.underlying t1=some u)
    (hk:Gd u x=true) (fw:xs.all one=true) (h:tB H z x=some (n,xs)):
    ∃news,Src P z t1 x' n news w/\VRL Y xs news:=by
 unfold tB at h;split at h<;>try cases h
 .obtain⟨rfl,rfl,rfl⟩:=r.nilslc_inv;cases u<;>simp only[Gd,gO,bD,Bool.false_eq_true]at hk;exact⟨[],Src.ofNil w hu 0,.nil⟩
 .rename_i id off len c;split at h<;>try cases h
  rename_i cs m' bh;rw[aF]at h;obtain⟨l,hl,he⟩:=h;cases he;obtain⟨hg,bf⟩:=St.row_some bh;obtain⟨p,cap,hp,rfl,_⟩:=r.slc_inv;obtain⟨C,ty,fr,hC,hcs,_⟩:=(S.row id p cs _ hp hg bf).row;obtain⟨rfl,hle⟩:=AX hl;have hv:=C5 hcs hle;cases u<;>simp only[Gd,gO,bD,Bool.false_eq_true]at hk;refine⟨_,Src.ofSlice w hu _ n cap _ (by rw[<-hv.1];simp;omega) (λj v hj=>?_) (λv fc=>?_),hv⟩
  .rw[jN,Dd hC];rw[List.getElem?_take]at hj;split at hj
   .rw[List.getElem?_drop]at hj;simpa using hj
   .cases hj
  .rw[GD];have:=hv.one_eq;rw[fw]at this;exact bJ.1 this v fc
 .rename_i s;obtain rfl:=r.string_inv;rw[cR,Bool.cond_decide]at h;split at h
  .rename_i hz;cases h;subst hz;cases u<;>simp only[Gd,gO,Bool.not_false,Bool.false_eq_true]at hk;refine⟨_,Src.ofString w hu s,VRL.same ?_⟩;rw[bJ];intro v hv;obtain⟨_,_,rfl⟩:=List.mem_map.1 hv;rfl
  .cases h
 .cases r with
  |same _ hp=>simp[bN]at hp
  |emp a s cap h=>
   cases u<;>simp only[Gd,gO,bD,Bool.false_eq_true]at hk;exact⟨[],Src.ofSlice w hu a 0 cap [] (by simp) (λj v hj=>by simp at hj) (λv fc=>by simp at fc),.nil⟩
def aCl{t tx ty e:TypeId}{i:TypeInfo}(ht:P.underlying t=some (.slice e))(hi:P.info? e=some i){b off sLen sCap:Nat}{x:Value}{n:Nat}{news:List Value}(hs:Src P i.size tx x n news w)
    (jt:sLen+n<=sCap) {cur:Array Value} {te:TypeId} (hC:w.heap[b]?=some (.cells cur te (0,0))) (ke:off+sLen*i.size+news.length<=cur.size):
    (Builtin.append_ #[t,tx] ty #[.slice (some ⟨b,off,none⟩) sLen sCap,x]).run P w=
      .ok (.slice (some ⟨b,off,none⟩) (sLen+n) sCap) (w.setRow b (cur.toList.take (off+sLen*i.size)++news++cur.toList.drop (off+sLen*i.size+news.length)).toArray):=by
 have cf:=run_storeCells_at P b (off+sLen*i.size) te news 0 cur w hC (by simpa using ke) hs.one
 simp only[Nat.add_zero]at cf;rcases hs.kind with⟨e',hk⟩|hk<;>simp[Builtin.append_,run_underlying ht,run_underlying hk,Go.sizeOf,typeInfo,hi,hs.len,jt,hs.cells,Addr.add_lit,cf]
def Dh(z:Array Value)(n:Nat):(Builtin.zeroCells z n).size=n*z.size:=by simp[Builtin.zeroCells]
def Db{t tx ty e:TypeId}{i:TypeInfo}{z:Value}(S:Sim w0 P Y H w)(ht:P.underlying t=some (.slice e))(hi:P.info? e=some i)(hz:i.zero=some z)(jk:z.cells.size=i.size)
    {base:Option Addr} {sLen sCap:Nat} {old olds:List Value} (hold:(Builtin.firstCells i.size sLen (.slice base sLen sCap)).run P w.drew= .ok olds.toArray w.drew) (vm:olds.length=sLen*i.size) (hor:VRL Y old olds)
    {x:Value} {n:Nat} {xs news:List Value} (hs:Src P i.size tx x n news w) (qq:VRL Y xs news) (hg:sCap<sLen+n) (hb1:1<=i.bytes) (hb:(sLen+n)*i.bytes<=1073741824)
    {bv:Nat} {mt:pM} (hid:Y bv=none) (bi:bv<H.next) (hmt:mt.z=i.size) (fi:H.get bv=some (.cells (old++xs) mt)):
    ∃v' w' p,(Builtin.append_ #[t,tx] ty #[.slice base sLen sCap,x]).run P w= .ok v' w'/\VR (upd Y bv p) (.slice (some ⟨bv,0,none⟩) (sLen+n) (sLen+n+1)) v'/\Sim w0 P (upd Y bv p) H w':=by
 have ky:sLen+n<=(sLen+n)*i.bytes:=Nat.le_mul_of_pos_right _ (by omega)
 have gc:=run_append_grow_src w t tx ty e i z ht hi hz base sLen sCap olds hold x n news hs hg (by omega) (growslice_fits hg (by omega))
 have fk:=grownCap_ge w (sLen+n) sCap e;refine⟨_,_,⟨w.heap.size,0,grownCap w (sLen+n) sCap e*i.size,i.size⟩,gc,.slc bv 0 _ _ _ _ (kW _ _ _) (λe=>by omega) fk (.inl (by simp)),?_⟩
 refine(S.drawn (w.drawn+1)).alloc hid bi fi ⟨_,e,rfl,λj v hj=>?_,λ_=>?_,by simp[hmt]⟩ rfl rfl
 .obtain⟨u,hu,hr⟩:=(hor.append qq).get hj;refine⟨u,?_,hr⟩;have wa:j<(olds++news).length:=by
   rcases Nat.lt_or_ge j (olds++news).length with h'|h'
   .exact h'
   .rw[List.getElem?_eq_none h']at hu;cases hu
  rw[Array.getElem?_append_left (by simpa using wa)]
  simpa using hu
 .constructor
  .rw[(hor.append qq).1];simp only[aZ,vm,hs.newsLen,<-Nat.add_mul];exact Nat.mul_le_mul_right _ fk
  .simp only[Array.size_append,List.size_toArray,aZ,vm,hs.newsLen,Dh,jk,<-Nat.add_mul];exact Nat.mul_le_mul_right _ (by omega)
def S6{c:Call}{ty:TypeId}{s s' x x' v:Value}{H':St}{bv:Nat}(S:Sim w0 P Y H w)(rs:VR Y s s')(rx:VR Y x x')(hid:Y bv=none)(bi:bv<H.next)(h:mQ P H bv c s x=some (v,H')):
    ∃v' w' Y',(Builtin.append_ c.argTypes ty #[s',x']).run P w= .ok v' w'/\VR Y' v v'/\Sim w0 P Y' H' w'/\(∀k p,Y k=some p->Y' k=some p)/\(∀k,k≠bv->Y' k=Y k)/\H'.next=H.next:=by
 unfold mQ at h;split at h<;>try cases h
 rename_i t t1 kj;have hts':c.argTypes= #[t,t1]:=by
  apply Array.toList_inj.1;rw[kj]
 rw[hts'];split at h<;>try cases h
 rename_i e u hu hu1;cases hk:Gd u x with
 |false=>rw[hk]at h;cases h
 |true=>
  rw[hk]at h;simp only[aI]at h;split at h<;>try cases h
  rename_i info hi;split at h<;>try cases h
  rename_i n xs z pm hz;cases hc:(xs.all one&&Nat.ble 1 info.size&&Nat.ble 1 info.bytes&&Nat.beq z.cells.size info.size&&gO s)with
  |false=>rw[hc]at h;cases h
  |true=>
   rw[hc]at h;simp only[aC,BF,cR,aD]at hc;obtain⟨⟨⟨⟨fw,hz1⟩,hb1⟩,jk⟩,cy⟩:=hc;simp only[aI]at h;obtain⟨news,hs,qq⟩:=S7 S rx hu1 hk fw pm;rw[cR,Bool.cond_decide]at h;split at h
   .rename_i hn;subst hn;simp only[aA,aB]at h;obtain⟨rfl,rfl⟩:=h;have hnews:news=[]:=by have:=hs.newsLen;simpa using this
    subst hnews;cases s<;>simp only[gO,Bool.false_eq_true]at cy;rename_i a l c';refine⟨s',w,Y,?_,rs,S,λ_ _ h=>h,λ_ _=>rfl,rfl⟩
    have: ∃base len cap,s'= .slice base len cap/\len<=cap:=by
     cases a with
     |none=>obtain⟨rfl,rfl,rfl⟩:=rs.nilslc_inv;exact⟨none,0,0,rfl,aS _⟩
     |some a=>
      cases rs with
      |same _ h=>simp[bN]at h
      |slc id off len c cap p h hc hl he=>exact⟨_,_,_,rfl,hl⟩
      |emp a s cap h=>exact⟨_,_,_,rfl,Nat.zero_le _⟩
    obtain⟨base,len,cap,rfl,hle⟩:=this;exact run_append_nothing w t t1 ty e info hu hi base len cap hle x' hs
   .rename_i hn;unfold mC at h;split at h<;>try cases h
    ·
     obtain⟨rfl,rfl,rfl⟩:=rs.nilslc_inv;rw[BF,Bool.cond_decide]at h;split at h
     .rename_i hb;simp only[aA,aB]at h;obtain⟨rfl,rfl⟩:=h;have S1:Sim w0 P Y (H.put bv (.cells xs (gM info.size bv))) w:=S.put_new hid (λcs m g v e1 e2=>by cases e1;simp only[gM,aA,aB]at e2;omega)
      obtain⟨v',w',p,h1,h2,h3⟩:=Db (ty:=ty) S1 hu hi hz jk (base:=none) (sLen:=0) (sCap:=0) (old:=[]) (olds:=[]) (run_firstCells_none _ _ _ _ _) (by simp) .nil hs qq (by omega) hb1 (by simpa using hb) hid bi (mt:=gM info.size bv) rfl
       (by rw[St.get_put,bI rfl];rfl)
      refine⟨v',w',_,h1,by simpa using h2,h3,mK p hid,λk hk=>jE hk,rfl⟩
     .cases h
    .rename_i id off len k;obtain⟨p,cap,hp,rfl,ql,hlc,he⟩:=rs.slc_inv;rw[BF,Bool.cond_decide]at h;split at h
     .rename_i hb;split at h<;>try cases h
      rename_i cs m bh;obtain⟨hg,bf⟩:=St.row_some bh;have R:=S.row id p cs m hp hg bf;obtain⟨C,te,fr,hC,hcs,htipC⟩:=R.row;split at h<;>try cases h
      rename_i old xm;obtain⟨rfl,hle⟩:=AX xm;have hor:=C5 hcs hle;have vm:((C.toList.drop (p.o+off)).take (len*info.size)).length=len*info.size:=by rw[<-hor.1];simp;omega
      have hold:(Builtin.firstCells info.size len (.slice (some ⟨p.b,p.o+off,none⟩) len cap)).run P w.drew= .ok ((C.toList.drop (p.o+off)).take (len*info.size)).toArray w.drew:=
       run_firstCells_some _ _ _ _ _ _ _ vm (λj v hj=>by
        rw[jN,Dd (w:=w.drew) (show w.drew.heap[p.b]?=_ from hC)]
        rw[List.getElem?_take]at hj;split at hj
        .rw[List.getElem?_drop]at hj;simpa using hj
        .cases hj)
      rw[cR,Bool.cond_decide]at h;split at h
      ·
       rename_i hkl;have fk:=ql hkl;simp only[aA,aB]at h;obtain⟨rfl,rfl⟩:=h;have S1:Sim w0 P Y (H.put bv (.cells ((cs.drop off).take (len*info.size)++xs) (gM info.size bv))) w:=S.put_new hid (λcs m g v e1 e2=>by cases e1;simp only[gM,aA,aB]at e2;omega)
       obtain⟨v',w',q,h1,h2,h3⟩:=Db (ty:=ty) S1 hu hi hz jk hold vm hor hs qq (by omega) hb1 hb hid bi (mt:=gM info.size bv) rfl (by rw[St.get_put,bI rfl])
       exact⟨v',w',_,h1,h2,h3,mK q hid,λk hk=>jE hk,rfl⟩
      .cases hc2:(m.tip&&m.wr&&Nat.beq m.z info.size&&Nat.beq (off+len*info.size) cs.length&&m.grp.isSome)with
       |false=>rw[hc2]at h;cases h
       |true=>
        rw[hc2]at h;simp only[aC,cR,aD]at hc2;obtain⟨⟨⟨⟨cq,gk⟩,lq⟩,hend⟩,sw⟩:=hc2;simp only[aI,aA,aB]at h;obtain⟨rfl,rfl⟩:=h;have gh:(cs.drop off).take (len*info.size)=cs.drop off:=List.take_of_length_le (by simp;omega)
        have wv:p.z=info.size:=R.z.trans lq;by_cases jt:len+n<=cap
        ·
         have hfr:=R.fz gk C te fr hC;subst hfr;have gu:xs.length=n*info.size:=by rw[qq.1];exact hs.newsLen
         have hmul:(len+n)*info.size<=cap*info.size:=Nat.mul_le_mul_right _ jt;rw[Nat.add_mul]at hmul;have htl:=R.tip cq;have he:p.o+off+cap*info.size<=p.e:=by
          rw[wv]at he;rcases he with he|he
          .exact he
          .rw[he]at hend⊢;omega
         have ke:p.o+cs.length+xs.length<=p.e:=by rw[gu];omega
         have hCe:=htipC cq;have gc:=aCl (ty:=ty) hu hi hs jt hC (off:=p.o+off) (by rw[hs.newsLen];omega)
         have hpos:p.o+off+len*info.size=p.o+cs.length:=by omega
         rw[hpos]at gc;refine⟨_,_,upd Y bv ⟨p.b,p.o+off,p.e,p.z⟩,gc,?_,?_,mK _ hid,λk hk=>jE hk,rfl⟩
         .exact .slc bv 0 (len+n) (len+n+1) cap _ (kW _ _ _) (λe=>by omega) jt (.inl (by rw[wv];simp;omega))
         .rw[gh];exact S.extend hp hg bf cq gk sw hC (by omega) qq ke hid bi
        ·
         have bm:bv≠id:=by intro e;subst e;rw[hid]at hp;cases hp
         have S1:Sim w0 P Y ((H.put id (.cells cs {m with tip:=false})).put bv (.cells ((cs.drop off).take (len*info.size)++xs) {m with lim:=((cs.drop off).take (len*info.size)).length})) w:=
          (S.untip hg).put_new hid (λde m' g v e1 e2=>by cases e1;exact S.vers id cs m g v hg e2)
         obtain⟨v',w',q,h1,h2,h3⟩:=Db (ty:=ty) S1 hu hi hz jk hold vm hor hs qq (by omega) hb1 hb hid bi (mt:={m with lim:=((cs.drop off).take (len*info.size)).length}) lq (by rw[St.get_put,bI rfl])
         exact⟨v',w',_,h1,h2,h3,mK q hid,λk hk=>jE hk,rfl⟩
     .cases h
    ·
     rename_i b0 o0 s0 len k;cases hb0:(Nat.beq s0 1&&Nat.ble (n*info.bytes) 1073741824)with
     |false=>rw[hb0]at h;cases h
     |true=>
      rw[hb0]at h;simp only[aC,cR,BF,aD]at hb0;simp only[aI,aA,aB]at h;obtain⟨rfl,rfl⟩:=h;cases rs with
      |same _ h=>simp[bN]at h
      |emp a s cap fk=>
       obtain rfl:=fk hb0.1;have S1:Sim w0 P Y (H.put bv (.cells xs (gM info.size bv))) w:=S.put_new hid (λcs m g v e1 e2=>by cases e1;simp only[gM,aA,aB]at e2;omega)
       obtain⟨v',w',p,h1,h2,h3⟩:=Db (ty:=ty) S1 hu hi hz jk (base:=some a) (sLen:=0) (sCap:=0) (old:=[]) (olds:=[]) (run_firstCells_some _ _ _ _ _ _ ([]:List Value) (by simp) (λj v hj=>by simp at hj)) (by simp) .nil hs qq (by omega) hb1 (by simpa using hb0.2) hid bi (mt:=gM info.size bv) rfl
        (by rw[St.get_put,bI rfl];rfl)
       refine⟨v',w',_,h1,by simpa using h2,h3,mK p hid,λk hk=>jE hk,rfl⟩
end
end Go.AI
namespace Go.AI
section
variable{w0:W0}{P:Program}{Y:Mp}{H:St}{w:World}
structure AR(Y:Mp)(S:Slots)(α:Nat)(a:Act):Prop where
 size:α<=a.tmps.size
 defers:a.defers=[]
 slot: ∀i,VR Y (S.at i) (a.tmps.getD i undef)
def AR.mono{S:Slots}{α:Nat}{a:Act}{Y':Mp}(A:AR Y S α a)(h: ∀k p,Y k=some p->Y' k=some p):AR Y' S α a:=⟨A.size,A.defers,λi=>(A.slot i).mono' h⟩
def Slots.at_store(S:Slots)(d:Option Tmp)(v:Value)(i:Nat):(S.store d v).at i=if d=some i then v else S.at i:=by
 cases d with
 |none=>simp[Slots.store]
 |some d=>
  simp only[Slots.store,Slots.at,Tr.get_set,aA];by_cases e:i=d
  .subst e;simp
  .rw[bH e,bH (Ne.symm e)]
def EG(a:Act)(d:Option Tmp)(v:Value)(i:Nat)(h: ∀t,d=some t->t<a.tmps.size):(a.put d v).tmps.getD i undef=if d=some i then v else a.tmps.getD i undef:=by
 cases d with
 |none=>simp[Act.put]
 |some d=>
  have hd:=h d rfl;simp only[Act.put,aA,Array.getD_eq_getD_getElem?];by_cases e:d=i
  .subst e;rw[bI rfl,Array.getElem?_setIfInBounds_self_of_lt hd];rfl
  .rw[bH e,Array.getElem?_setIfInBounds_ne e]
def AR.put{S:Slots}{α:Nat}{a:Act}(A:AR Y S α a){d:Option Tmp}(hd: ∀t,d=some t->t<α){v v':Value}(r:VR Y v v'):AR Y (S.store d v) α (a.put d v'):=by
 refine⟨?_,?_,λi=>?_⟩
 .have:=A.size;cases d<;>simp[Act.put,this]
 .cases d<;>simp[Act.put,A.defers]
 .rw[Slots.at_store,EG _ _ _ _ (λt e=>Nat.lt_of_lt_of_le (hd t e) A.size)]
  split
  .exact r
  .exact A.slot i
def XE{S:Slots}{α:Nat}{a:Act}(A:AR Y S α a)(ρ:Sim w0 P Y H w){x:Operand}(h:cG P x=true):VR Y (ev S x) (a.eval x):=by
 cases x with
 |tmp t=>exact A.slot t
 |const v=>exact .same1 h
 |global g=>
  simp only[cG,gW,aD]at h;obtain⟨p,hp,hb,ho⟩:=ρ.glob g h;have:=VR.ptr (Y:=Y) g 0 p hp;rw[hb,ho]at this;exact this
 |func f=>exact .fn _ _ _ _ _ rfl (λi x u h=>by simp at h) rfl (λi x u h=>by simp at h)
def VR.of_bool{x:Value}{b:Bool}(r:VR Y x (.bool b)):x= .bool b:=by cases r;rfl
def Do{S:Slots}{a:Act}(ops:Array Oper)(o:Oper)(A: ∀j want d,o.guard=some (j,want)->ops[j]?.bind (·.dst)=some d->VR Y (S.at d) (a.tmps.getD d undef)):wanted ops S o=Region.wanted o (yielded ops a.tmps):=by
 unfold wanted Region.wanted;cases hg:o.guard with
 |none=>rfl
 |some jw=>
  obtain⟨j,want⟩:=jw;simp only[yielded];cases hd:ops[j]?.bind (·.dst)with
  |none=>simp
  |some d=>
   simp only[aK,aL];have r:=A j want d hg hd;rw[Array.getD_eq_getD_getElem?]at r;cases ht:a.tmps[d]? with
   |none=>
    rw[ht]at r;simp only[Option.getD_none]at r;cases hs:S.at d<;>first|rfl|skip
    rw[hs]at r;have:=r.bool_inv;cases this
   |some u=>
    rw[ht]at r;simp only[Option.getD_some]at r;cases hs:S.at d with
    |bool b=>rw[hs]at r;rw[r.bool_inv];cases b<;>cases want<;>rfl
    |_=>
     cases u with
     |bool b=>rw[r.of_bool]at hs;cases hs
     |_=>rfl
def YY{S:Slots}{α:Nat}{a:Act}(A:AR Y S α a)(ops:Array Oper)(o:Oper):wanted ops S o=Region.wanted o (yielded ops a.tmps):=
 Do ops o (λ_ _ d _ _=>A.slot d)
def CallOK(w0:W0)(P:Program)(call:FuncId->Array Value->St->Option (Value×St)):Prop:=
 ∀f args args' H H' w Y r,call f args H=some (r,H')->Sim w0 P Y H w->VRL Y args.toList args'.toList->
  (∃ fn c, P.funcs[f]? = some fn ∧ fn.body = some c ∧ (fn.name == "runtime.NumGoroutine") = false) ∧
  Calls P f args' w λe w'=> ∃Y' r',e= .returned r'/\VR Y' r r'/\Sim w0 P Y' H' w'/\Ext H.next Y Y'/\H.next<=H'.next
def aHv(w0:W0)(P:Program)(Y:Mp)(H H':St)(id:Nat)(a:Act)(o:Oper)(v:Value)(a':Act)(w':World):Prop:=
 ∃Y' v',a'=a.put o.dst v'/\VR Y' v v'/\Sim w0 P Y' H' w'/\(∀k p,Y k=some p->Y' k=some p)/\(∀k,k<H.next->k≠id->Y' k=Y k)/\H.next<=H'.next
def tY{a:Act}{o:Oper}{v':Value}{w':World}{K:Act->World->Prop}{Q:Exit->Act->World->Prop}(h:(execOp a.eval o).run P w= .ok (.value v') w')(k:K (a.put o.dst v') w'):o.wp P a w K Q:=by
 unfold Oper.wp;rw[h];exact k
def aBn{a:Act}{o:Oper}{w':World}{K:Act->World->Prop}{Q:Exit->Act->World->Prop}(h:(execOp a.eval o).run P w= .ok .skip w')(k:K (a.put o.dst undef) w'):o.wp P a w K Q:=by
 unfold Oper.wp;rw[h];exact k
def WH{Z:Operand->Value}{a:Act}{o:Oper}{v:Value}{Q:Exit->Act->World->Prop}(id:Nat)(ρ:Sim w0 P Y H w)(hρ: ∀x∈o.op.operands,VR Y (Z x) (a.eval x))(h:kQ P H Z o=some v):
    o.wp P a w (aHv w0 P Y H H id a o v) Q:=by
 obtain⟨v',h1,h2⟩:=aFN ρ hρ h;exact tY h1 ⟨Y,v',rfl,h2,ρ,λ_ _ h=>h,λ_ _ _=>rfl,aS _⟩
def WP{Z:Operand->Value}{a:Act}{o:Oper}{v:Value}{Q:Exit->Act->World->Prop}(id:Nat)(ρ:Sim w0 P Y H w)(hρ: ∀x∈o.op.operands,VR Y (Z x) (a.eval x))(h:lL P Z o=some v):
    o.wp P a w (aHv w0 P Y H H id a o v) Q:=by
 obtain⟨v',h1,h2⟩:=aFQ (Y:=Y) hρ h;exact tY (iN h1 w) ⟨Y,v',rfl,h2,ρ,λ_ _ h=>h,λ_ _ _=>rfl,aS _⟩
def Qz{Z:Operand->Value}{a:Act}{o:Oper}{v:Value}{ob:AObj}{id:Nat}{Q:Exit->Act->World->Prop}(ρ:Sim w0 P Y H w)(hρ: ∀x∈o.op.operands,VR Y (Z x) (a.eval x))
    (hid:Y id=none) (bi:id<H.next) (h:gZ P Z o id=some (v,ob)) (fi:H.get id=some ob):o.wp P a w (aHv w0 P Y H H id a o v) Q:=by
 obtain⟨v',O,p,h1,hb,ho,hN,hv⟩:=aA3 (Y:=Y) w hρ h;exact tY h1 ⟨upd Y id p,v',rfl,hv _ (kW _ _ _),ρ.alloc hid bi fi hN hb ho,mK p hid,λk _ hk=>jE hk,aS _⟩
def Fa{Z:Operand->Value}{o:Oper}{id:Nat}{v:Value}{ob:AObj}(h:gZ P Z o id=some (v,ob)): ∀cs m g u,ob= .cells cs m->m.grp=some (g,u)->u<=0:=by
 intro cs m g u e hg;subst e;unfold gZ at h;split at h<;>try cases h
 .split at h<;>try cases h
  simp only[cond_eq_ite]at h;split at h<;>cases h;cases hg
 .simp only[cond_eq_ite]at h;split at h<;>cases h;cases hg
 .split at h<;>try cases h
  split at h<;>try cases h
  split at h<;>try cases h
  simp only[cond_eq_ite]at h;split at h<;>try cases h
  rw[aF]at h;obtain⟨_,_,e⟩:=h;cases e;cases hg
 .split at h<;>try cases h
  split at h<;>try cases h
  split at h<;>try cases h
  simp only[cond_eq_ite]at h;split at h<;>try cases h
  split at h<;>cases h
  .cases hg
  .simp only[aA,aB]at hg;omega
def aE9{call:FuncId->Array Value->St->Option (Value×St)}(bj:CallOK w0 P call){S:Slots}{a:Act}{o:Oper}{v:Value}{H':St}{id:Nat}{Q:Exit->Act->World->Prop}
    (ρ:Sim w0 P Y H w) (hρ: ∀x∈o.op.operands,VR Y (ev S x) (a.eval x)) (hid:Y id=none) (bi:id<H.next) (h:tU P call H (ev S) o id=some (v,H')):
    o.wp P a w (aHv w0 P Y H H' id a o v) Q:=by
 unfold tU at h;cases ho:o.op<;>simp only[ho]at h hρ<;>try cases h
 case store t p x=>
  rw[aF]at h;obtain⟨H1,h,he⟩:=h;cases he;obtain⟨w',h1,h2,h3⟩:=aAS ρ (hρ p (by simp[Op.operands])) (hρ x (by simp[Op.operands])) h
  refine aBn (w':=w') ?_ ⟨Y,undef,rfl,.undef,h2,λ_ _ h=>h,λ_ _ _=>rfl,by omega⟩
  unfold execOp;rw[ho];simp[h1]
 case call c=>
  have hargs:=Df (Y:=Y) (Z:=ev S) (Z':=a.eval) c.args.toList (λx hx=>hρ x (iM c x hx))
  split at h
  .rename_i hc;split at h<;>try cases h
   rename_i s x hsx;have ja:c.args= #[s,x]:=by apply Array.toList_inj.1;rw[hsx]
   obtain⟨v',w',Y',h1,h2,h3,h4,h5,h6⟩:=S6 (ty:=o.type) ρ (hρ s (iM c s (by rw[hsx];simp))) (hρ x (iM c x (by rw[hsx];simp))) hid bi h
   refine tY (v':=v') (w':=w') ?_ ⟨Y',v',rfl,h2,h3,h4,λk _ hk=>h5 k hk,by omega⟩
   unfold execOp;rw[ho];simp only[resolve,hc,Sem.run_bind,Sem.run_pure,Result.andThen_ok,invoke,builtin];rw[ja];simp[h1]
  .split at h<;>try cases h
   rename_i g args qm;unfold De at qm;split at qm<;>try cases qm
   rename_i f hc;split at qm<;>try cases qm
   rename_i first captured hf
   have gn:=hρ f (by simp[Op.operands,Call.operands,hc])
   rw[hf]at gn;have fx: ∃us vs,a.eval f= .func (.func g) us vs/\VRL Y first.toList us.toList/\VRL Y captured.toList vs.toList:=by
    generalize a.eval f=y at gn;cases gn with
    |same _ h=>simp[bN]at h
    |fn _ xs ys us vs hl h fa h'=>exact⟨us,vs,rfl,⟨hl,h⟩,⟨fa,h'⟩⟩
   obtain⟨us,vs,hfe,hr1,hr2⟩:=fx;have dc:VRL Y (first++c.args.map (ev S)++captured).toList (us++c.args.map a.eval++vs).toList:=by
    simp only[Array.toList_append,Array.toList_map];exact(hr1.append hargs).append hr2
   obtain⟨⟨fn,code,fx,hbody,hname⟩,hC⟩:=bj g _ _ H H' w Y v h ρ dc;have gc:(execOp a.eval o).run P w= .ok (.enter g (us++c.args.map a.eval++vs)) w:=by
    unfold execOp;rw[ho];simp only[resolve,hc,hfe,Deferred.ofValue,Sem.run_bind,Sem.run_pure,Result.andThen_ok,invoke,callFunc,run_program,fx,hname,hbody,Option.isNone_some,Bool.false_eq_true,if_false]
   unfold Oper.wp;rw[gc,Oper.upon_enter];refine hC.mono λe w' ⟨Y',r',he,hr,hZ,hE,hn⟩=>?_
   subst he;exact⟨Y',r',rfl,hr,hZ,hE.1,λk hk _=>hE.2 k hk,hn⟩
def a1E{call:FuncId->Array Value->St->Option (Value×St)}(bj:CallOK w0 P call){S:Slots}{α:Nat}{a:Act}{o:Oper}{v:Value}{H':St}{base i:Nat}{Q:Exit->Act->World->Prop}
    (A:AR Y S α a) (ρ:Sim w0 P Y H w) (dq: ∀x∈o.op.operands,cG P x=true) (hid:Y (base+i)=none) (bi:base+i<H.next) (h:mP P call base i o S H=some (v,H')):
    o.wp P a w (aHv w0 P Y H H' (base+i) a o v) Q:=by
 have hρ: ∀x∈o.op.operands,VR Y (ev S x) (a.eval x):=λx hx=>XE A ρ (dq x hx)
 unfold mP at h;split at h
 .rw[aF]at h;obtain⟨_,h,e⟩:=h;cases e;unfold vQ at h;split at h
  .rename_i v' fc;cases h;exact WP _ ρ hρ fc
  .split at h<;>try cases h
   rename_i s d x ho;have h1:=aA1 ρ (hρ x (by rw[ho];simp[Op.operands])) h
   have dm: ∃ba,v= .string ba:=by
    unfold sZ at h;split at h<;>try cases h
    split at h<;>try cases h
    split at h<;>try cases h
    .split at h<;>try cases h
     split at h<;>try cases h
     rw[aF]at h;obtain⟨ns,_,rfl⟩:=h;exact⟨_,rfl⟩
    .exact⟨_,rfl⟩
   obtain⟨ba,rfl⟩:=dm;refine tY (v':= .string ba) ?_ ⟨Y,_,rfl,.same _ rfl,ρ,λ_ _ h=>h,λ_ _ _=>rfl,aS _⟩
   unfold execOp;rw[ho];simp[h1]
 .rw[aF]at h;obtain⟨_,h,e⟩:=h;cases e;exact WH _ ρ hρ h
 .rw[aF]at h;obtain⟨⟨v1,ob⟩,h,e⟩:=h;cases e;have Z1:Sim w0 P Y (H.put (base+i) ob) w:=ρ.put_new hid (λcs m g u e1 e2=>by have:=Fa h cs m g u e1 e2;omega)
  exact Qz Z1 hρ hid bi h (by rw[St.get_put,bI rfl])
 .exact aE9 bj ρ hρ hid bi h
def zM{α:Nat}{o:Oper}(h:lB P α o=true): ∀t,o.dst=some t->t<α:=by
 intro t e;unfold lB at h;simp only[e,gW,aC,aD]at h;exact h.1
def Ed{α:Nat}{o:Oper}(h:lB P α o=true): ∀x∈o.op.operands,cG P x=true:=by
 intro x hx;unfold lB at h;simp only[aC]at h;have:=h.2;rw[Array.all_eq_true']at this;exact this x hx
def pI(w0:W0)(P:Program)(Y:Mp)(n:Nat)(α:Nat)(S':Slots)(H':St)(Q:Act->World->Prop):Prop:=
 ∀a' w' Y',AR Y' S' α a'->Sim w0 P Y' H' w'->Ext n Y Y'->n<=H'.next->Q a' w'
def ZT{call:FuncId->Array Value->St->Option (Value×St)}(bj:CallOK w0 P call){ops:Array Oper}{base α n0:Nat}{Q:Exit->Act->World->Prop}(hn0:n0<=base)(bw: ∀o∈ops.toList,lB P α o=true):
    ∀(l:List Oper) (i:Nat) (S S':Slots) (H H':St) (a:Act) (w:World) (Y Y0:Mp),(∀j,l[j]?=ops[i+j]?)->i+l.length=ops.size->
      AR Y S α a->Sim w0 P Y H w->Ext n0 Y0 Y->base+ops.size<=H.next->(∀j,i<=j->j<ops.size->Y (base+j)=none)->
      fR P call ops base l i S H=some (S',H')->pI w0 P Y0 n0 α S' H' (Q .normal)->wpOps P ops Q (List.range' i l.length) a w:=by
 intro l;induction l with
 |nil=>
  intro i S S' H H' a w Y Y0 hl hlen A ρ E mj bz h cw;simp only[fR,aA,aB]at h;obtain⟨rfl,rfl⟩:=h;exact cw a w Y A ρ E (by omega)
 |cons o l ih=>
  intro i S S' H H' a w Y Y0 hl hlen A ρ E mj bz h cw;have vn:ops[i]?=some o:=by simpa using (hl 0).symm
  have py:o∈ops.toList:=by
   have:ops.toList[i]?=some o:=by simpa using vn
   exact List.mem_of_getElem? this
  have mi:=bw o py;simp only[aM]at hlen;have fa: ∀j,l[j]?=ops[i+1+j]?:=λj=>by have:=hl (j+1);rw[show i+1+j=i+(j+1) by omega,<-this];simp
  simp only[aM,List.range'_succ,wpOps,vn];unfold fR at h;rw[YY A ops o]at h;cases hw:Region.wanted o (yielded ops a.tmps)with
  |false=>
   rw[hw]at h;simp only[aJ]at h;simp only[Bool.false_eq_true,if_false];exact ih (i+1) _ S' H H' _ w Y Y0 fa (by omega) (A.put (zM mi) .undef) ρ E mj (λj hj rq=>bz j (by omega) rq) h cw
  |true=>
   rw[hw]at h;simp only[aI]at h;simp only[if_true];split at h<;>try cases h
   rename_i v H1 mz;refine .inl (Oper.wp_mono (λa' w' hL=>?_) (a1E bj A ρ (Ed mi) (bz i (aS _) (by omega)) (by omega) mz (Q:=Q)))
   obtain⟨Y',v',rfl,hv,hZ,cb,cm,hnx'⟩:=hL;exact ih (i+1) _ S' H1 H' _ w' Y' Y0 fa (by omega) ((A.mono cb).put (zM mi) hv) hZ
    ⟨λk p hk=>cb k p (E.1 k p hk),λk hk=>(cm k (by omega) (by omega)).trans (E.2 k hk)⟩ (by omega)
    (λj hj rq=>(cm (base+j) (by omega) (by omega)).trans (bz j (by omega) rq)) h cw
end
end Go.AI
namespace Go.AI
mutual
def qU: ∀(a b:Value),fP a b=true->a=b
 | .bool a,b,h=>by cases b<;>simp[fP]at h;rw[h]
 | .int j a,b,h=>by cases b<;>simp[fP]at h;rw[h.1,h.2]
 | .float j a,b,h=>by cases b<;>simp[fP]at h;rw[h.1,h.2]
 | .complex j a c,b,h=>by cases b<;>simp[fP]at h;rw[h.1.1,h.1.2,h.2]
 | .string a,b,h=>by
  cases b with
  |string b=>
   simp only[fP,beq_iff_eq]at h;cases a;cases b;have:=Array.toList_inj.1 h;simp only at this;rw[this]
  |_=>simp[fP]at h
 | .pointer a,b,h=>by cases b<;>simp[fP]at h;rw[h]
 | .slice a l c,b,h=>by cases b<;>simp[fP]at h;rw[h.1.1,h.1.2,h.2]
 | .map a,b,h=>by cases b<;>simp[fP]at h;rw[h]
 | .chan a,b,h=>by cases b<;>simp[fP]at h;rw[h]
 | .func f ⟨xs⟩ ⟨ys⟩,b,h=>by
  cases b with
  |func g us vs=>
   obtain⟨us⟩:=us;obtain⟨vs⟩:=vs;simp[fP]at h;rw[h.1.1,qV xs us h.1.2,qV ys vs h.2]
  |_=>simp[fP]at h
 | .nilFunc,b,h=>by cases b<;>simp[fP]at h;rfl
 | .iface t v,b,h=>by
  cases b with
  |iface u w=>simp[fP]at h;rw[h.1,qU v w h.2]
  |_=>simp[fP]at h
 | .nilIface,b,h=>by cases b<;>simp[fP]at h;rfl
 | .agg ⟨xs⟩,b,h=>by
  cases b with
  |agg ys=>obtain⟨ys⟩:=ys;simp[fP]at h;rw[qV xs ys h]
  |_=>simp[fP]at h
 | .tuple ⟨xs⟩,b,h=>by
  cases b with
  |tuple ys=>obtain⟨ys⟩:=ys;simp[fP]at h;rw[qV xs ys h]
  |_=>simp[fP]at h
def qV: ∀(a b:List Value),qW a b=true->a=b
 |[],b,h=>by cases b<;>simp[qW]at h;rfl
 |x::xs,b,h=>by
  cases b with
  |nil=>simp[qW]at h
  |cons y ys=>simp[qW]at h;rw[qU x y h.1,qV xs ys h.2]
end
def OM{m n:pM}(h:uG m n=true):m=n:=by
 simp only[uG,cR,aC,beq_iff_eq,aD]at h;cases m;cases n;simp_all
def ON: ∀(a b:List (Value×Value)),Aq a b=true->a=b
 |[],b,h=>by cases b<;>simp[Aq]at h;rfl
 |x::xs,b,h=>by
  cases b with
  |nil=>simp[Aq]at h
  |cons y ys=>
   simp only[Aq,aC]at h;rw[Prod.ext (qU _ _ h.1.1) (qU _ _ h.1.2),ON xs ys h.2]
def DJ{a b:AObj}(h:pR a b=true):a=b:=by
 cases a with
 |cells cs m=>cases b with
  |cells ds n=>simp only[pR,aC]at h;rw[qV _ _ h.1,OM h.2]
  |map _=>simp[pR]at h
 |map es=>cases b with
  |cells _ _=>simp[pR]at h
  |map fs=>rw[ON es fs h]
section
variable{P:Program}{call:FuncId->Array Value->St->Option (Value×St)}{ops:Array Oper}{ms:List Nat}{base:Nat}{S':Slots}{H':St}
structure yZ where
 i:Nat
 o:Oper
 S:Slots
 v:Value
def Al(P:Program)(base:Nat)(H:St)(r:iC):Prop:=
 match r.ob with
 |none=>kQ P H (ev r.S) r.o=some r.v
 |some ob=>H.get (base+r.i)=some ob
def Bg{H:St}{r:iC}(h:check P base H r=true):Al P base H r:=by
 unfold check at h;unfold Al;cases hr:r.ob with
 |none=>
  simp only[hr]at h⊢;split at h
  .rename_i v hv;rw[hv,qU _ _ h]
  .cases h
 |some ob=>
  simp only[hr]at h⊢;split at h
  .rename_i v hv;rw[hv,DJ h]
  .cases h
inductive Cert(P:Program)(call:FuncId->Array Value->St->Option (Value×St))(ops:Array Oper)(ms:List Nat)(base:Nat)(S':Slots)(H':St):List yZ->List St->List Nat->List iC->Slots->St->Prop where
 |nil (pend:List iC) (h: ∀p∈pend,Al P base H' p):Cert P call ops ms base S' H' [] [H'] [] pend S' H'
 |skip (r:yZ) (rs:List yZ) (Cs:List St) (Es:List Nat) (pend:List iC) (H:St) (ho:ops[r.i]?=some r.o) (hw:wanted ops r.S r.o=false) (hv:r.v=undef)
      (h:Cert P call ops ms base S' H' rs Cs Es pend (r.S.store r.o.dst r.v) H):Cert P call ops ms base S' H' (r::rs) Cs Es pend r.S H
 |pure (r:yZ) (rs:List yZ) (Cs:List St) (Es:List Nat) (pend:List iC) (H:St) (ho:ops[r.i]?=some r.o) (hw:wanted ops r.S r.o=true) (hk:cO r.o= .pure) (hv:lL P (ev r.S) r.o=some r.v)
      (h:Cert P call ops ms base S' H' rs Cs Es pend (r.S.store r.o.dst r.v) H):Cert P call ops ms base S' H' (r::rs) Cs Es pend r.S H
 |read (r:yZ) (rs:List yZ) (Cs:List St) (Es:List Nat) (pend:List iC) (H:St) (ho:ops[r.i]?=some r.o) (hw:wanted ops r.S r.o=true) (hk:cO r.o= .read)
      (h:Cert P call ops ms base S' H' rs Cs Es (⟨r.i,r.o,r.S,r.v,none⟩::pend) (r.S.store r.o.dst r.v) H):Cert P call ops ms base S' H' (r::rs) Cs Es pend r.S H
 |alloc (r:yZ) (rs:List yZ) (Cs:List St) (Es:List Nat) (pend:List iC) (H:St) (ob:AObj) (ho:ops[r.i]?=some r.o) (hw:wanted ops r.S r.o=true) (hk:cO r.o= .alloc) (hv:gZ P (ev r.S) r.o (base+r.i)=some (r.v,ob))
      (h:Cert P call ops ms base S' H' rs Cs Es (⟨r.i,r.o,r.S,r.v,some ob⟩::pend) (r.S.store r.o.dst r.v) (H.put (base+r.i) ob)):Cert P call ops ms base S' H' (r::rs) Cs Es pend r.S H
 |eff (r:yZ) (rs:List yZ) (Cs:List St) (Es:List Nat) (pend:List iC) (H H1:St) (ho:ops[r.i]?=some r.o) (hw:wanted ops r.S r.o=true) (hk:cO r.o= .eff) (hc: ∀p∈pend,Al P base H p)
      (hv:tU P call H (ev r.S) r.o (base+r.i)=some (r.v,H1)) (h:Cert P call ops ms base S' H' rs Cs Es (pend.filter λp=> !jC (ms.getD r.i 0) p.i) (r.S.store r.o.dst r.v) H1):
      Cert P call ops ms base S' H' (r::rs) (H::Cs) (r.i::Es) pend r.S H
def Qh: ∀(order:List Nat) (pend:List iC) (S:Slots) (H:St),dO P call ops ms base order pend S H=some (S',H')->
    ∃rs Cs Es,rs.map (·.i)=order/\Cert P call ops ms base S' H' rs Cs Es pend S H:=by
 intro order;induction order with
 |nil=>
  intro pend S H h;simp only[dO]at h;cases hc:pend.all (check P base H)with
  |false=>rw[hc]at h;cases h
  |true=>
   rw[hc]at h;simp only[aI,aA,aB]at h;obtain⟨rfl,rfl⟩:=h;exact⟨[],_,[],rfl,.nil pend λp hp=>Bg (bJ.1 hc p hp)⟩
 |cons i rest ih=>
  intro pend S H h;simp only[dO]at h;split at h<;>try cases h
  rename_i o ho;cases hw:wanted ops S o with
  |false=>
   rw[hw]at h;simp only[aJ]at h;obtain⟨rs,Cs,Es,hm,hC⟩:=ih _ _ _ h;exact⟨⟨i,o,S,undef⟩::rs,Cs,Es,by simp[hm],.skip ⟨i,o,S,undef⟩ rs Cs Es pend H ho hw rfl hC⟩
  |true=>
   rw[hw]at h;simp only[aI]at h;split at h
   .rename_i hk;split at h<;>try cases h
    rename_i v hv;obtain⟨rs,Cs,Es,hm,hC⟩:=ih _ _ _ h;exact⟨⟨i,o,S,v⟩::rs,Cs,Es,by simp[hm],.pure ⟨i,o,S,v⟩ rs Cs Es pend H ho hw hk hv hC⟩
   .rename_i hk;split at h<;>try cases h
    rename_i v hv;obtain⟨rs,Cs,Es,hm,hC⟩:=ih _ _ _ h;exact⟨⟨i,o,S,v⟩::rs,Cs,Es,by simp[hm],.read ⟨i,o,S,v⟩ rs Cs Es pend H ho hw hk hC⟩
   .rename_i hk;split at h<;>try cases h
    rename_i v ob hv;obtain⟨rs,Cs,Es,hm,hC⟩:=ih _ _ _ h;exact⟨⟨i,o,S,v⟩::rs,Cs,Es,by simp[hm],.alloc ⟨i,o,S,v⟩ rs Cs Es pend H ob ho hw hk hv hC⟩
   .rename_i hk;cases hc:pend.all (check P base H)with
    |false=>rw[hc]at h;cases h
    |true=>
     rw[hc]at h;simp only[aI]at h;split at h<;>try cases h
     rename_i v H1 hv;obtain⟨rs,Cs,Es,hm,hC⟩:=ih _ _ _ h;exact⟨⟨i,o,S,v⟩::rs,H::Cs,i::Es,by simp[hm],.eff ⟨i,o,S,v⟩ rs Cs Es pend H H1 ho hw hk (λp hp=>Bg (bJ.1 hc p hp)) hv hC⟩
def Cert.lens{rs:List yZ}{Cs:List St}{Es:List Nat}{pend:List iC}{S:Slots}{H:St}(h:Cert P call ops ms base S' H' rs Cs Es pend S H):Cs.length=Es.length+1/\Cs[Es.length]?=some H':=by
 induction h with
 |nil=>exact⟨rfl,rfl⟩
 |skip=>assumption
 |pure=>assumption
 |read=>assumption
 |alloc=>assumption
 |eff r rs Cs Es pend H H1 ho hw hk hc hv h ih=>exact⟨by simp[ih.1],by simpa using ih.2⟩
def Cert.pending{rs:List yZ}{Cs:List St}{Es:List Nat}{pend:List iC}{S:Slots}{H:St}(h:Cert P call ops ms base S' H' rs Cs Es pend S H):
    ∀p∈pend,∀(j:Nat) (s:St),Cs[j]?=some s->(∀(q e:Nat),q<j->Es[q]?=some e->jC (ms.getD e 0) p.i=false)->Al P base s p:=by
 induction h with
 |nil pend h=>
  intro p hp j s hj _;cases j with
  |zero=>simp at hj;subst hj;exact h p hp
  |succ j=>simp at hj
 |skip r rs Cs Es pend H ho hw hv h ih=>exact ih
 |pure r rs Cs Es pend H ho hw hk hv h ih=>exact ih
 |read r rs Cs Es pend H ho hw hk h ih=>exact λp hp=>ih p (aG _ hp)
 |alloc r rs Cs Es pend H ob ho hw hk hv h ih=>exact λp hp=>ih p (aG _ hp)
 |eff r rs Cs Es pend H H1 ho hw hk hc hv h ih=>
  intro p hp j s hj hq;cases j with
  |zero=>simp at hj;subst hj;exact hc p hp
  |succ j=>
   have hb:=hq 0 r.i (by omega) (by simp)
   exact ih p (List.mem_filter.2 ⟨hp,by simp only[hb,Bool.not_false]⟩) j s (by simpa using hj) (λq e hqj he=>hq (q+1) e (by omega) (by simpa using he))
variable{w0:W0}
def Cert.first{rs:List yZ}{Cs:List St}{Es:List Nat}{pend:List iC}{S:Slots}{H:St}(h:Cert P call ops ms base S' H' rs Cs Es pend S H):
    ∃s,Cs[0]?=some s/\s.next=H.next/\∀(Y:Mp) (w:World),(∀r∈rs,Y (base+r.i)=none)->Sim w0 P Y H w->Sim w0 P Y s w:=by
 induction h with
 |nil pend h=>exact⟨_,rfl,rfl,λ_ _ _ h=>h⟩
 |skip r rs Cs Es pend H ho hw hv h ih=>obtain⟨s,h1,h2,h3⟩:=ih;exact⟨s,h1,h2,λY w hn hS=>h3 Y w (λr hr=>hn r (aG _ hr)) hS⟩
 |pure r rs Cs Es pend H ho hw hk hv h ih=>obtain⟨s,h1,h2,h3⟩:=ih;exact⟨s,h1,h2,λY w hn hS=>h3 Y w (λr hr=>hn r (aG _ hr)) hS⟩
 |read r rs Cs Es pend H ho hw hk h ih=>obtain⟨s,h1,h2,h3⟩:=ih;exact⟨s,h1,h2,λY w hn hS=>h3 Y w (λr hr=>hn r (aG _ hr)) hS⟩
 |alloc r rs Cs Es pend H ob ho hw hk hv h ih=>
  obtain⟨s,h1,h2,h3⟩:=ih;exact⟨s,h1,h2,λY w hn hS=>h3 Y w (λr hr=>hn r (aG _ hr)) (hS.put_new (hn r (by simp)) (λcs m g u e1 e2=>by have:=Fa hv cs m g u e1 e2;omega))⟩
 |eff r rs Cs Es pend H H1 ho hw hk hc hv h ih=>exact⟨H,rfl,rfl,λ_ _ _ h=>h⟩
def Cert.at_eff{rs:List yZ}{Cs:List St}{Es:List Nat}{pend:List iC}{S:Slots}{H:St}(h:Cert P call ops ms base S' H' rs Cs Es pend S H){q e:Nat}(he:Es[q]?=some e):
    e<ops.size/\∃r∈rs,r.i=e/\ops[e]?=some r.o/\cO r.o= .eff/\wanted ops r.S r.o=true:=by
 induction h generalizing q with
 |nil=>simp at he
 |skip r rs Cs Es pend H ho hw hv h ih=>obtain⟨h1,r',h2,h3⟩:=ih he;exact⟨h1,r',aG _ h2,h3⟩
 |pure r rs Cs Es pend H ho hw hk hv h ih=>obtain⟨h1,r',h2,h3⟩:=ih he;exact⟨h1,r',aG _ h2,h3⟩
 |read r rs Cs Es pend H ho hw hk h ih=>obtain⟨h1,r',h2,h3⟩:=ih he;exact⟨h1,r',aG _ h2,h3⟩
 |alloc r rs Cs Es pend H ob ho hw hk hv h ih=>obtain⟨h1,r',h2,h3⟩:=ih he;exact⟨h1,r',aG _ h2,h3⟩
 |eff r rs Cs Es pend H H1 ho hw hk hc hv h ih=>
  cases q with
  |zero=>simp at he;subst he;exact⟨(Array.getElem?_eq_some_iff.1 ho).1,r,by simp,rfl,ho,hk,hw⟩
  |succ q=>obtain⟨h1,r',h2,h3⟩:=ih (q:=q) (by simpa using he);exact⟨h1,r',aG _ h2,h3⟩
def Cert.effs_nodup{rs:List yZ}{Cs:List St}{Es:List Nat}{pend:List iC}{S:Slots}{H:St}(h:Cert P call ops ms base S' H' rs Cs Es pend S H)(hn:(rs.map (·.i)).Nodup):Es.Nodup:=by
 induction h with
 |nil=>exact List.nodup_nil
 |skip r rs Cs Es pend H ho hw hv h ih=>exact ih (List.nodup_cons.1 hn).2
 |pure r rs Cs Es pend H ho hw hk hv h ih=>exact ih (List.nodup_cons.1 hn).2
 |read r rs Cs Es pend H ho hw hk h ih=>exact ih (List.nodup_cons.1 hn).2
 |alloc r rs Cs Es pend H ob ho hw hk hv h ih=>exact ih (List.nodup_cons.1 hn).2
 |eff r rs Cs Es pend H H1 ho hw hk hc hv h ih=>
  have hn':=List.nodup_cons.1 hn;refine List.nodup_cons.2 ⟨λhm=>hn'.1 ?_,ih hn'.2⟩
  obtain⟨q,hq⟩:=List.getElem?_of_mem hm;obtain⟨_,r',h2,h3,_⟩:=h.at_eff hq;exact List.mem_map.2 ⟨r',h2,h3⟩
def Eh{N:Type}: ∀(l:List N),(∀l1 i l2,l=l1++i::l2->i∉l1)->l.Nodup:=by
 intro l;induction l with
 |nil=>intro _;exact List.nodup_nil
 |cons a t ih=>
  intro h;refine List.nodup_cons.2 ⟨λhm=>?_,ih λl1 i l2 e=>λhi=>h (a::l1) i l2 (by rw[e];rfl) (aG _ hi)⟩
  obtain⟨m1,m2,e⟩:=List.append_of_mem hm;exact h (a::m1) a m2 (by rw[e];rfl) (by simp)
def iE(w0:W0)(P:Program)(call:FuncId->Array Value->St->Option (Value×St))(ops:Array Oper)(ms:List Nat)(base:Nat)(Cs:List St)(Es:List Nat)(later:List yZ)(r:yZ)(je:Nat):Prop:=
 (wanted ops r.S r.o=false/\r.v=undef)∨
 (wanted ops r.S r.o=true/\cO r.o= .pure/\lL P (ev r.S) r.o=some r.v)∨
 (wanted ops r.S r.o=true/\cO r.o= .read/\∀(j:Nat) (s:St),je<=j->Cs[j]?=some s->(∀(q e:Nat),je<=q->q<j->Es[q]?=some e->jC (ms.getD e 0) r.i=false)->kQ P s (ev r.S) r.o=some r.v)∨
 (wanted ops r.S r.o=true/\cO r.o= .alloc/\∃ob,gZ P (ev r.S) r.o (base+r.i)=some (r.v,ob)/\
  ∀(j:Nat) (s:St),je<=j->Cs[j]?=some s->(∀(q e:Nat),je<=q->q<j->Es[q]?=some e->jC (ms.getD e 0) r.i=false)->s.get (base+r.i)=some ob)∨
 (wanted ops r.S r.o=true/\cO r.o= .eff/\Es[je]?=some r.i/\∃s H1 s',Cs[je]?=some s/\tU P call s (ev r.S) r.o (base+r.i)=some (r.v,H1)/\Cs[je+1]?=some s'/\s'.next=H1.next/\
  ∀(Y:Mp) (w:World),(∀r∈later,Y (base+r.i)=none)->Sim w0 P Y H1 w->Sim w0 P Y s' w)
def Cert.at: ∀(l1:List yZ) (r:yZ) (l2:List yZ) (Cs:List St) (Es:List Nat) (pend:List iC) (S:Slots) (H:St),Cert P call ops ms base S' H' (l1++r::l2) Cs Es pend S H->
    ops[r.i]?=some r.o/\∃je,je<=Es.length/\(∀q e,q<je->Es[q]?=some e->∃r'∈l1,r'.i=e/\kN r'.o=true/\ops[r'.i]?=some r'.o)/\iE w0 P call ops ms base Cs Es l2 r je:=by
 intro l1;induction l1 with
 |nil=>
  intro r l2 Cs Es pend S H h;simp only[aW]at h;cases h with
  |skip _ _ _ _ _ _ ho hw hv h=>exact⟨ho,0,Nat.zero_le _,λq e hq=>by omega,.inl ⟨hw,hv⟩⟩
  |pure _ _ _ _ _ _ ho hw hk hv h=>exact⟨ho,0,Nat.zero_le _,λq e hq=>by omega,.inr (.inl ⟨hw,hk,hv⟩)⟩
  |read _ _ _ _ _ _ ho hw hk h=>
   refine⟨ho,0,Nat.zero_le _,λq e hq=>by omega,.inr (.inr (.inl ⟨hw,hk,λj s _ hj hq=>?_⟩))⟩
   exact h.pending _ (aH) j s hj (λq e hqj he=>hq q e (by omega) hqj he)
  |alloc _ _ _ _ _ _ ob ho hw hk hv h=>
   refine⟨ho,0,Nat.zero_le _,λq e hq=>by omega,.inr (.inr (.inr (.inl ⟨hw,hk,ob,hv,λj s _ hj hq=>?_⟩)))⟩
   exact h.pending _ (aH) j s hj (λq e hqj he=>hq q e (by omega) hqj he)
  |eff _ _ Cs' Es' _ _ H1 ho hw hk hc hv h=>
   obtain⟨s',h1,h2,h3⟩:=h.first (w0:=w0)
   exact⟨ho,0,Nat.zero_le _,λq e hq=>by omega,.inr (.inr (.inr (.inr ⟨hw,hk,rfl,H,H1,s',rfl,hv,by simpa using h1,h2,h3⟩)))⟩
 |cons r0 l1 ih=>
  intro r l2 Cs Es pend S H h;simp only[aY]at h;have lift: ∀{Cs Es pend S H},Cert P call ops ms base S' H' (l1++r::l2) Cs Es pend S H->ops[r.i]?=some r.o/\∃je,je<=Es.length/\(∀q e,q<je->Es[q]?=some e->∃r'∈r0::l1,r'.i=e/\kN r'.o=true/\ops[r'.i]?=some r'.o)/\iE w0 P call ops ms base Cs Es l2 r je:=by
   intro Cs Es pend S H h;obtain⟨h1,je,h0,h2,h3⟩:=ih r l2 Cs Es pend S H h;exact⟨h1,je,h0,λq e hq he=>let ⟨r',ca,hh⟩:=h2 q e hq he;⟨r',aG _ ca,hh⟩,h3⟩
  cases h with
  |skip _ _ _ _ _ _ ho hw hv h=>exact lift h
  |pure _ _ _ _ _ _ ho hw hk hv h=>exact lift h
  |read _ _ _ _ _ _ ho hw hk h=>exact lift h
  |alloc _ _ _ _ _ _ ob ho hw hk hv h=>exact lift h
  |eff _ _ Cs' Es' _ _ H1 ho hw hk hc hv h=>
   obtain⟨h1,je,h0,h2,h3⟩:=ih r l2 Cs' Es' _ _ _ h;refine⟨h1,je+1,by simp;omega,λq e hq he=>?_,?_⟩
   .cases q with
    |zero=>simp at he;subst he;exact⟨r0,by simp,rfl,by simp[kN,hk],ho⟩
    |succ q=>obtain⟨r',ca,hh⟩:=h2 q e (by omega) (by simpa using he);exact⟨r',aG _ ca,hh⟩
   .rcases h3 with h3|h3|⟨a,b,c⟩|⟨a,b,ob,c,d⟩|⟨a,b,c,s,H2,s',d⟩
    .exact .inl h3
    .exact .inr (.inl h3)
    .refine .inr (.inr (.inl ⟨a,b,λj s hj hs hq=>?_⟩))
     cases j with
     |zero=>omega
     |succ j=>exact c j s (by omega) (by simpa using hs) (λq e h1 h2 he=>hq (q+1) e (by omega) (by omega) (by simpa using he))
    .refine .inr (.inr (.inr (.inl ⟨a,b,ob,c,λj s hj hs hq=>?_⟩)))
     cases j with
     |zero=>omega
     |succ j=>exact d j s (by omega) (by simpa using hs) (λq e h1 h2 he=>hq (q+1) e (by omega) (by omega) (by simpa using he))
    .exact .inr (.inr (.inr (.inr ⟨a,b,by simpa using c,s,H2,s',by simpa using d⟩)))
def Cert.slots: ∀(l1:List yZ) (l2:List yZ) (Cs:List St) (Es:List Nat) (pend:List iC) (S:Slots) (H:St) (T:Slots),Cert P call ops ms base S' H' (l1++l2) Cs Es pend S H->
    (∀r l3,l2=r::l3->r.S=T)->(l2=[]->S'=T)->∀x,((∀r∈l1,r.o.dst≠some x)->T.at x=S.at x)/\
      (∀p1 r p2,l1=p1++r::p2->r.o.dst=some x->(∀r'∈p2,r'.o.dst≠some x)->T.at x=r.v):=by
 intro l1;induction l1 with
 |nil=>
  intro l2 Cs Es pend S H T h hT hT' x;simp only[aW]at h;have:T=S:=by
   cases l2 with
   |nil=>rw[<-hT' rfl];cases h;rfl
   |cons r l3=>rw[<-hT r l3 rfl];cases h<;>rfl
  subst this;exact⟨λ_=>rfl,λp1 r p2 e=>by simp at e⟩
 |cons r0 l1 ih=>
  intro l2 Cs Es pend S H T h hT hT' x;simp only[aY]at h;have main: ∀{Cs Es pend H},Cert P call ops ms base S' H' (l1++l2) Cs Es pend (S.store r0.o.dst r0.v) H->((∀r∈r0::l1,r.o.dst≠some x)->T.at x=S.at x)/\
   (∀p1 r p2,r0::l1=p1++r::p2->r.o.dst=some x->(∀r'∈p2,r'.o.dst≠some x)->T.at x=r.v):=by
   intro Cs Es pend H h;obtain⟨h1,h2⟩:=ih l2 Cs Es pend _ H T h hT hT' x;refine⟨λhn=>?_,λp1 r p2 e hd hn=>?_⟩
   .rw[h1 (λr hr=>hn r (aG _ hr)),Slots.at_store,bH (hn r0 (by simp))]
   .cases p1 with
    |nil=>
     simp only[aW,List.cons.injEq]at e;obtain⟨rfl,rfl⟩:=e;rw[h1 hn,Slots.at_store,bI hd]
    |cons p p1=>
     simp only[aY,List.cons.injEq]at e;exact h2 p1 r p2 e.2 hd hn
  cases h with
  |skip _ _ _ _ _ _ ho hw hv h=>exact main h
  |pure _ _ _ _ _ _ ho hw hk hv h=>exact main h
  |read _ _ _ _ _ _ ho hw hk h=>exact main h
  |alloc _ _ _ _ _ _ ob ho hw hk hv h=>exact main h
  |eff _ _ Cs' Es' _ _ H1 ho hw hk hc hv h=>exact main h
def a1o(a b i:Nat):jC (a|||b) i=(jC a i||jC b i):=by
 have h: ∀m,jC m i=m.testBit i:=by
  intro m;unfold jC;rw[cR,Nat.testBit_eq_decide_div_mod_eq,Nat.shiftRight_eq_div_pow]
 rw[h,h,h,Nat.testBit_or]
def aAP(j i:Nat):jC (1<<<j) i=decide (i=j):=by
 unfold jC;have:(1<<<j>>>i)%2=if i=j then 1 else 0:=by
  have h:=Nat.testBit_eq_decide_div_mod_eq (x:=1<<<j) (i:=i);rw[<-Nat.shiftRight_eq_div_pow]at h;have h2:(1<<<j).testBit i=decide (i=j):=by
   rw[Nat.one_shiftLeft,Nat.testBit_two_pow];by_cases e:j=i
   .subst e;simp
   .simp[e,Ne.symm e]
  rw[h2]at h;by_cases e:i=j
  .rw[bI e];simp only[e,decide_true]at h;have:=of_decide_eq_true h.symm;rw[e];exact this
  .rw[bH e];simp only[e,decide_false]at h;have:=of_decide_eq_false h.symm;omega
 rw[this,cR];by_cases e:i=j<;>simp[e]
def Qu(i:Nat):jC 0 i=false:=by simp[jC,cR]
def PG(ps:List Nat)(o:Oper)(j:Nat)(h:jC (sM ps o) j=true): ∃e∈o.after,Region.binds .any e=true/\(e.on=j∨(e.on<ps.length/\jC (ps.getD e.on 0) j=true)):=by
 unfold sM at h;have main: ∀(l:List Edge) (m:Nat),jC (l.foldl (λm e=>bif Region.binds .any e then(m|||(1<<<e.on))|||ps.getD e.on 0 else m) m) j=true->jC m j=true∨∃e∈l,Region.binds .any e=true/\(e.on=j∨(e.on<ps.length/\jC (ps.getD e.on 0) j=true)):=by
  intro l;induction l with
  |nil=>intro m h;exact .inl h
  |cons e l ih=>
   intro m h;simp only[List.foldl_cons]at h;rcases ih _ h with h|⟨e',gf,h⟩
   .cases hb:Region.binds .any e with
    |false=>rw[hb]at h;exact .inl h
    |true=>
     rw[hb]at h;simp only[aI,a1o,aAP,Bool.or_eq_true,aD]at h;rcases h with(h|h)|h
     .exact .inl h
     .exact .inr ⟨e,by simp,hb,.inl h.symm⟩
     .refine .inr ⟨e,by simp,hb,.inr ⟨?_,h⟩⟩
      rcases Nat.lt_or_ge e.on ps.length with hl|hl
      .exact hl
      .rw[List.getD_eq_getElem?_getD,List.getElem?_eq_none hl]at h;simp[Qu]at h
   .exact .inr ⟨e',aG _ gf,h⟩
 rcases main _ _ h with h|⟨e,he,h⟩
 .rw[Qu]at h;cases h
 .exact⟨e,Array.mem_toList_iff.1 he,h⟩
def aAq: ∀(l:List Oper) (ps:List Nat) (i:Nat),(∀(h:i<ps.length),(eD l ps).getD i 0=ps.getD i 0)/\(∀(k:Nat) (o:Oper),i=ps.length+k->l[k]?=some o->∃qs,(eD l ps).getD i 0=sM qs o/\qs.length=i/\∀j,j<i->qs.getD j 0=(eD l ps).getD j 0):=by
 intro l;induction l with
 |nil=>intro ps i;exact⟨λ_=>rfl,λk o _ h=>by simp at h⟩
 |cons o l ih=>
  intro ps i;simp only[eD];have jy: ∀j,j<ps.length->(ps++ [sM ps o]).getD j 0=ps.getD j 0:=λj hj=>by
   simp only[List.getD_eq_getElem?_getD,List.getElem?_append_left hj]
  refine⟨λh=>?_,λk o' hi hk=>?_⟩
  .rw[(ih (ps++ [sM ps o]) i).1 (by simp;omega),jy i h]
  .cases k with
   |zero=>
    simp only[aU,aA]at hk;subst hk;refine⟨ps,?_,by omega,λj hj=>?_⟩
    .rw[(ih (ps++ [sM ps o]) i).1 (by simp;omega)]
     simp[List.getD_eq_getElem?_getD,hi]
    .rw[(ih (ps++ [sM ps o]) j).1 (by simp;omega),jy j (by omega)]
   |succ k=>exact(ih (ps++ [sM ps o]) i).2 k o' (by simp;omega) (by simpa using hk)
structure Aj(ops:Array Oper)(ms:List Nat)(order:List Nat):Prop where
 edge: ∃rk:Nat->Nat,∀i o e,ops[i]?=some o->e∈o.after->Region.binds .any e=true->rk e.on<rk i/\e.on<ops.size
 mask: ∀i o j,ops[i]?=some o->jC (ms.getD i 0) j=true->∃e∈o.after,Region.binds .any e=true/\(e.on=j∨(e.on<i/\jC (ms.getD e.on 0) j=true))
 guard: ∀i o j b,ops[i]?=some o->o.guard=some (j,b)->jC (ms.getD i 0) j=true/\j<ops.size
 haz: ∀(i j:Nat) (o o':Oper) (d:Tmp),i≠j->ops[i]?=some o->ops[j]?=some o'->o'.dst=some d->d∈o.looksAt ops->jC (ms.getD i 0) j=true∨jC (ms.getD j 0) i=true
 dsts: ∀(i j:Nat) (o o':Oper) (d:Tmp),i≠j->ops[i]?=some o->ops[j]?=some o'->o.dst=some d->o'.dst=some d->False
 split: ∀l1 i l2,order=l1++i::l2->i<ops.size/\i∉l1/\(∀j,j<ops.size->jC (ms.getD i 0) j=true->j∈l1)/\(∀e o,e∈l1->ops[e]?=some o->kN o=true->jC (ms.getD i 0) e=true)
 all: ∀i,i<ops.size->i∈order
def ZH: ∀(order done:List Nat),OA ops ms order done=true->
    (∀l1 i l2,order=l1++i::l2->i<ops.size/\i∉l1/\i∉done/\(∀j,j<ops.size->jC (ms.getD i 0) j=true->j∈l1∨j∈done)/\(∀e o,(e∈l1∨e∈done)->ops[e]?=some o->kN o=true->jC (ms.getD i 0) e=true))/\
    (∀i,i<ops.size->i∈order∨i∈done):=by
 intro order;induction order with
 |nil=>
  intro done h;simp only[OA,bJ,List.mem_range,List.contains_iff_mem]at h;exact⟨λl1 i l2 e=>by simp at e,λi hi=> .inr (h i hi)⟩
 |cons a rest ih=>
  intro done h;simp only[OA,aC,gW,aD,bJ,List.mem_range,Bool.or_eq_true,Bool.not_eq_true',List.contains_iff_mem]at h;obtain⟨⟨⟨⟨h1,h2⟩,h3⟩,h4⟩,h5⟩:=h;obtain⟨g1,g2⟩:=ih _ h5;have gl:a∉done:=by intro hm;rw[List.contains_iff_mem.2 hm]at h2;cases h2
  refine⟨λl1 i l2 e=>?_,λi hi=>?_⟩
  .cases l1 with
   |nil=>
    simp only[aW,List.cons.injEq]at e;obtain⟨rfl,rfl⟩:=e;refine⟨h1,by simp,gl,λj hj hb=>?_,λe o he ho hef=>?_⟩
    .rcases h3 j hj with hh|hh
     .rw[hb]at hh;cases hh
     .exact .inr hh
    .rcases he with he|he
     .cases he
     .rcases h4 e he with hh|hh
      .simp[aOV,ho,hef]at hh
      .exact hh
   |cons b l1=>
    simp only[aY,List.cons.injEq]at e;obtain⟨rfl,e⟩:=e;obtain⟨k1,k2,k3,k4,k5⟩:=g1 l1 i l2 e;simp only[List.mem_cons,not_or]at k3;refine⟨k1,by simp only[List.mem_cons,not_or];exact⟨k3.1,k2⟩,k3.2,λj hj hb=>?_,λe o he=>k5 e o ?_⟩
    .rcases k4 j hj hb with h|h
     .exact .inl (aG _ h)
     .rcases List.mem_cons.1 h with h|h
      .exact .inl (by simp[h])
      .exact .inr h
    .rcases he with he|he
     .rcases List.mem_cons.1 he with h|h
      .exact .inr (by simp[h])
      .exact .inl h
     .exact .inr (aG _ he)
  .rcases g2 i hi with h|h
   .exact .inl (aG _ h)
   .rcases List.mem_cons.1 h with h|h
    .exact .inl (by simp[h])
    .exact .inr h
def Kv{rk:Nat->Nat}{order:List Nat}(h:sH rk ops order=true):Aj ops (eD ops.toList []) order:=by
 unfold sH at h;simp only[aC,bJ]at h;obtain⟨ht,hl⟩:=h;obtain⟨t1,t2⟩:=ZH _ _ ht;have mem: ∀{i o},ops[i]?=some o->(o,i)∈ops.toList.zipIdx:=by
  intro i o ho;rw[List.mem_zipIdx_iff_getElem?];simpa using ho
 refine⟨?_,?_,?_,?_,?_,?_,?_⟩
 .refine⟨rk,?_⟩;intro i o e ho he hb;have:=(hl _ (mem ho)).1.1;have:=this e (Array.mem_toList_iff.2 he);simp only[hb,bD,Bool.false_or,gW,aC,aD]at this;exact this
 .intro i o j ho hb;have hlo:ops.toList[i]?=some o:=by simpa using ho
  obtain⟨qs,h1,h2,h3⟩:=(aAq ops.toList [] i).2 i o (by simp) hlo
  rw[h1]at hb;obtain⟨e,he,md,hor⟩:=PG qs o j hb;refine⟨e,he,md,hor.imp id λ⟨bi,tp⟩=>⟨by omega,?_⟩⟩
  rw[h3 e.on (by omega)]at tp;exact tp
 .intro i o j b ho hg;have:=(hl _ (mem ho)).1.2;simp only[hg,aC,gW,aD]at this;exact this
 .intro i j o o' d bn ho gb hd lu;have:=(hl _ (mem ho)).2 _ (mem gb);simp only[Ke,cR,bn,decide_false,Bool.false_or,hd,aC,Bool.or_eq_true]at this;rcases this.1 with(h|h)|h
  .exact .inl h
  .exact .inr h
  .rw[List.contains_iff_mem.2 lu]at h;cases h
 .intro i j o o' d bn ho gb hd lb;have:=(hl _ (mem ho)).2 _ (mem gb);simp only[Ke,cR,bn,decide_false,Bool.false_or,hd,lb,aC,decide_true,bD]at this;exact absurd this.2 (by simp)
 .intro l1 i l2 e;obtain⟨h1,h2,h3,h4,h5⟩:=t1 l1 i l2 e;exact⟨h1,h2,λj hj hb=>(h4 j hj hb).resolve_right (by simp),λe o he=>h5 e o (.inl he)⟩
 .intro i hi;exact(t2 i hi).resolve_right (by simp)
def aDD(h:Ee ops=true):sH (λi=>i) ops (pX ops (eD ops.toList []))=true:=by
 unfold Ee at h;unfold sH;simp only[aC,bJ]at h⊢;obtain⟨ht,hl⟩:=h;refine⟨ht,λx hx=>?_⟩
 obtain⟨⟨h1,h2⟩,h3⟩:=hl x hx;refine⟨⟨λe he=>?_,h2⟩,h3⟩
 have h4:=h1 e he;cases hb:Region.binds .any e with
 |false=>rfl
 |true=>
  rw[hb]at h4;simp only[bD,Bool.false_or,gW,aD,aC]at h4⊢;have lj:ops.toList[x.2]?=some x.1:=by
   have:=List.mem_zipIdx_iff_getElem?.1 (show(x.1,x.2)∈ops.toList.zipIdx from hx)
   exact this
  have hi:=(List.getElem?_eq_some_iff.1 lj).1;exact⟨h4,by have:ops.toList.length=ops.size:=Array.length_toList;omega⟩
def a0g(h:Ee ops=true):Aj ops (eD ops.toList []) (pX ops (eD ops.toList [])):=Kv (aDD h)
structure Bm(w0:W0)(P:Program)(ops:Array Oper)(base α n0:Nat)(S0:Slots)(rs:List yZ)(Cs:List St)(Es:List Nat)(Y0:Mp)(listed:Array Bool)(a:Act)(w:World)(Y:Mp)(k:Nat)(s:St):Prop where
 size:listed.size=ops.size
 closed: ∀(i:Nat) (o:Oper) (e:Edge),ops[i]?=some o->listed.getD i false=true->e∈o.after->Region.binds .any e=true->listed.getD e.on false=true
 count: ∀(q e:Nat),Es[q]?=some e->(listed.getD e false=true↔q<k)
 state:Cs[k]?=some s
 sim:Sim w0 P Y s w
 next:base+ops.size<=s.next
 none: ∀i,i<ops.size->listed.getD i false=false->Y (base+i)=none
 ext:Ext n0 Y0 Y
 tsize:α<=a.tmps.size
 defers:a.defers=[]
 here: ∀r∈rs,listed.getD r.i false=true->∀x,r.o.dst=some x->VR Y r.v (a.tmps.getD x undef)
 there: ∀x,(∀r∈rs,listed.getD r.i false=true->r.o.dst≠some x)->VR Y (S0.at x) (a.tmps.getD x undef)
def vG(listed:Array Bool)(i j:Nat)(h:i<listed.size):(listed.setIfInBounds i true).getD j false=if j=i then true else listed.getD j false:=by
 by_cases e:j=i
 .subst e;rw[bI rfl];simp[Array.getD_eq_getD_getElem?,h]
 .rw[bH e,getD_set_ne false (Ne.symm e)]
def pS{order:List Nat}(D:Aj ops ms order){listed:Array Bool}
    (closed: ∀(i:Nat) (o:Oper) (e:Edge),ops[i]?=some o->listed.getD i false=true->e∈o.after->Region.binds .any e=true->listed.getD e.on false=true):
    ∀(i j:Nat) (o:Oper),ops[i]?=some o->(∀e∈o.after,Region.binds .any e=true->listed.getD e.on false=true)->jC (ms.getD i 0) j=true->listed.getD j false=true:=by
 intro i;induction i using Nat.strongRecOn with
 |_ i ih=>
  intro j o ho dc hb;obtain⟨e,he,md,hor⟩:=D.mask i o j ho hb;have hl:=dc e he md;rcases hor with rfl|⟨bi,tp⟩
  .exact hl
  .have hio:i<ops.size:=(Array.getElem?_eq_some_iff.1 ho).1;have hoe:ops[e.on]?=some (ops[e.on]'(by omega)):=Array.getElem?_eq_getElem _
   exact ih e.on bi j _ hoe (λe' gf bu=>closed e.on _ e' hoe hl gf bu) tp
def gF{listed:Array Bool}{i:Nat}(h:listed.getD i true=false):listed.getD i false=false/\i<listed.size:=by
 rw[Array.getD_eq_getD_getElem?]at h⊢;cases hc:listed[i]? with
 |none=>simp[hc]at h
 |some b=>simp[hc]at h⊢;exact⟨h,(Array.getElem?_eq_some_iff.1 hc).1⟩
def aJT(listed:Array Bool):Nat:=(listed.toList.filter λb=> !b).length
def C0{listed:Array Bool}{i:Nat}(h:listed.getD i true=false):aJT (listed.setIfInBounds i true)+1=aJT listed:=by
 obtain⟨_,hi⟩:=gF h;have hv:listed[i]=false:=by rw[Array.getD_eq_getD_getElem?,Array.getElem?_eq_getElem hi]at h;simpa using h
 unfold aJT;rw[Array.toList_setIfInBounds];have main: ∀(l:List Bool) (i:Nat) (hi:i<l.length),l[i]=false->((l.set i true).filter λb=> !b).length+1=(l.filter λb=> !b).length:=by
  intro l;induction l with
  |nil=>intro i hi;simp at hi
  |cons b l ih=>
   intro i hi hv;cases i with
   |zero=>simp at hv;subst hv;simp
   |succ i=>
    have:=ih i (by simpa using hi) (by simpa using hv)
    cases b<;>simp[List.filter_cons]<;>omega
 exact main listed.toList i (by simpa using hi) (by simpa using hv)
def fG{N:Type}{l:List N}{x:N}(h:x∈l): ∃l1 l2,l=l1++x::l2:=List.append_of_mem h
def EP(bj:CallOK w0 P call){order:List Nat}(D:Aj ops ms order){α n0:Nat}(bw: ∀o∈ops.toList,lB P α o=true){rs:List yZ}{Cs:List St}{Es:List Nat}{S0:Slots}{H0:St}{Y0:Mp}(hn0:n0<=base)
    (C:Cert P call ops ms base S' H' rs Cs Es [] S0 H0) (ln:rs.map (·.i)=order) {Q:Exit->Act->World->Prop} (cw:pI w0 P Y0 n0 α S' H' (Q .normal)):
    (∀(listed:Array Bool) (a:Act) (w:World) (Y:Mp) (k:Nat) (s:St),Bm w0 P ops base α n0 S0 rs Cs Es Y0 listed a w Y k s->(∀i,i<ops.size->listed.getD i false=true)->Q .normal a w)/\
    ∀(listed:Array Bool) (a:Act) (w:World) (Y:Mp) (k:Nat) (s:St),Bm w0 P ops base α n0 S0 rs Cs Es Y0 listed a w Y k s->∀i∈Region.ready .any ops listed,
      wpOp P ops Q i (λa' w'=> ∃Y' k' s',Bm w0 P ops base α n0 S0 rs Cs Es Y0 (listed.setIfInBounds i true) a' w' Y' k' s') a w:=by
 have hrec: ∀i,i<ops.size->∃l1 r l2,rs=l1++r::l2/\r.i=i:=by
  intro i hi;have:=D.all i hi;rw[<-ln]at this;obtain⟨r,hr,rfl⟩:=List.mem_map.1 this;obtain⟨l1,l2,e⟩:=fG hr;exact⟨l1,r,l2,e,rfl⟩
 have jr: ∀{l1 r l2},rs=l1++r::l2->r.i<ops.size/\(∀r'∈l1,r'.i≠r.i)/\(∀j,j<ops.size->jC (ms.getD r.i 0) j=true->∃r'∈l1,r'.i=j)/\(∀r' o,r'∈l1->ops[r'.i]?=some o->kN o=true->jC (ms.getD r.i 0) r'.i=true):=by
  intro l1 r l2 e;obtain⟨h1,h2,h3,h4⟩:=D.split (l1.map (·.i)) r.i (l2.map (·.i)) (by rw[<-ln,e];simp)
  refine⟨h1,λr' ca e'=>h2 (List.mem_map.2 ⟨r',ca,e'⟩),λj hj hb=>?_,λr' o ca ho he=>h4 r'.i o (List.mem_map.2 ⟨r',ca,rfl⟩) ho he⟩
  obtain⟨r',ca,e'⟩:=List.mem_map.1 (h3 j hj hb);exact⟨r',ca,e'⟩
 have my: ∀r∈rs,ops[r.i]?=some r.o:=by
  intro r hr;obtain⟨l1,l2,e⟩:=fG hr;rw[e]at C;exact(C.at (w0:=w0) l1 r l2).1
 have jq: ∀r1∈rs,∀r2∈rs,r1.i=r2.i->r1=r2:=by
  intro r1 h1 r2 h2 e;obtain⟨l1,l2,e1⟩:=fG h1;rw[e1]at h2;rcases List.mem_append.1 h2 with h|h
  .exact absurd e.symm ((jr e1).2.1 r2 h)
  .rcases List.mem_cons.1 h with h|h
   .exact h.symm
   .obtain⟨m1,m2,e2⟩:=fG h;exact absurd e ((jr (l1:=l1++r1::m1) (r:=r2) (l2:=m2) (by rw[e1,e2];simp)).2.1 r1 (by simp))
 have fin: ∀(listed:Array Bool) (a:Act) (w:World) (Y:Mp) (k:Nat) (s:St),Bm w0 P ops base α n0 S0 rs Cs Es Y0 listed a w Y k s->(∀i,i<ops.size->listed.getD i false=true)->Q .normal a w:=by
  intro listed a w Y k s G dc;have hk:k=Es.length:=by
   obtain⟨hl,_⟩:=C.lens;have h1:k<Cs.length:=by
    rcases Nat.lt_or_ge k Cs.length with h|h
    .exact h
    .have:=G.state;rw[List.getElem?_eq_none h]at this;cases this
   rcases Nat.lt_or_ge k Es.length with h|h
   .have he:=aV h;have bi:Es[k]<ops.size:=by
     rcases Nat.lt_or_ge Es[k] ops.size with h'|h'
     .exact h'
     .have:listed.getD Es[k] false=false:=by rw[Array.getD_eq_getD_getElem?,Array.getElem?_eq_none (by rw[G.size];exact h')];rfl
      exact absurd ((C.at_eff he).1) (by omega)
    have:=(G.count k _ he).1 (dc _ bi);omega
   .omega
  subst hk;have hs:s=H':=by have:=G.state;rw[C.lens.2]at this;cases this;rfl
  subst hs;refine cw a w Y ⟨G.tsize,G.defers,λx=>?_⟩ G.sim G.ext (by have:=G.next;omega)
  have hs:=Cert.slots rs [] Cs Es [] S0 H0 S' (by simpa using C) (λr l3 e=>by cases e) (λ_=>rfl) x
  by_cases hx: ∃r∈rs,r.o.dst=some x
  .obtain⟨r,hr,hd⟩:=hx;obtain⟨l1,l2,e⟩:=fG hr;rw[hs.2 l1 r l2 e hd (λr' ca lb=>by
    have bm:r.i≠r'.i:=by
     obtain⟨m1,m2,e2⟩:=fG ca;exact(jr (l1:=l1++r::m1) (r:=r') (l2:=m2) (by rw[e,e2];simp)).2.1 r (by simp)
    exact D.dsts r.i r'.i r.o r'.o x bm (my r hr) (my r' (by rw[e];simp[ca])) hd lb)]
   exact G.here r hr (dc _ (jr e).1) x hd
  .have lj: ∀r∈rs,r.o.dst≠some x:=λr hr hd=>hx ⟨r,hr,hd⟩
   rw[hs.1 lj];exact G.there x (λr hr _=>lj r hr)
 refine⟨fin,?_⟩;intro listed a w Y k s G i hi;obtain⟨h1,o,ho,dc⟩:=mem_ready.1 hi;obtain⟨h2,h3⟩:=gF h1;have hio:i<ops.size:=by rw[<-G.size];exact h3
 obtain⟨l1,r,l2,bg,hri⟩:=hrec i hio;subst hri;have ju:r∈rs:=by rw[bg];simp
 have hor:r.o=o:=by have:=my r ju;rw[ho]at this;cases this;rfl
 subst hor;have mi:=bw r.o (by have:ops.toList[r.i]?=some r.o:=(by simpa using ho);exact List.mem_of_getElem? this)
 obtain⟨sp1,sp2,sp3,sp4⟩:=jr bg;have hml:=pS D G.closed r.i;have cy:=Cert.slots l1 (r::l2) Cs Es [] S0 H0 r.S (by rw[<-bg];exact C) (λr' l3 e=>by cases e;rfl) (λe=>by cases e)
 have lu: ∀x,x∈r.o.looksAt ops->VR Y (r.S.at x) (a.tmps.getD x undef):=by
  intro x hx;by_cases hex: ∃r'∈rs,r'.o.dst=some x
  .obtain⟨r',ca,lb⟩:=hex;have only: ∀r''∈rs,r''.o.dst=some x->r''=r':=by
    intro r'' di ji;by_cases e:r''.i=r'.i
    .exact jq _ di _ ca e
    .exact(D.dsts _ _ _ _ x e (my _ di) (my _ ca) ji lb).elim
   by_cases e:r'.i=r.i
   .have:r'=r:=jq _ ca _ ju e;subst this;rw[(cy x).1 (λr'' di ji=>by
     have:=only r'' (by rw[bg];simp[di]) ji
     subst this;exact sp2 r'' di rfl)]
    exact G.there x (λr'' di hl ji=>by
     have:=only r'' di ji;subst this;rw[h2]at hl;cases hl)
   .rcases D.haz r.i r'.i r.o r'.o x (Ne.symm e) ho (my _ ca) lb hx with hb|hb
    ·
     have hlst:=hml r'.i r.o ho dc hb;have bi:r'.i<ops.size:=(Array.getElem?_eq_some_iff.1 (my _ ca)).1;obtain⟨r'',di,e''⟩:=sp3 r'.i bi hb;have:r''=r':=jq _ (by rw[bg];simp[di]) _ ca e''
     subst this;obtain⟨p1,p2,ep⟩:=fG di;rw[(cy x).2 p1 r'' p2 ep lb (λq hq hdq=>by
      have hqr:q∈rs:=by rw[bg,ep];simp[hq]
      have:=only q hqr hdq;subst this;obtain⟨m1,m2,e2⟩:=fG hq;exact(jr (l1:=p1++q::m1) (r:=q) (l2:=m2++r::l2) (by rw[bg,ep,e2];simp)).2.1 q (by simp) rfl)]
     exact G.here r'' ca hlst x lb
    ·
     have ky:listed.getD r'.i false=false:=by
      cases hc:listed.getD r'.i false with
      |false=>rfl
      |true=>
       have:=pS D G.closed r'.i r.i r'.o (my _ ca) (λe he md=>G.closed r'.i r'.o e (my _ ca) hc he md) hb
       rw[h2]at this;cases this
     have rj:r'∉l1:=by
      intro hm;obtain⟨p1,p2,ep⟩:=fG hm;obtain⟨q,hq,eq⟩:=(jr (l1:=p1) (r:=r') (l2:=p2++r::l2) (by rw[bg,ep];simp)).2.2.1 r.i hio hb
      exact sp2 q (by rw[ep];simp[hq]) eq
     rw[(cy x).1 (λr'' di ji=>by
      have:=only r'' (by rw[bg];simp[di]) ji
      subst this;exact rj di)]
     exact G.there x (λr'' di hl ji=>by
      have:=only r'' di ji;subst this;rw[ky]at hl;cases hl)
  .have hex': ∀r'∈rs,r'.o.dst≠some x:=λr' ca lb=>hex ⟨r',ca,lb⟩
   rw[(cy x).1 (λr' ca=>hex' r' (by rw[bg];simp[ca]))]
   exact G.there x (λr' ca _=>hex' r' ca)
 have hρ: ∀x∈r.o.op.operands,VR Y (ev r.S x) (a.eval x):=by
  intro x hx;have xc:=Ed mi x hx;cases x with
  |tmp t=>
   refine lu t ?_;unfold Oper.looksAt;exact List.mem_append.2 (.inl (List.mem_filterMap.2 ⟨.tmp t,Array.mem_toList_iff.2 hx,rfl⟩))
  |const v=>exact .same1 xc
  |global g=>
   simp only[cG,gW,aD]at xc;obtain⟨p,hp,hb,gb⟩:=G.sim.glob g xc;have:=VR.ptr (Y:=Y) g 0 p hp;rw[hb,gb]at this;exact this
  |func f=>exact .fn _ _ _ _ _ rfl (λi x u h=>by simp at h) rfl (λi x u h=>by simp at h)
 have hwant:wanted ops r.S r.o=Region.wanted r.o (yielded ops a.tmps):=by
  refine Do (Y:=Y) ops r.o (λj want d hg hd=>lu d ?_)
  unfold Oper.looksAt;rw[hg];exact List.mem_append.2 (.inr (by simp[hd]))
 have fj: ∀j,(listed.setIfInBounds r.i true).getD j false=if j=r.i then true else listed.getD j false:=λj=>vG listed r.i j h3
 have step: ∀(a':Act) (w':World) (Y':Mp) (k':Nat) (s':St) (v':Value),a'=a.put r.o.dst v'->VR Y' r.v v'->Cs[k']?=some s'->Sim w0 P Y' s' w'->base+ops.size<=s'.next->
      (∀k p,Y k=some p->Y' k=some p)->(∀j,j<base+ops.size->j≠base+r.i->Y' j=Y j)->
      (∀(q e:Nat),Es[q]?=some e->((e=r.i∨listed.getD e false=true)↔q<k'))->Bm w0 P ops base α n0 S0 rs Cs Es Y0 (listed.setIfInBounds r.i true) a' w' Y' k' s':=by
  intro a' w' Y' k' s' v' cx fc cf hsim mj cb cm hcnt;have hdst:=zM mi;refine⟨by simp[G.size],?_,?_,cf,hsim,mj,?_,?_,?_,?_,?_,?_⟩
  .intro j oj e hoj hl he md;rw[fj]at hl⊢;split
   .rfl
   .split at hl
    .rename_i ej;subst ej;rw[ho]at hoj;cases hoj;exact dc e he md
    .exact G.closed j oj e hoj hl he md
  .intro q e hq;rw[fj];rw[<-hcnt q e hq];by_cases he:e=r.i
   .simp[he]
   .simp[he]
  .intro j hj hl;rw[fj]at hl;split at hl
   .cases hl
   .rename_i bm;rw[cm (base+j) (by omega) (by omega)]
    exact G.none j hj hl
  .exact⟨λk p hk=>cb k p (G.ext.1 k p hk),λk hk=>(cm k (by omega) (by omega)).trans (G.ext.2 k hk)⟩
  .subst cx;have:=G.tsize;cases r.o.dst<;>simp[Act.put,this]
  .subst cx;cases r.o.dst<;>simp[Act.put,G.defers]
  .intro q hq hl x hd;subst cx;rw[EG _ _ _ _ (λt e=>Nat.lt_of_lt_of_le (hdst t e) G.tsize)]
   rw[fj]at hl;by_cases e:q.i=r.i
   .have:q=r:=jq _ hq _ ju e;subst this;rw[bI hd];exact fc
   .rw[bH e]at hl;have gl:r.o.dst≠some x:=λlb=>D.dsts q.i r.i q.o r.o x e (my _ hq) ho hd lb
    rw[bH gl];exact(G.here q hq hl x hd).mono' cb
  .intro x hx;subst cx;rw[EG _ _ _ _ (λt e=>Nat.lt_of_lt_of_le (hdst t e) G.tsize)]
   have gl:r.o.dst≠some x:=hx r ju (by rw[fj,bI rfl])
   rw[bH gl];refine(G.there x λq hq hl=>hx q hq ?_).mono' cb
   rw[fj];split
   .rfl
   .exact hl
 obtain⟨_,je,wa,hje,hR⟩:=Cert.at (w0:=w0) l1 r l2 Cs Es [] S0 H0 (by rw[<-bg];exact C)
 have hjek: ∀q,q<je->∀e,Es[q]?=some e->q<k:=by
  intro q hq e he;obtain⟨r',ca,e',hef,gb⟩:=hje q e hq he;have hb:=sp4 r' r'.o ca gb hef;have:=hml r'.i r.o ho dc hb;rw[e']at this;exact(G.count q e he).1 this
 have hkl:k<=Es.length:=by
  have h1:k<Cs.length:=by
   rcases Nat.lt_or_ge k Cs.length with h|h
   .exact h
   .have:=G.state;rw[List.getElem?_eq_none h]at this;cases this
  have:=C.lens.1;omega
 have hjk:je<=k:=by
  rcases Nat.lt_or_ge k je with h|h
  .have bi:k<Es.length:=by omega
   have:=hjek k h _ (aV bi);omega
  .exact h
 have li:(wanted ops r.S r.o=false∨cO r.o≠ .eff)->∀(q e:Nat),Es[q]?=some e->((e=r.i∨listed.getD e false=true)↔q<k):=by
  intro bm q e he;have:e≠r.i:=by
   intro ee;obtain⟨_,r',h1',h2',h3',h4',h5'⟩:=C.at_eff he;have:r'=r:=jq _ h1' _ ju (by rw[h2',ee])
   subst this;rcases bm with h|h
   .rw[h]at h5';cases h5'
   .exact h h4'
  simp only[this,false_or];exact G.count q e he
 have vz: ∀(q e:Nat),je<=q->q<k->Es[q]?=some e->jC (ms.getD e 0) r.i=false:=by
  intro q e _ hqk he;cases hb:jC (ms.getD e 0) r.i with
  |false=>rfl
  |true=>
   obtain⟨_,r',h1',h2',h3',_⟩:=C.at_eff he;have hle:=(G.count q e he).2 hqk;have:=pS D G.closed e r.i r'.o h3' (λe' gf md=>G.closed e r'.o e' h3' hle gf md) hb
   rw[h2]at this;cases this
 have bz:=G.none r.i hio h2;have hltn:base+r.i<s.next:=by have:=G.next;omega
 unfold wpOp;rw[ho];simp only;rw[<-hwant];rcases hR with⟨hw,hv⟩|⟨hw,hk,hv⟩|⟨hw,hk,hv⟩|⟨hw,hk,ob,hv,fi⟩|⟨hw,hk,hEs,s0,H1,s',hCs,hv,hCs',hnx',htr⟩
 .rw[hw];simp only[Bool.false_eq_true,if_false];exact⟨Y,k,s,step _ w Y k s undef rfl (by rw[hv];exact .undef) G.state G.sim G.next (λ_ _ h=>h) (λ_ _ _=>rfl) (li (.inl hw))⟩
 .rw[hw];simp only[if_true];refine .inl (Oper.wp_mono (λa' w' hL=>?_) (WP (base+r.i) G.sim hρ hv (Q:=Q)))
  obtain⟨Y',v',cx,fc,hZ,cb,cm,mj⟩:=hL;exact⟨Y',k,s,step a' w' Y' k s v' cx fc G.state hZ G.next cb (λj hj bm=>cm j (by have:=G.next;omega) bm) (li (.inr (by rw[hk];simp)))⟩
 .rw[hw];simp only[if_true];refine .inl (Oper.wp_mono (λa' w' hL=>?_) (WH (base+r.i) G.sim hρ (hv k s hjk G.state vz) (Q:=Q)))
  obtain⟨Y',v',cx,fc,hZ,cb,cm,mj⟩:=hL;exact⟨Y',k,s,step a' w' Y' k s v' cx fc G.state hZ G.next cb (λj hj bm=>cm j (by have:=G.next;omega) bm) (li (.inr (by rw[hk];simp)))⟩
 .rw[hw];simp only[if_true];refine .inl (Oper.wp_mono (λa' w' hL=>?_) (Qz G.sim hρ bz hltn hv (fi k s hjk G.state vz) (Q:=Q)))
  obtain⟨Y',v',cx,fc,hZ,cb,cm,mj⟩:=hL;exact⟨Y',k,s,step a' w' Y' k s v' cx fc G.state hZ G.next cb (λj hj bm=>cm j (by have:=G.next;omega) bm) (li (.inr (by rw[hk];simp)))⟩
 .rw[hw];simp only[if_true];have hje':je=k:=by
   rcases Nat.lt_or_ge je k with h|h
   .have:=(G.count je r.i hEs).2 h;rw[h2]at this;cases this
   .omega
  subst hje';have hs0:s0=s:=by have:=G.state;rw[hCs]at this;cases this;rfl
  subst hs0;refine .inl (Oper.wp_mono (λa' w' hL=>?_) (aE9 bj G.sim hρ bz hltn hv (Q:=Q)))
  obtain⟨Y',v',cx,fc,hZ,cb,cm,mj⟩:=hL;have xf: ∀r'∈l2,Y' (base+r'.i)=none:=by
   intro r' ca;obtain⟨m1,m2,e2⟩:=fG ca;obtain⟨q1,q2,q3,q4⟩:=jr (l1:=l1++r::m1) (r:=r') (l2:=m2) (by rw[bg,e2];simp)
   have hb:=q4 r r.o (by simp) ho (by simp[kN,hk])
   have bm:r.i≠r'.i:=q2 r (by simp)
   have ky:listed.getD r'.i false=false:=by
    cases hc:listed.getD r'.i false with
    |false=>rfl
    |true=>
     have hr'm:r'∈rs:=by rw[bg];simp[ca]
     have:=pS D G.closed r'.i r.i r'.o (my _ hr'm) (λe he md=>G.closed r'.i r'.o e (my _ hr'm) hc he md) hb
     rw[h2]at this;cases this
   rw[cm (base+r'.i) (by have:=G.next;omega) (by omega)]
   exact G.none r'.i q1 ky
  have gl:Es.Nodup:=C.effs_nodup (by rw[ln];exact Eh _ (λl1 i l2 e=>(D.split l1 i l2 e).2.1))
  refine⟨Y',je+1,s',step a' w' Y' (je+1) s' v' cx fc hCs' (htr Y' w' xf hZ) (by have:=G.next;omega) cb (λj hj bm=>cm j (by have:=G.next;omega) bm) (λq e he=>?_)⟩
  constructor
  .rintro(h|h)
   .subst h;have hq:q<Es.length:=(List.getElem?_eq_some_iff.1 he).1;have hj:je<Es.length:=(List.getElem?_eq_some_iff.1 hEs).1;have e1:Es[q]=r.i:=(List.getElem?_eq_some_iff.1 he).2;have e2:Es[je]=r.i:=(List.getElem?_eq_some_iff.1 hEs).2;rcases Nat.lt_or_ge q je with h'|h'
    .omega
    .rcases Nat.eq_or_lt_of_le h' with h'|h'
     .omega
     .exact absurd (e2.trans e1.symm) (List.pairwise_iff_getElem.1 gl je q hj hq h')
   .have:=(G.count q e he).1 h;omega
  .intro h;rcases Nat.lt_or_ge q je with h'|h'
   .exact .inr ((G.count q e he).2 h')
   .have:q=je:=by omega
    subst this;rw[hEs]at he;cases he;exact .inl rfl
def Ku(bj:CallOK w0 P call){order:List Nat}(D:Aj ops ms order){α n0:Nat}(bw: ∀o∈ops.toList,lB P α o=true){rs:List yZ}{Cs:List St}{Es:List Nat}{S0:Slots}{H0:St}{Y0:Mp}(hn0:n0<=base)
    (C:Cert P call ops ms base S' H' rs Cs Es [] S0 H0) (ln:rs.map (·.i)=order) {Q:Exit->Act->World->Prop} (cw:pI w0 P Y0 n0 α S' H' (Q .normal)):
    ∀(fuel:Nat) (listed:Array Bool) (a:Act) (w:World) (Y:Mp) (k:Nat) (s:St),aJT listed<=fuel->Bm w0 P ops base α n0 S0 rs Cs Es Y0 listed a w Y k s->wpAny P .any ops Q fuel listed a w:=by
 obtain⟨fin,step⟩:=EP bj D bw hn0 C ln cw;intro fuel;induction fuel with
 |zero=>
  intro listed a w Y k s hu G;have dc: ∀i,i<ops.size->listed.getD i false=true:=by
   intro i hi;cases hb:listed.getD i false with
   |true=>rfl
   |false=>
    have h1:listed.getD i true=false:=by
     rw[Array.getD_eq_getD_getElem?,Array.getElem?_eq_getElem (by rw[G.size];exact hi)]at hb⊢;simpa using hb
    have:=C0 h1;omega
  refine⟨?_,fin listed a w Y k s G dc⟩;cases hr:Region.ready .any ops listed with
  |nil=>rfl
  |cons i l=>
   have hm:i∈Region.ready .any ops listed:=by rw[hr];simp
   obtain⟨h1,o,ho,_⟩:=mem_ready.1 hm;obtain⟨h2,h3⟩:=gF h1;rw[dc i (by rw[<-G.size];exact h3)]at h2;cases h2
 |succ fuel ih=>
  intro listed a w Y k s hu G;refine⟨λhr=>?_,λi hi=>?_⟩
  ·
   refine fin listed a w Y k s G ?_;obtain⟨rk,hrk⟩:=D.edge;have main: ∀(m i:Nat),rk i=m->i<ops.size->listed.getD i false=true:=by
    intro m;induction m using Nat.strongRecOn with
    |_ m ihi=>
     intro i hm hi;cases hb:listed.getD i false with
     |true=>rfl
     |false=>
      exfalso;have h1:listed.getD i true=false:=by
       rw[Array.getD_eq_getD_getElem?,Array.getElem?_eq_getElem (by rw[G.size];exact hi)]at hb⊢;simpa using hb
      have ho:ops[i]?=some ops[i]:=Array.getElem?_eq_getElem hi;have:i∈Region.ready .any ops listed:=mem_ready.2 ⟨h1,ops[i],ho,λe he md=>by
       obtain⟨g1,g2⟩:=hrk i _ e ho he md;exact ihi (rk e.on) (by omega) e.on rfl g2⟩
      rw[hr]at this;cases this
   exact λi hi=>main _ i rfl hi
  .have fy:aJT (listed.setIfInBounds i true)<=fuel:=by have:=C0 (mem_ready.1 hi).1;omega
   exact wpOp_mono (λa' w' ⟨Y',k',s',G'⟩=>ih _ a' w' Y' k' s' fy G') (step listed a w Y k s G i hi)
end
end Go.AI
namespace Go.PI
open Go.AI
section
variable{P:Program}{J J':Nu}{I I1 I':Ga}{H H':St}{S:PS}{A:Slots}
def sU{z:Nat}: ∀(n:Nat) (l:List PV),l.length=n*z->eY (pA z n l)=l/\(pA z n l).length=n/\∀e∈pA z n l,e.cells.length=z/\(l.all PV.pur=true->e.cells.all PV.pur=true):=by
 intro n;induction n with
 |zero=>intro l h;simp at h;subst h;exact⟨rfl,rfl,λe he=>by simp[pA]at he⟩
 |succ n ih=>
  intro l h;rw[Nat.succ_mul]at h;obtain⟨h1,h2,h3⟩:=ih (l.drop z) (by simp;omega)
  refine⟨?_,by simp[pA,h2],λe he=>?_⟩
  .simp only[pA,eY,aN,PV.cells];have:List.flatMap PV.cells (pA z n (l.drop z))=l.drop z:=h1;rw[this,List.take_append_drop]
  .simp only[pA,List.mem_cons]at he;rcases he with rfl|he
   .refine⟨by simp[PV.cells];omega,λhp=>?_⟩
    simp only[PV.cells,bJ]at hp⊢;exact λx hx=>hp x (List.mem_of_mem_take hx)
   .refine⟨(h3 e he).1,λhp=>(h3 e he).2 ?_⟩
    rw[bJ]at hp⊢;exact λx hx=>hp x (List.mem_of_mem_drop hx)
def aBX(S:PS)(t:Nat):S.set t (S.at t)=S:=by
 cases S with|mk f=>simp only[PS.set,PS.at,PS.mk.injEq];funext k;rw[cR,Bool.cond_decide];split<;>simp_all
def zK{p p':PSt}(M:Mem J I p H)(F:FR J I H S A){t:Nat}{S':PS}(h:jZ p S t=some (S',p')):
    ∃J',Mem J' I p' H/\FR J' I H S' A/\Adv J I p H J' I p' H:=by
 have kv:S'=S->p'=p->∃J',Mem J' I p' H/\FR J' I H S' A/\Adv J I p H J' I p' H:=by
  rintro rfl rfl;exact⟨J,M,F,.refl J I p' H⟩
 have hF:=F t;unfold jZ at h;split at h<;>try cases h
 rename_i rr pq;unfold a8G at pq;split at pq
 .rename_i id off len b hS;split at pq
  .rename_i z a cs hg;cases hc:Nat.ble (off+len*z) cs.length&&Nat.ble 1 z&&(a||Nat.beq z 1)&&cs.all PV.pur with
   |false=>rw[hc,aJ]at pq;cases pq
   |true=>
    rw[hc,aI]at pq;simp only[aA]at pq;subst pq;simp only[aC]at hc;obtain⟨⟨⟨hc1,hc2⟩,hc3⟩,hc4⟩:=hc;have hlen:=bK hc1;have hl:((cs.drop off).take (len*z)).length=len*z:=by simp;omega
    have hz:=bK hc2;have hid:=iT hg;obtain⟨ai,us,h1,h2,h3,h5,h4⟩:=M.get id _ hg;rw[hS]at hF;have gm:Mon H J (λk=>if k=id then some none else J k):=by
     refine⟨λk x hk=>?_,λk a' hk=>?_⟩
     .by_cases e:k=id
      .right;show(if k=id then some none else J k)=some none;rw[bI e]
      .left;show(if k=id then some none else J k)=some x;rw[bH e];exact hk
     .by_cases e:k=id
      .simp only[e,if_true]at hk;cases hk
      .simp only[e,if_false]at hk;exact .inl hk
    have hkp:Keep J kJ H H:= .refl J kJ H;have nj:Fz (λk=>if k=id then some none else J k) H ai us (eE z):=by
     refine⟨row_of_get h2 rfl,λk hk=>?_⟩
     by_cases e:k=id
     .simp only[e,if_true]at hk;cases hk
     .simp only[e,if_false]at hk;exact e (M.inj k id ai hk h1)
    refine⟨λk=>if k=id then some none else J k,⟨λk x hk=>?_,λk a' hk=>?_,λi j a' hi hj=>?_,λk a' hk=>?_,λk o hk=>?_,M.free,M.ver⟩,λk=>?_,⟨.refl J I H,gm,.refl H I,.upd p id .gone,λa cs m h=>⟨cs,m.tip,h⟩,λk a' hk hd=>⟨rfl,by
     have bm:k≠id:=λe=>hd (by subst e;exact JV)
     show(if k=id then some none else J k)=_
     rw[bH bm];exact hk⟩⟩⟩
    .show k<p.next
     by_cases e:k=id
     .omega
     .simp only[e,if_false]at hk;exact M.le _ _ hk
    .by_cases e:k=id
     .simp only[e,if_true]at hk;cases hk
     .simp only[e,if_false]at hk;exact M.lt _ _ hk
    .by_cases e:i=id
     .simp only[e,if_true]at hi;cases hi
     .by_cases e':j=id
      .simp only[e',if_true]at hj;cases hj
      .simp only[e,e',if_false]at hi hj;exact M.inj _ _ _ hi hj
    .by_cases e:k=id
     .simp only[e,if_true]at hk;cases hk
     .simp only[e,if_false]at hk;rw[lF hid,bH e];exact M.live _ _ hk
    .rw[lF hid]at hk;by_cases e:k=id
     .simp only[e,if_true,aA]at hk;subst hk;subst e;show(if k=k then some none else J k)=some none;simp
     .simp only[e,if_false]at hk;exact(M.get k o hk).keep hkp gm (by simp[e]) (λ_ _=>rfl) λi fq hi _=>⟨rfl,hi⟩
    .rw[qJ];by_cases e:k=t
     .subst e;rw[bI rfl];refine⟨?_,λh=>by cases h⟩
      have hr:=hF.1;generalize A.at k=w at hr;cases hr with
      |rs0 _ _ _ c a' hν=>rw[h1]at hν;cases hν
      |rs _ _ _ c a' hν=>
       rw[h1]at hν;simp only[aA]at hν;subst hν;have dm:((cs.drop off).take (len*z)).all PV.pur=true:=by
        rw[bJ]at hc4⊢;exact λx hx=>hc4 x (List.mem_of_mem_drop (List.mem_of_mem_take hx))
       have wn: ∀(i:Nat) (x:PV) (u:Value),((cs.drop off).take (len*z))[i]?=some x->us[off+i]?=some u->R (λk=>if k=id then some none else J k) H x u:=by
        intro i x u hx hu;rw[List.getElem?_take]at hx;split at hx
        .rw[List.getElem?_drop]at hx;exact(h4 _ x u hx hu).keep hkp gm
        .cases hx
       cases a with
       |true=>
        obtain⟨k1,k2,k3⟩:=sU (z:=z) len _ hl;simp only[aI];have:=R.sl (J:=λk=>if k=id then some none else J k) (H:=H) z (pA z len ((cs.drop off).take (len*z))) ai off c us (eE z) hz (λe he=>⟨(k3 e he).1,(k3 e he).2 dm⟩) nj rfl (by rw[k2,h3];exact hlen) (by rw[k1];exact wn)
        rw[k2]at this;have h6:=JM (es:=pA z len ((cs.drop off).take (len*z))) (by rw[k2];exact this)
        rw[k2]at h6;exact h6
       |false=>
        simp only[Bool.false_or]at hc3;have hz1:=aE hc3;subst hz1;simp only[aJ];rw[Nat.mul_one]at hl wn hlen dm⊢;have ku: ∀l:List PV,l.all PV.pur=true->eY l=l:=by
         intro l;induction l with
         |nil=>intro _;rfl
         |cons x l ih=>
          intro hp;simp only[aP,aC]at hp;have:=ih hp.2;simp only[eY,aN]at this⊢;rw[this,BS (C6 hp.1)];rfl
        have:=R.sl (J:=λk=>if k=id then some none else J k) (H:=H) 1 ((cs.drop off).take len) ai off c us (eE 1) hz (λe he=>by
         have:=(bJ.1 dm) e he;rw[BS (C6 this)];exact⟨rfl,by simpa using this⟩) nj rfl (by rw[hl,h3];omega) (by rw[ku _ dm];exact wn)
        have h6:=JM this;rw[hl]at h6;exact h6
     .rw[bH e];exact⟨(F k).1.keep hkp gm,λhb=>((F k).2 hb).keep hkp gm λi hi _=>⟨rfl,hi⟩⟩
  .cases pq
 .simp only[aA]at pq;subst pq;exact kv (aBX S t) rfl
def sC(F:FR J I H S A){ops:Array Oper}{o:Oper}{b:Bool}(h:mN ops S o=some b):wanted ops A o=b:=by
 unfold mN at h;unfold wanted;split at h
 .simp only[aA]at h;subst h;rename_i e;rw[e]
 .rename_i j want e;rw[e];simp only;cases hd:ops[j]?.bind (·.dst)with
  |none=>rw[hd]at h;simp at h
  |some d=>
   rw[hd]at h;simp only[aK]at h;split at h
   .rename_i b' hb;simp only[aA]at h hb;subst h;have:=(F d).1;rw[hb]at this;simp only[aK];generalize A.at d=w at this;cases this;rfl
   .rename_i hb;simp only[aA]at h hb;subst h;have:=(F d).1;rw[hb]at this;simp only[aK];obtain⟨us,hu,hl⟩:=this.tup_inv;rw[hu]
   .cases h
def V6{pc:gT}{ac:FuncId->Array Value->St->Option (Value×St)}(bj:lP pc ac){p p':PSt}{base i:Nat}(M:Mem J I p H)(F:FR J I H S A)(hf:H.get (base+i)=none)(bi:base+i<H.next)
    {o:Oper} (ho:o.op.operands.all (cG P)=true) {sq take own:Bool} {v:PV} {S':PS} (h:Gy P pc sq o take S p=some (v,own,S',p')):
    ∃u H' J' I',mP P ac base i o A H=some (u,H')/\R J' H' v u/\Mem J' I' p' H'/\FR J' I' H' (S'.put o.dst v own) (A.store o.dst u)/\Adv J I p H J' I' p' H'/\
      (∀j,j<H.next->j≠base+i->H.get j=none->H'.get j=none):=by
 obtain⟨u,H',J',I',h1,h2,h3,h4,h5,h6,h7⟩:=aWO bj M F hf bi ho h;obtain⟨I'',F'',g⟩:=h4.put h2 h5 o.dst;exact⟨u,H',J',I'',h1,h2,h3.g2 g,F'',h6.trans (.g g.out),h7⟩
def V7{p:PSt}(M:Mem J I p H)(F:FR J I H S A)(d:Option Tmp): ∃I',Mem J I' p H/\FR J I' H (S.put d (.tup []) false) (A.store d undef)/\Adv J I p H J I' p H:=by
 obtain⟨I',F',g⟩:=F.put (v:= .tup []) (u:=undef) (own:=false) (.tup [] #[] rfl (λi x u h=>by simp at h)) (λh=>by cases h) d
 exact⟨I',M.g2 g,F',.g g.out⟩
def gJ:List Bl->List Nat
 |[]=>[]
 | .op i _::r=>i::gJ r
 | .app a i s::r=>a::i::s::gJ r
 | .freeze _::r=>gJ r
def aKk{pc:gT}{ac:FuncId->Array Value->St->Option (Value×St)}(bj:lP pc ac){ops:Array Oper}{base:Nat}(dq: ∀o∈ops.toList,o.op.operands.all (cG P)=true):
    ∀(sc:List Bl) (i:Nat) (J:Nu) (I:Ga) (S:PS) (p:PSt) (A:Slots) (H:St) (S':PS) (p':PSt),gJ sc=List.range' i (ops.size-i)->i<=ops.size->base+ops.size<=H.next->
      (∀j,i<=j->j<ops.size->H.get (base+j)=none)->Mem J I p H->FR J I H S A->xX P pc ops sc S p=some (S',p')->
      ∃A' H' J' I',fR P ac ops base (ops.toList.drop i) i A H=some (A',H')/\Mem J' I' p' H'/\FR J' I' H' S' A'/\Adv J I p H J' I' p' H'/\(∀j,j<base->H.get j=none->H'.get j=none):=by
 intro sc;induction sc with
 |nil=>
  intro i J I S p A H S' p' dw hi hb co M F h;simp only[gJ]at dw;have:ops.size-i=0:=by
   cases hh:ops.size-i with
   |zero=>rfl
   |succ n=>rw[hh]at dw;simp[List.range']at dw
  simp only[xX,aA,aB]at h;obtain⟨rfl,rfl⟩:=h;rw[List.drop_eq_nil_of_le (by simp;omega)]
  exact⟨A,H,J,I,rfl,M,F,.refl J I p H,λj _ hj=>hj⟩
 |cons s sc ih=>
  intro i J I S p A H S' p' dw hi hb co M F h;cases s with
  |freeze t=>
   simp only[xX]at h;split at h
   .rename_i S1 p1 h1;obtain⟨J1,M1,F1,A1⟩:=zK M F h1;obtain⟨A',H',J',I',k1,k2,k3,k4,k5⟩:=ih i J1 I S1 p1 A H S' p' dw hi hb co M1 F1 h;exact⟨A',H',J',I',k1,k2,k3,A1.trans k4,k5⟩
   .cases h
  |app a k s=>
   simp only[gJ]at dw;have hn3:i+2<ops.size:=by
    have:=congrArg List.length dw;simp only[aM,List.length_range']at this;omega
   rw[show ops.size-i=(ops.size-(i+3))+1+1+1 by omega,List.range'_succ,List.range'_succ,List.range'_succ]at dw
   simp only[List.cons.injEq]at dw;obtain⟨rfl,rfl,rfl,dw⟩:=dw;simp only[xX]at h;have hopA:ops[a]?=some ops[a]:=Array.getElem?_eq_getElem (by omega)
   have hopI:ops[a+1]?=some ops[a+1]:=Array.getElem?_eq_getElem (by omega)
   have hopS:ops[a+1+1]?=some ops[a+1+1]:=Array.getElem?_eq_getElem (by omega)
   rw[hopA,hopI,hopS]at h;simp only at h;split at h
   .rename_i S1 h1;obtain⟨u1,u2,H1,H2,I2,q1,q2,q3,q4,q5,q6,q7,q8,q9,q10,q11,M2,F2,A2,_,_,q12,q13⟩:=Pn (ac:=ac) (base:=base) (iA:=a) (iI:=a+1) (iS:=a+1+1) M F (co a (aS _) (by omega)) (by omega) (dq _ (by simp)) (dq _ (by simp)) (dq _ (by simp)) h1
    have gh:ops.toList.drop a=ops[a]::ops[a+1]::ops[a+1+1]::ops.toList.drop (a+1+1+1):=by
     rw[List.drop_eq_getElem_cons (by simp;omega),List.drop_eq_getElem_cons (by simp;omega),List.drop_eq_getElem_cons (by simp;omega)];simp
    rw[gh];obtain⟨A',H',J',I',j1,j2,j3,j4,j5⟩:=ih (a+1+1+1) J I2 _ p _ H2 S' p' (by simpa using dw) (by omega) (Nat.le_trans hb A2.keep.next) (λj hj rq=>(q13 _ (by omega) (co j (by omega) rq)).2) M2 F2 h
    refine⟨A',H',J',I',?_,j2,j3,A2.trans j4,λj hj hn=>j5 j hj (q13 j (by omega) hn).2⟩
    have hw: ∀{o:Oper} {A0:Slots},o.guard=none->wanted ops A0 o=true:=λhg=>by simp only[wanted,hg]
    simp only[fR,hw q7,hw q8,hw q9,aI,mP,q4,q5,q6,q1,vQ,q2,aK];simp only[q3];rw[q10];exact j1
   .cases h
  |op k take=>
   simp only[gJ]at dw;have bi:i<ops.size:=by
    rcases Nat.lt_or_ge i ops.size with h'|h'
    .exact h'
    .rw[show ops.size-i=0 by omega]at dw;simp at dw
   rw[show ops.size-i=(ops.size-(i+1))+1 by omega,List.range'_succ]at dw
   simp only[List.cons.injEq]at dw;obtain⟨rfl,dw⟩:=dw;simp only[xX]at h;have mz:ops[k]?=some ops[k]:=Array.getElem?_eq_getElem bi;rw[mz]at h;simp only at h;have gh:ops.toList.drop k=ops[k]::ops.toList.drop (k+1):=by
    rw[List.drop_eq_getElem_cons (by simpa using bi)];simp
   rw[gh];simp only[fR];split at h
   .rename_i hw;rw[sC F hw,aI];split at h
    .rename_i v own S1 p1 h1;obtain⟨u,H1,J1,I1,k1,k2,k3,k4,k5,k6⟩:=V6 bj M F (co k (aS _) bi) (by omega) (dq _ (by simp)) h1
     simp only[k1];obtain⟨A',H',J',I',j1,j2,j3,j4,j5⟩:=ih (k+1) J1 I1 _ p1 _ H1 S' p' dw bi (Nat.le_trans hb k5.keep.next) (λj hj rq=>k6 _ (by omega) (by omega) (co j (by omega) rq)) k3 k4 h
     exact⟨A',H',J',I',j1,j2,j3,k5.trans j4,λj hj hn=>j5 j hj (k6 j (by omega) (by omega) hn)⟩
    .cases h
   .rename_i hw;rw[sC F hw,aJ];obtain⟨I1,M1,F1,A1⟩:=V7 M F ops[k].dst;obtain⟨A',H',J',I',j1,j2,j3,j4,j5⟩:=ih (k+1) J I1 _ p _ H S' p' dw bi hb (λj hj rq=>co j (by omega) rq) M1 F1 h
    exact⟨A',H',J',I',j1,j2,j3,A1.trans j4,j5⟩
   .cases h
end
end Go.PI
namespace Go.AI
def Tr.setF_comm{N:Type}: ∀(f g:Nat) (t:Tr N) (i j:Nat) (x y:N),i≠j->i<f->j<g->Tr.setF g (Tr.setF f t i x) j y=Tr.setF f (Tr.setF g t j y) i x:=by
 intro f;induction f with
 |zero=>intro g t i j x y h hi;omega
 |succ f ih=>
  intro g t i j x y h hi hj;cases g with
  |zero=>omega
  |succ g=>
   by_cases i0:i=0
   .have j0:j≠0:=by omega
    by_cases j1:j%2=1
    .cases t<;>simp[Tr.setF,cR,i0,j0,j1]
    .cases t<;>simp[Tr.setF,cR,i0,j0,j1]
   .by_cases j0:j=0
    .by_cases i1:i%2=1
     .cases t<;>simp[Tr.setF,cR,i0,j0,i1]
     .cases t<;>simp[Tr.setF,cR,i0,j0,i1]
    .by_cases i1:i%2=1
     .by_cases j1:j%2=1
      .cases t<;>simp[Tr.setF,cR,i0,j0,i1,j1]<;>exact ih g _ _ _ x y (by omega) (by omega) (by omega)
      .cases t<;>simp[Tr.setF,cR,i0,j0,i1,j1]
     .by_cases j1:j%2=1
      .cases t<;>simp[Tr.setF,cR,i0,j0,i1,j1]
      .cases t<;>simp[Tr.setF,cR,i0,j0,i1,j1]<;>exact ih g _ _ _ x y (by omega) (by omega) (by omega)
def eO{H:St}{id:Nat}{cs:List Value}{m:pM}(h:H.row id=some (cs,m)):H.get id=some (.cells cs m)/\H.good m=true:=by
 unfold St.row at h;split at h
 .rename_i de m' e;cases hg:H.good m' with
  |true=>rw[hg,aI]at h;simp only[aA,aB]at h;obtain⟨rfl,rfl⟩:=h;exact⟨e,hg⟩
  |false=>rw[hg,aJ]at h;cases h
 .cases h
def row_of_get{H:St}{id:Nat}{cs:List Value}{m:pM}(h:H.get id=some (.cells cs m))(hg:H.good m=true):H.row id=some (cs,m):=by
 simp only[St.row,h,hg,aI]
def St.put_comm(H:St){i j:Nat}(h:i≠j)(x y:AObj):(H.put i x).put j y=(H.put j y).put i x:=by
 simp only[St.put,Tr.set,Tr.setF_comm _ _ _ _ _ x y h (Nat.lt_succ_self i) (Nat.lt_succ_self j)]
section
variable{P:Program}
def RZ(m:pM)(off:Nat):pM:=
 match m.grp with
 |none=>m
 |some (g,v)=>bif m.tip&&Nat.ble m.lim off then m else{m with grp:=some (g,v+1)}
def aJE(H:St)(m:pM)(off:Nat):St:=
 match m.grp with
 |none=>H
 |some (g,v)=>bif m.tip&&Nat.ble m.lim off then H else H.bump g (v+1)
def XU(H:St)(m:pM)(off k:Nat):(aJE H m off).get k=H.get k:=by
 unfold aJE;split
 .rfl
 .rename_i g v _;cases m.tip&&Nat.ble m.lim off<;>rfl
def aMM(H:St)(m:pM)(off k:Nat)(o:AObj):aJE (H.put k o) m off=(aJE H m off).put k o:=by
 unfold aJE;split
 .rfl
 .rename_i g v _;cases m.tip&&Nat.ble m.lim off<;>rfl
def aAp{m:pM}{off:Nat}(h:(RZ m off).grp=none):m.grp=none:=by
 unfold RZ at h;split at h
 .assumption
 .rename_i g v hg;cases hb:(m.tip&&Nat.ble m.lim off)with
  |true=>rw[hb,aI]at h;exact h
  |false=>rw[hb,aJ]at h;cases h
def BW{H:St}{t:TypeId}{x:Value}{id off n:Nat}{cs:List Value}{m:pM}(hr:H.row id=some (cs,m))(hs:gU P t=some n)
    (hc:(m.wr&&Nat.beq x.cells.size n&&Nat.ble (off+n) cs.length&&x.cells.toList.all one)=true):
    eT P H t (.pointer (some ⟨id,off,none⟩)) x=some (aJE (H.put id (.cells (gQ cs off x.cells.toList) (RZ m off))) m off):=by
 simp only[eT,hr,hs,hc,aI,aJE,RZ];cases hg:m.grp with
 |none=>rfl
 |some gv=>
  obtain⟨g,v⟩:=gv;simp only;cases hb:(m.tip&&Nat.ble m.lim off)<;>rfl
def E8{H H':St}{t:TypeId}{id off:Nat}{x:Value}(h:eT P H t (.pointer (some ⟨id,off,none⟩)) x=some H'): ∃cs m n,H.row id=some (cs,m)/\gU P t=some n/\
    (m.wr&&Nat.beq x.cells.size n&&Nat.ble (off+n) cs.length&&x.cells.toList.all one)=true/\H'=aJE (H.put id (.cells (gQ cs off x.cells.toList) (RZ m off))) m off:=by
 cases hr:H.row id with
 |none=>simp[eT,hr]at h
 |some r=>
  obtain⟨cs,m⟩:=r;cases hs:gU P t with
  |none=>simp[eT,hr,hs]at h
  |some n=>
   cases hc:(m.wr&&Nat.beq x.cells.size n&&Nat.ble (off+n) cs.length&&x.cells.toList.all one)with
   |false=>simp only[eT,hr,hs,hc,aJ]at h;cases h
   |true=>rw[BW hr hs hc]at h;cases h;exact⟨cs,m,n,rfl,rfl,hc,rfl⟩
def aU2{H H':St}{k:Nat}(h:H'.get k=H.get k)(hv: ∀cs m,H.get k=some (.cells cs m)->H'.good m=H.good m):H'.row k=H.row k:=by
 unfold St.row;rw[h];split
 .rename_i cs m hg;rw[hv cs m hg]
 .rfl
def Qw{H H1 H2:St}{t1 t2:TypeId}{x1 x2:Value}{i j o1 o2:Nat}
    (h1:eT P H t1 (.pointer (some ⟨i,o1,none⟩)) x1=some H1) (h2:eT P H1 t2 (.pointer (some ⟨j,o2,none⟩)) x2=some H2) (bn:i≠j) (hg: ∃cs m,H2.get j=some (.cells cs m)/\m.grp=none):
    ∃H1',eT P H t2 (.pointer (some ⟨j,o2,none⟩)) x2=some H1'/\eT P H1' t1 (.pointer (some ⟨i,o1,none⟩)) x1=some H2:=by
 obtain⟨cs1,m1,n1,r1,s1,c1,rfl⟩:=E8 h1;obtain⟨cs2,m2,n2,r2,s2,c2,rfl⟩:=E8 h2;have jf:m2.grp=none:=by
  obtain⟨cs,m,hg1,hg2⟩:=hg;rw[XU,St.get_put,bI rfl]at hg1;simp only[aA,AObj.cells.injEq]at hg1;refine aAp (off:=o2) ?_;rw[hg1.2];exact hg2
 have hbm: ∀s:St,aJE s m2 o2=s:=λs=>by unfold aJE;rw[jf]
 have hms:RZ m2 o2=m2:=by unfold RZ;rw[jf]
 have bf: ∀s:St,s.good m2=true:=λs=>by unfold St.good;rw[jf]
 have bc:H.get j=some (.cells cs2 m2):=by
  have:=(eO r2).1;rw[XU,St.get_put,bH (Ne.symm bn)]at this;exact this
 have r2':H.row j=some (cs2,m2):=row_of_get bc (bf H);refine⟨_,BW r2' s2 c2,?_⟩;simp only[hbm,hms];have r1':(H.put j (.cells (gQ cs2 o2 x2.cells.toList) m2)).row i=some (cs1,m1):=by
  rw[<-r1];exact aU2 (by rw[St.get_put,bH bn]) (λcs m _=>rfl)
 rw[BW r1' s1 c1,<-aMM,St.put_comm _ bn]
variable{ops:Array Oper}
def rR(ops:Array Oper)(i k j:Nat):(kU ops i k)[j]?=(ops[j]?).map λo=>bif Nat.beq j i then{o with after:=o.after.push ⟨k,.data⟩}else o:=by
 unfold kU;rw[List.getElem?_toArray,List.getElem?_map,List.getElem?_zipIdx];cases h:ops[j]? with
 |none=>simp[h]
 |some o=>simp[h]
def sY{i k j:Nat}(h:j≠i):(kU ops i k)[j]?=ops[j]?:=by
 rw[rR];cases ops[j]? with
 |none=>rfl
 |some o=>simp only[aK,cR,bG h,aJ]
def LM{i k:Nat}{o:Oper}(h:ops[i]?=some o):(kU ops i k)[i]?=some {o with after:=o.after.push ⟨k,.data⟩}:=by
 rw[rR,h];simp only[aK,cR,decide_true,aI]
def kS(i k:Nat):(kU ops i k).size=ops.size:=by simp[kU]
def QC(i k j:Nat):((kU ops i k)[j]?).bind (·.dst)=(ops[j]?).bind (·.dst):=by
 rw[rR];cases ops[j]? with
 |none=>rfl
 |some o=>cases Nat.beq j i<;>rfl
def eJ(i k:Nat)(S:Slots)(o:Oper):wanted (kU ops i k) S o=wanted ops S o:=by
 unfold wanted;split
 .rfl
 .rw[QC]
def LL(i k:Nat)(tm:Array Value):yielded (kU ops i k) tm=yielded ops tm:=by
 funext j;unfold yielded;rw[QC]
def QB{i k:Nat}{o:Oper}(h:o∈(kU ops i k).toList): ∃o'∈ops.toList,∀α,lB P α o=lB P α o':=by
 obtain⟨j,hj⟩:=List.getElem?_of_mem h;have:(kU ops i k)[j]?=some o:=by simpa using hj
 rw[rR]at this;cases ho:ops[j]? with
 |none=>rw[ho]at this;cases this
 |some o'=>
  rw[ho]at this;refine⟨o',by have:ops.toList[j]?=some o':=(by simpa using ho);exact List.mem_of_getElem? this,λα=>?_⟩
  cases hb:Nat.beq j i with
  |true=>rw[aK,hb,aI]at this;cases this;rfl
  |false=>rw[aK,hb,aJ]at this;cases this;rfl
def xU{Q:Exit->Act->World->Prop}{i k j:Nat}{K:Act->World->Prop}{a:Act}{w:World}(h:wpOp P (kU ops i k) Q j K a w):wpOp P ops Q j K a w:=by
 unfold wpOp at h⊢;rw[LL,rR]at h;cases ho:ops[j]? with
 |none=>rw[ho]at h;exact h
 |some o=>
  rw[ho]at h;cases hb:Nat.beq j i with
  |true=>rw[aK,hb,aI]at h;exact h
  |false=>rw[aK,hb,aJ]at h;exact h
def yV{i k j:Nat}{listed:Array Bool}(h:j∈Region.ready .any (kU ops i k) listed):j∈Region.ready .any ops listed:=by
 obtain⟨h1,o,ho,dc⟩:=mem_ready.1 h;rw[rR]at ho;cases gb:ops[j]? with
 |none=>rw[gb]at ho;cases ho
 |some o'=>
  rw[gb]at ho;refine mem_ready.2 ⟨h1,o',gb,λe he hb=>dc e ?_ hb⟩
  cases hb:Nat.beq j i with
  |true=>rw[aK,hb,aI]at ho;cases ho;exact Array.mem_push_of_mem _ he
  |false=>rw[aK,hb,aJ]at ho;cases ho;exact he
def oQ{i k j:Nat}{listed:Array Bool}(h:j∈Region.ready .any ops listed)(hk:j≠i∨listed.getD k false=true):j∈Region.ready .any (kU ops i k) listed:=by
 obtain⟨h1,o,ho,dc⟩:=mem_ready.1 h;by_cases e:j=i
 .subst e;refine mem_ready.2 ⟨h1,_,LM ho,λe he hb=>?_⟩
  rcases Array.mem_push.1 he with he|rfl
  .exact dc e he hb
  .exact hk.resolve_left (by simp)
 .exact mem_ready.2 ⟨h1,o,by rw[sY e];exact ho,dc⟩
def zP{l:List Nat}(h: ∀j,j∉l):l=[]:=by
 cases l with
 |nil=>rfl
 |cons a l=>exact absurd aH (h a)
def Dk{Q:Exit->Act->World->Prop}{i k:Nat}: ∀(fuel:Nat) (listed:Array Bool) (a:Act) (w:World),listed.getD k false=true->wpAny P .any (kU ops i k) Q fuel listed a w->wpAny P .any ops Q fuel listed a w:=by
 intro fuel;induction fuel with
 |zero=>
  intro listed a w hk h;exact⟨zP λj hj=>(by have:=oQ (i:=i) hj (.inr hk);rw[h.1]at this;cases this),h.2⟩
 |succ fuel ih=>
  intro listed a w hk h;refine⟨λhr=>h.1 (zP λj hj=>by have:=yV hj;rw[hr]at this;cases this),λj hj=>?_⟩
  refine wpOp_mono (λa' w' h'=>ih _ a' w' ?_ h') (xU (h.2 j (oQ hj (.inr hk))))
  by_cases e:k=j
  .subst e;have:=(mem_ready.1 hj).1;obtain⟨h2,h3⟩:=gF this;rw[hk]at h2;cases h2
  .rw[getD_set_ne false (Ne.symm e)];exact hk
variable{call:FuncId->Array Value->St->Option (Value×St)}{ms m1 m2:List Nat}{base:Nat}{S':Slots}{H':St}{x y:Nat}{ox oy:Oper}{tx ty:TypeId}{ax ay vx vy:Operand}
def kC{o:Oper}{t:TypeId}{a v:Operand}(h:o.op= .store t a v):cO o= .eff:=by simp only[cO,h]
def kD{o:Oper}{t:TypeId}{a v:Operand}(h:o.op= .store t a v)(H:St)(Z:Operand->Value)(k:Nat):tU P call H Z o k=(eT P H t (Z a) (Z v)).map λH'=>(undef,H'):=by simp only[tU,h]
structure bIg(ops:Array Oper)(x y:Nat)(ox oy:Oper)(tx ty:TypeId)(ax ay vx vy:Operand):Prop where
 ne:x≠y
 hx:ops[x]?=some ox
 hy:ops[y]?=some oy
 opx:ox.op= .store tx ax vx
 opy:oy.op= .store ty ay vy
 gx:ox.guard=none
 gy:oy.guard=none
 dx:ox.dst=none
 dy:oy.dst=none
def aJt(S:Slots)(H:St)(ax ay:Operand):Prop:= ∃i o1 j o2,ev S ax= .pointer (some ⟨i,o1,none⟩)/\ev S ay= .pointer (some ⟨j,o2,none⟩)/\i≠j/\∃cs m,H.get j=some (.cells cs m)/\m.grp=none
def ZF(σ:bIg ops x y ox oy tx ty ax ay vx vy): ∀(pre:List Nat) (pend:List iC) (S:Slots) (H:St),
    (∀i∈pre,i≠x/\i≠y/\m1.getD i 0=ms.getD i 0/\m2.getD i 0=ms.getD i 0/\(El ops i=true∨(jC (m1.getD x 0) i=true/\jC (m2.getD y 0) i=true)))->
    (∀p∈pend,jC (m1.getD x 0) p.i=true/\jC (m2.getD y 0) p.i=true)->dO P call ops ms base (pre++ [x,y]) pend S H=some (S',H')->aJt S' H' ax ay->
    ∃(rp:List yZ) (Cp:List St) (Ep:List Nat) (rx ry sx sy:yZ) (Ha Hb Hc:St),rp.map (·.i)=pre/\rx.i=x/\ry.i=y/\sx.i=x/\sy.i=y/\Cp.length=Ep.length/\
      Cert P call (kU ops y x) m1 base S' H' (rp++ [rx,ry]) (Cp++ [Ha,Hb,H']) (Ep++ [x,y]) pend S H/\
      Cert P call (kU ops x y) m2 base S' H' (rp++ [sy,sx]) (Cp++ [Ha,Hc,H']) (Ep++ [y,x]) pend S H:=by
 intro pre;induction pre with
 |nil=>
  intro pend S H _ hp h qn;have wm: ∀S,wanted ops S ox=true:=λS=>by simp only[wanted,σ.gx]
  have hwy: ∀S,wanted ops S oy=true:=λS=>by simp only[wanted,σ.gy]
  simp only[aW,dO,σ.hx,σ.hy,wm,hwy,aI,kC σ.opx,kC σ.opy,kD σ.opx,kD σ.opy,σ.dx,σ.dy,Slots.store]at h;cases hc:pend.all (check P base H)with
  |false=>rw[hc]at h;cases h
  |true=>
   rw[hc,aI]at h;cases h1:eT P H tx (ev S ax) (ev S vx)with
   |none=>rw[h1]at h;cases h
   |some H1=>
    rw[h1]at h;simp only[aK]at h;cases hc2:(pend.filter λr=> !jC (ms.getD x 0) r.i).all (check P base H1)with
    |false=>rw[hc2]at h;cases h
    |true=>
     rw[hc2,aI]at h;cases h2:eT P H1 ty (ev S ay) (ev S vy)with
     |none=>rw[h2]at h;cases h
     |some H2=>
      rw[h2]at h;simp only[aK]at h;obtain⟨rfl,rfl⟩:S=S'/\H2=H':=by
       cases hc3:((pend.filter λr=> !jC (ms.getD x 0) r.i).filter λr=> !jC (ms.getD y 0) r.i).all (check P base H2)with
       |false=>rw[hc3]at h;cases h
       |true=>rw[hc3,aI]at h;cases h;exact⟨rfl,rfl⟩
      obtain⟨i,o1,j,o2,e1,e2,bn,hg⟩:=qn;have hsw:=h2;rw[e2]at hsw;have h1':=h1;rw[e1]at h1';obtain⟨Hc,k1,k2⟩:=Qw h1' hsw bn hg;have hch: ∀p∈pend,Al P base H p:=λp fh=>Bg (bJ.1 hc p fh)
      have f1:(pend.filter λp=> !jC (m1.getD x 0) p.i)=[]:=List.filter_eq_nil_iff.2 λp fh=>by rw[(hp p fh).1];simp
      have f2:(pend.filter λp=> !jC (m2.getD y 0) p.i)=[]:=List.filter_eq_nil_iff.2 λp fh=>by rw[(hp p fh).2];simp
      refine⟨[],[],[],⟨x,ox,S,undef⟩,⟨y,{oy with after:=oy.after.push ⟨x,.data⟩},S,undef⟩,⟨x,{ox with after:=ox.after.push ⟨y,.data⟩},S,undef⟩,⟨y,oy,S,undef⟩,H,H1,Hc,rfl,rfl,rfl,rfl,rfl,rfl,?_,?_⟩
      .refine .eff ⟨x,ox,S,undef⟩ _ _ _ pend H H1 (by rw[sY σ.ne];exact σ.hx) (by rw[eJ];exact wm S) (kC σ.opx) hch ?_ ?_
       .rw[kD σ.opx];show Option.map _ (eT P H tx (ev S ax) (ev S vx))=_;rw[h1];rfl
       .simp only[σ.dx,Slots.store];rw[f1];refine .eff ⟨y,{oy with after:=oy.after.push ⟨x,.data⟩},S,undef⟩ _ _ _ [] H1 H2 (LM σ.hy) (by rw[eJ];exact hwy S) (kC σ.opy) (λp hp=>by cases hp) ?_ ?_
        .refine(kD (o:={oy with after:=oy.after.push ⟨x,.data⟩}) (show _=_ from σ.opy) H1 (ev S) _).trans ?_;rw[h2];rfl
        .simp only[σ.dy,Slots.store];exact .nil [] (λp hp=>by cases hp)
      .refine .eff ⟨y,oy,S,undef⟩ _ _ _ pend H Hc (by rw[sY (Ne.symm σ.ne)];exact σ.hy) (by rw[eJ];exact hwy S) (kC σ.opy) hch ?_ ?_
       .rw[kD σ.opy];show Option.map _ (eT P H ty (ev S ay) (ev S vy))=_;rw[e2,k1];rfl
       .simp only[σ.dy,Slots.store];rw[f2];refine .eff ⟨x,{ox with after:=ox.after.push ⟨y,.data⟩},S,undef⟩ _ _ _ [] Hc H2 (LM σ.hx) (by rw[eJ];exact wm S) (kC σ.opx) (λp hp=>by cases hp) ?_ ?_
        .refine(kD (o:={ox with after:=ox.after.push ⟨y,.data⟩}) (show _=_ from σ.opx) Hc (ev S) _).trans ?_;rw[e1,k2];rfl
        .simp only[σ.dx,Slots.store];exact .nil [] (λp hp=>by cases hp)
 |cons i pre ih=>
  intro pend S H jy hp h qn;obtain⟨rt,hiy,hm1,hm2,hor⟩:=jy i (by simp)
  have jx:=λj hj=>jy j (aG _ hj)
  simp only[aY,dO]at h;split at h<;>try cases h
  rename_i o ho;have ho1:(kU ops y x)[i]?=some o:=by rw[sY hiy];exact ho
  have ho2:(kU ops x y)[i]?=some o:=by rw[sY rt];exact ho
  cases hw:wanted ops S o with
  |false=>
   rw[hw]at h;simp only[aJ]at h;obtain⟨rp,Cp,Ep,rx,ry,sx,sy,Ha,Hb,Hc,q1,q2,q3,q4,q5,q6,C1,C2⟩:=ih _ _ _ jx hp h qn;exact⟨⟨i,o,S,undef⟩::rp,Cp,Ep,rx,ry,sx,sy,Ha,Hb,Hc,by simp[q1],q2,q3,q4,q5,q6,
    .skip ⟨i,o,S,undef⟩ _ _ _ pend H ho1 (by rw[eJ];exact hw) rfl C1,.skip ⟨i,o,S,undef⟩ _ _ _ pend H ho2 (by rw[eJ];exact hw) rfl C2⟩
  |true=>
   rw[hw]at h;simp only[aI]at h;have hnp: ∀{k:OK},cO o=k->k≠ .pure->jC (m1.getD x 0) i=true/\jC (m2.getD y 0) i=true:=by
    intro k hk bm;refine hor.resolve_left λhpu=>?_
    unfold El at hpu;rw[ho]at hpu;simp only[hk]at hpu;cases k<;>simp at hpu bm
   split at h
   .rename_i hk;split at h<;>try cases h
    rename_i v hv;obtain⟨rp,Cp,Ep,rx,ry,sx,sy,Ha,Hb,Hc,q1,q2,q3,q4,q5,q6,C1,C2⟩:=ih _ _ _ jx hp h qn;exact⟨⟨i,o,S,v⟩::rp,Cp,Ep,rx,ry,sx,sy,Ha,Hb,Hc,by simp[q1],q2,q3,q4,q5,q6,
     .pure ⟨i,o,S,v⟩ _ _ _ pend H ho1 (by rw[eJ];exact hw) hk hv C1,.pure ⟨i,o,S,v⟩ _ _ _ pend H ho2 (by rw[eJ];exact hw) hk hv C2⟩
   .rename_i hk;split at h<;>try cases h
    rename_i v hv;obtain⟨rp,Cp,Ep,rx,ry,sx,sy,Ha,Hb,Hc,q1,q2,q3,q4,q5,q6,C1,C2⟩:=ih _ _ _ jx (λp fh=>by
     rcases List.mem_cons.1 fh with rfl|fh
     .exact hnp hk (by simp)
     .exact hp p fh) h qn
    exact⟨⟨i,o,S,v⟩::rp,Cp,Ep,rx,ry,sx,sy,Ha,Hb,Hc,by simp[q1],q2,q3,q4,q5,q6,
     .read ⟨i,o,S,v⟩ _ _ _ pend H ho1 (by rw[eJ];exact hw) hk C1,.read ⟨i,o,S,v⟩ _ _ _ pend H ho2 (by rw[eJ];exact hw) hk C2⟩
   .rename_i hk;split at h<;>try cases h
    rename_i v ob hv;obtain⟨rp,Cp,Ep,rx,ry,sx,sy,Ha,Hb,Hc,q1,q2,q3,q4,q5,q6,C1,C2⟩:=ih _ _ _ jx (λp fh=>by
     rcases List.mem_cons.1 fh with rfl|fh
     .exact hnp hk (by simp)
     .exact hp p fh) h qn
    exact⟨⟨i,o,S,v⟩::rp,Cp,Ep,rx,ry,sx,sy,Ha,Hb,Hc,by simp[q1],q2,q3,q4,q5,q6,
     .alloc ⟨i,o,S,v⟩ _ _ _ pend H ob ho1 (by rw[eJ];exact hw) hk hv C1,.alloc ⟨i,o,S,v⟩ _ _ _ pend H ob ho2 (by rw[eJ];exact hw) hk hv C2⟩
   .rename_i hk;cases hc:pend.all (check P base H)with
    |false=>rw[hc]at h;cases h
    |true=>
     rw[hc]at h;simp only[aI]at h;split at h<;>try cases h
     rename_i v H1 hv;obtain⟨rp,Cp,Ep,rx,ry,sx,sy,Ha,Hb,Hc,q1,q2,q3,q4,q5,q6,C1,C2⟩:=ih _ _ _ jx (λp fh=>hp p (List.mem_filter.1 fh).1) h qn
     have hch: ∀p∈pend,Al P base H p:=λp fh=>Bg (bJ.1 hc p fh)
     refine⟨⟨i,o,S,v⟩::rp,H::Cp,i::Ep,rx,ry,sx,sy,Ha,Hb,Hc,by simp[q1],q2,q3,q4,q5,by simp[q6],?_,?_⟩
     .refine .eff ⟨i,o,S,v⟩ _ _ _ pend H H1 ho1 (by rw[eJ];exact hw) hk hch hv ?_
      simp only[hm1];exact C1
     .refine .eff ⟨i,o,S,v⟩ _ _ _ pend H H1 ho2 (by rw[eJ];exact hw) hk hch hv ?_
      simp only[hm2];exact C2
def aJV{w0:W0}(bj:CallOK w0 P call){pre:List Nat}(σ:bIg ops x y ox oy tx ty ax ay vx vy)(D1:Aj (kU ops y x) m1 (pre++ [x,y]))(D2:Aj (kU ops x y) m2 (pre++ [y,x])){α n0:Nat}
    (bw: ∀o∈ops.toList,lB P α o=true) {rp:List yZ} {rx ry sx sy:yZ} {Cp:List St} {Ep:List Nat} {S0:Slots} {H0 Ha Hb Hc:St} {Y0:Mp} (hn0:n0<=base) (hrp:rp.map (·.i)=pre)
    (hrx:rx.i=x) (hry:ry.i=y) (hsx:sx.i=x) (hsy:sy.i=y) (hl:Cp.length=Ep.length)
    (C1:Cert P call (kU ops y x) m1 base S' H' (rp++ [rx,ry]) (Cp++ [Ha,Hb,H']) (Ep++ [x,y]) [] S0 H0)
    (C2:Cert P call (kU ops x y) m2 base S' H' (rp++ [sy,sx]) (Cp++ [Ha,Hc,H']) (Ep++ [y,x]) [] S0 H0)
    {Q:Exit->Act->World->Prop} (cw:pI w0 P Y0 n0 α S' H' (Q .normal)):
    ∀(fuel:Nat) (listed:Array Bool) (a:Act) (w:World) (Y:Mp) (k:Nat) (s:St),aJT listed<=fuel->listed.getD x false=false->listed.getD y false=false->
      Bm w0 P (kU ops y x) base α n0 S0 (rp++ [rx,ry]) (Cp++ [Ha,Hb,H']) (Ep++ [x,y]) Y0 listed a w Y k s->wpAny P .any ops Q fuel listed a w:=by
 have hok1: ∀o∈(kU ops y x).toList,lB P α o=true:=λo ho=>by obtain⟨o',h1,h2⟩:=QB (P:=P) ho;rw[h2];exact bw o' h1
 have hok2: ∀o∈(kU ops x y).toList,lB P α o=true:=λo ho=>by obtain⟨o',h1,h2⟩:=QB (P:=P) ho;rw[h2];exact bw o' h1
 have hr1:(rp++ [rx,ry]).map (·.i)=pre++ [x,y]:=by simp[hrp,hrx,hry]
 have hr2:(rp++ [sy,sx]).map (·.i)=pre++ [y,x]:=by simp[hrp,hsx,hsy]
 have X1:=Ku bj D1 hok1 hn0 C1 hr1 cw;have X2:=Ku bj D2 hok2 hn0 C2 hr2 cw;obtain⟨_,st1⟩:=EP bj D1 hok1 hn0 C1 hr1 cw;have hyn:y<ops.size:=(Array.getElem?_eq_some_iff.1 σ.hy).1;have other: ∀(listed:Array Bool) (a:Act) (w:World) (Y:Mp) (k:Nat) (s:St),listed.getD x false=false->listed.getD y false=false->
      Bm w0 P (kU ops y x) base α n0 S0 (rp++ [rx,ry]) (Cp++ [Ha,Hb,H']) (Ep++ [x,y]) Y0 listed a w Y k s->Bm w0 P (kU ops x y) base α n0 S0 (rp++ [sy,sx]) (Cp++ [Ha,Hc,H']) (Ep++ [y,x]) Y0 listed a w Y k s:=by
  intro listed a w Y k s hx hy G;have hk:k<=Ep.length:=by
   have:=(G.count Ep.length x (by simp))
   rcases Nat.lt_or_ge Ep.length k with h|h
   .rw[this.2 h]at hx;cases hx
   .exact h
  have ln: ∀r,listed.getD r.i false=true->(r∈rp++ [sy,sx]↔r∈rp++ [rx,ry]):=by
   intro r hr;have h1: ∀{z:yZ},z.i=x->r≠z:=λe e'=>by rw[e',e,hx]at hr;cases hr
   have h2: ∀{z:yZ},z.i=y->r≠z:=λe e'=>by rw[e',e,hy]at hr;cases hr
   simp[h1 hrx,h2 hry,h1 hsx,h2 hsy]
  refine⟨by rw[G.size,kS,kS],?_,?_,?_,G.sim,by have:=G.next;rw[kS]at this⊢;exact this,λi hi=>G.none i (by rw[kS]at hi⊢;exact hi),G.ext,G.tsize,G.defers,?_,?_⟩
  .intro i o e ho hli he hb;have rt:i≠x:=λe=>by rw[e,hx]at hli;cases hli
   have hiy:i≠y:=λe=>by rw[e,hy]at hli;cases hli
   rw[sY rt]at ho;exact G.closed i o e (by rw[sY hiy];exact ho) hli he hb
  .intro q e he;rcases Nat.lt_or_ge q Ep.length with hq|hq
   .rw[List.getElem?_append_left hq]at he;exact G.count q e (by rw[List.getElem?_append_left hq];exact he)
   .rw[List.getElem?_append_right hq]at he;have hef:listed.getD e false=false:=by
     have:=List.mem_of_getElem? he;simp only[List.mem_cons,List.not_mem_nil,or_false]at this;rcases this with rfl|rfl
     .exact hy
     .exact hx
    rw[hef];constructor
    .intro h;cases h
    .intro h;omega
  .have:=G.state;rcases Nat.lt_or_ge k Cp.length with h|h
   .rw[List.getElem?_append_left h]at this⊢;exact this
   .have jb:k=Cp.length:=by omega
    subst jb;rw[List.getElem?_append_right (aS _)]at this⊢;simpa using this
  .intro r hr hlr z hz;exact G.here r ((ln r hlr).1 hr) hlr z hz
  .intro z hz;exact G.there z λr hr hlr=>hz r ((ln r hlr).2 hr) hlr
 intro fuel;induction fuel with
 |zero=>
  intro listed a w Y k s hu hx hy G;exfalso;have h1:listed.getD y true=false:=by
   have hs:y<listed.size:=by rw[G.size,kS];exact hyn
   rw[Array.getD_eq_getD_getElem?,Array.getElem?_eq_getElem hs]at hy⊢;simpa using hy
  have:=C0 h1;omega
 |succ fuel ih=>
  intro listed a w Y k s hu hx hy G;have W1:=X1 (fuel+1) listed a w Y k s hu G;refine⟨λhr=>W1.1 (zP λj hj=>by have:=yV hj;rw[hr]at this;cases this),λj hj=>?_⟩
  have vj:=(mem_ready.1 hj).1;have fy:aJT (listed.setIfInBounds j true)<=fuel:=by have:=C0 vj;omega
  have wa:=(gF vj).2;by_cases ejx:j=x
  .subst ejx;refine xU (wpOp_mono (λa' w' h'=>Dk _ _ a' w' ?_ h') (W1.2 j (oQ hj (.inl σ.ne))))
   rw[vG _ _ _ wa,bI rfl]
  .by_cases ejy:j=y
   .subst ejy;have W2:=X2 (fuel+1) listed a w Y k s hu (other listed a w Y k s hx hy G);refine xU (wpOp_mono (λa' w' h'=>Dk _ _ a' w' ?_ h') (W2.2 j (oQ hj (.inl (Ne.symm σ.ne)))))
    rw[vG _ _ _ wa,bI rfl]
   .refine xU (wpOp_mono ?_ (st1 listed a w Y k s G j (oQ hj (.inl ejy))));rintro a' w' ⟨Y',k',s',G'⟩;exact ih _ a' w' Y' k' s' fy (by rw[vG _ _ _ wa,bH (Ne.symm ejx)];exact hx) (by rw[vG _ _ _ wa,bH (Ne.symm ejy)];exact hy) G'
def aBD{a b:Operand}(h:HN ops=some (a,b)): ∃x y ox oy tx ty vx vy,HM ops=some (x,y)/\bIg ops x y ox oy tx ty a b vx vy:=by
 unfold HN at h;split at h
 .cases h
 .rename_i i j bn;split at h
  .rename_i ox oy hx hy;split at h
   .rename_i tx a' vx ty b' vy e1 e2 e3 e4 e5 e6;cases hb:(!Nat.blt i j||jC ((eD ops.toList []).getD j 0) i)with
    |true=>rw[hb]at h;cases h
    |false=>
     rw[hb,aJ]at h;simp only[aA,aB]at h;obtain⟨rfl,rfl⟩:=h;simp only[Bool.or_eq_false_iff,Bool.not_eq_false',gW,aD]at hb;exact⟨i,j,ox,oy,tx,ty,vx,vy,bn,⟨by omega,hx,hy,e1,e2,e3,e4,e5,e6⟩⟩
   .cases h
  .cases h
def aDB{a b:Operand}{S:Slots}{H:St}(h:HN ops=some (a,b))(hk:RU ops S H=true):aJt S H a b:=by
 unfold RU at hk;rw[h]at hk;simp only at hk;split at hk
 .rename_i i o1 j o2 e1 e2;simp only[aC,Bool.not_eq_true',cR,bC]at hk;refine⟨i,o1,j,o2,e1,e2,hk.1,?_⟩;have h2:=hk.2;split at h2
  .rename_i cs m hg;exact⟨cs,m,hg,by simpa using h2⟩
  .cases h2
 .cases hk
def XD{S:Slots}{d:Nat}{v:Value}{a:Operand}(h:Xh d a=true):ev (S.store (some d) v) a=ev S a:=by
 cases a with
 |tmp t=>
  simp only[Xh,Bool.not_eq_true',cR,bC]at h;show(S.store (some d) v).at t=S.at t;rw[Slots.at_store,bH (λe=>h (by cases e;rfl))]
 |const v=>rfl
 |global g=>rfl
 |func f=>rfl
def sB{l1 l2:List Nat}(h: ∀pend S H r,dO P call ops ms base l1 pend S H=some r->dO P call ops ms base l2 pend S H=some r): ∀(A:List Nat) (pend:List iC) (S:Slots) (H:St) (r:Slots×St),
    dO P call ops ms base (A++l1) pend S H=some r->dO P call ops ms base (A++l2) pend S H=some r
 |[],pend,S,H,r,h1=>h _ _ _ _ h1
 |i::A,pend,S,H,r,h1=>by
  have ih:=sB h A;simp only[aY,dO]at h1⊢;cases ho:ops[i]? with
  |none=>rw[ho]at h1;cases h1
  |some o=>
   rw[ho]at h1;simp only at h1⊢;cases hw:wanted ops S o with
   |false=>rw[hw,aJ]at h1;rw[aJ];exact ih _ _ _ _ h1
   |true=>
    rw[hw,aI]at h1;rw[aI];cases hk:cO o with
    |pure=>
     rw[hk]at h1;simp only at h1⊢;cases ha:lL P (ev S) o with
     |none=>rw[ha]at h1;cases h1
     |some v=>rw[ha]at h1;exact ih _ _ _ _ h1
    |read=>
     rw[hk]at h1;simp only at h1⊢;cases ha:kQ P H (ev S) o with
     |none=>rw[ha]at h1;cases h1
     |some v=>rw[ha]at h1;exact ih _ _ _ _ h1
    |alloc=>
     rw[hk]at h1;simp only at h1⊢;cases ha:gZ P (ev S) o (base+i)with
     |none=>rw[ha]at h1;cases h1
     |some v=>rw[ha]at h1;exact ih _ _ _ _ h1
    |eff=>
     rw[hk]at h1;simp only at h1⊢;cases hc:pend.all (check P base H)with
     |false=>rw[hc,aJ]at h1;cases h1
     |true=>
      rw[hc,aI]at h1;rw[aI];cases ha:tU P call H (ev S) o (base+i)with
      |none=>rw[ha]at h1;cases h1
      |some v=>rw[ha]at h1;exact ih _ _ _ _ h1
def aDt{x q:Nat}{ox:Oper}{tx:TypeId}{ax vx:Operand}(hx:ops[x]?=some ox)(opx:ox.op= .store tx ax vx)(gx:ox.guard=none)(dx:ox.dst=none)(hq:JD ops x q=true)(rest:List Nat)(pend:List iC)(S:Slots)(H:St)(r:Slots×St)
    (h:dO P call ops ms base (x::q::rest) pend S H=some r):dO P call ops ms base (q::x::rest) pend S H=some r:=by
 unfold JD at hq;rw[hx]at hq;cases hoq:ops[q]? with
 |none=>rw[hoq]at hq;cases hq
 |some oq=>
  rw[hoq]at hq;simp only[opx,aC]at hq;obtain⟨⟨hp,hg⟩,hd⟩:=hq;have wm: ∀S,wanted ops S ox=true:=λS=>by simp only[wanted,gx]
  have jf:oq.guard=none:=by cases hgq:oq.guard with
   |none=>rfl
   |some z=>rw[hgq]at hg;cases hg
  have hwq: ∀S,wanted ops S oq=true:=λS=>by simp only[wanted,jf]
  have hkq:cO oq= .pure:=by
   unfold El at hp;rw[hoq]at hp;simp only at hp;cases hk:cO oq<;>rw[hk]at hp<;>first|rfl|cases hp
  simp only[dO,hx,hoq,wm,hwq,aI,kC opx,hkq,kD opx,dx,Slots.store]at h⊢;cases hc:pend.all (check P base H)with
  |false=>rw[hc,aJ]at h;cases h
  |true=>
   rw[hc,aI]at h;cases hs:eT P H tx (ev S ax) (ev S vx)with
   |none=>rw[hs]at h;cases h
   |some H1=>
    rw[hs]at h;simp only[aK]at h;cases hv:lL P (ev S) oq with
    |none=>rw[hv]at h;cases h
    |some v=>
     rw[hv]at h;simp only[aI]at h⊢;have e1:ev (S.store oq.dst v) ax=ev S ax/\ev (S.store oq.dst v) vx=ev S vx:=by
      cases hdd:oq.dst with
      |none=>exact⟨rfl,rfl⟩
      |some d=>rw[hdd]at hd;simp only[aC]at hd;exact⟨XD hd.1,XD hd.2⟩
     have e2:eT P H tx (ev (S.store oq.dst v) ax) (ev (S.store oq.dst v) vx)=some H1:=by rw[e1.1,e1.2];exact hs
     have e3:=e2;simp only[Slots.store]at e3;rw[e3];exact h
def Pk{x:Nat}{ox:Oper}{tx:TypeId}{ax vx:Operand}(hx:ops[x]?=some ox)(opx:ox.op= .store tx ax vx)(gx:ox.guard=none)(dx:ox.dst=none)(rest:List Nat): ∀(Q:List Nat),(∀q∈Q,JD ops x q=true)->∀(pend:List iC) (S:Slots) (H:St) (r:Slots×St),
    dO P call ops ms base (x::(Q++rest)) pend S H=some r->dO P call ops ms base (Q++x::rest) pend S H=some r
 |[],_,pend,S,H,r,h=>h
 |q::Q,hQ,pend,S,H,r,h=>by
  have h1:=aDt hx opx gx dx (hQ q (aH ..)) (Q++rest) pend S H r h;exact sB (λpend S H r h=>Pk hx opx gx dx rest Q (λz hz=>hQ z (aG _ hz)) pend S H r h) [q] pend S H r h1
end
end Go.AI
namespace Go.AI
section
variable{w0:W0}{P:Program}{call:FuncId->Array Value->St->Option (Value×St)}
def ZW(bj:CallOK w0 P call)(jh:P.toTables.follows .mixedOrders=true){α id:Nat}{ops:Array Oper}{draw:Bool}{S S':Slots}{H H':St}{a:Act}{w:World}{Y:Mp}{Q:Exit->Act->World->Prop}
    (h:iO P call ops draw S H=some (S',H')) (bw:fD P α (.region id ops draw)=true) (A:AR Y S α a) (ρ:Sim w0 P Y H w) (cw:pI w0 P Y H.next α S' H' (Q .normal)):
    (Code.region id ops draw).wp P Q a w:=by
 simp only[fD,aC,bJ,Bool.or_eq_true,Bool.not_eq_true']at bw;obtain⟨dq,hdr⟩:=bw;unfold iO at h;have bz: ∀j,Y (H.next+j)=none:=λj=>ρ.dom _ (by omega)
 cases draw with
 |false=>
  simp only[aJ]at h;refine wp_region ?_;rw[List.range_eq_range'];have:=ZT (Q:=Q) (w0:=w0) bj (ops:=ops) (base:=H.next) (α:=α) (n0:=H.next) (aS _) dq ops.toList 0 S S' {H with next:=H.next+ops.size} H' a w Y Y (by simp) (by simp) A (ρ.next (Nat.le_add_right _ _))
   (Ext.refl _ _) (aS _) (λj _ _=>bz j) h cw
  simpa using this
 |true=>
  simp only[aI]at h;have hD:=hdr.resolve_left (by simp)
  have ρ':Sim w0 P Y {H with next:=H.next+ops.size} {w with drawn:=w.drawn+1}:=(ρ.next (Nat.le_add_right _ _)).drawn _
  have jv: ∀i,(Array.replicate ops.size false).getD i false=false:=λi=>by
   rw[Array.getD_eq_getD_getElem?];by_cases hi:i<ops.size
   .simp[hi]
   .simp[hi]
  have hunl:aJT (Array.replicate ops.size false)<=ops.size:=by
   unfold aJT;simp only[Array.toList_replicate];exact Nat.le_trans (List.length_filter_le _ _) (by simp)
  unfold Da at hD;cases ht:HN ops with
  |none=>
   rw[ht]at hD;simp only at hD;have h':dO P call ops (eD ops.toList []) H.next (pX ops (eD ops.toList [])) [] S {H with next:=H.next+ops.size}=some (S',H'):=by
    cases hr:dO P call ops (eD ops.toList []) H.next (pX ops (eD ops.toList [])) [] S {H with next:=H.next+ops.size}with
    |none=>rw[hr]at h;cases h
    |some r=>
     rw[hr]at h;simp only[Xx,RU,ht,aI]at h;exact h
   obtain⟨rs,Cs,Es,ln,C⟩:=Qh _ _ _ _ h';obtain⟨s,hs0,hsn,htr⟩:=C.first (w0:=w0)
   refine wp_region_any jh (Ku bj (a0g hD) dq (aS _) C ln cw ops.size (Array.replicate ops.size false) a _ Y 0 s hunl ?_);refine⟨by simp,λi o e _ hl=>?_,λq e _=>?_,hs0,htr Y _ (λr _=>bz r.i) ρ',?_,λi _ _=>bz i,Ext.refl _ _,A.size,A.defers,λr _ hl=>?_,λx _=>A.slot x⟩
   .rw[jv]at hl;cases hl
   .rw[jv];simp
   .rw[hsn];exact aS _
   .rw[jv]at hl;cases hl
  |some ab=>
   obtain⟨b1,b2⟩:=ab;rw[ht]at hD;simp only at hD;obtain⟨x,y,ox,oy,tx,ty,vx,vy,rt,σ⟩:=aBD ht;unfold RT at hD;rw[rt]at hD;simp only[aC]at hD;obtain⟨⟨⟨hbk,hD1⟩,hD2⟩,jy⟩:=hD;have xr:pX ops (eD ops.toList [])=((oD ops (eD ops.toList [])).filter λi=>Nat.blt i x)++x::(((oD ops (eD ops.toList [])).filter λi=>Nat.blt x i&& !Nat.beq i y)++ [y]):=by
    unfold pX aXV;rw[ht,rt]
   rw[xr]at h;generalize ((oD ops (eD ops.toList [])).filter λi=>Nat.blt i x)=fr at*
   generalize ((oD ops (eD ops.toList [])).filter λi=>Nat.blt x i&& !Nat.beq i y)=bk at*
   generalize hpe:fr++bk=pre at*;obtain⟨h',qn⟩:dO P call ops (eD ops.toList []) H.next (pre++ [x,y]) [] S {H with next:=H.next+ops.size}=some (S',H')/\aJt S' H' b1 b2:=by
    cases hr:dO P call ops (eD ops.toList []) H.next (fr++x::(bk++ [y])) [] S {H with next:=H.next+ops.size}with
    |none=>rw[hr]at h;cases h
    |some r=>
     have ca:=sB (λpend S H r h=>Pk σ.hx σ.opx σ.gx σ.dx [y] bk (λq hq=>bJ.1 hbk q hq) pend S H r h) fr _ _ _ _ hr
     rw[<-aQ,hpe]at ca;rw[hr]at h;simp only[Xx]at h;cases hk:RU ops r.1 r.2 with
     |false=>rw[hk]at h;cases h
     |true=>rw[hk,aI]at h;cases h;exact⟨ca,aDB ht hk⟩
   rw[bJ]at jy;obtain⟨rp,Cp,Ep,rx,ry,sx,sy,Ha,Hb,Hc,q1,q2,q3,q4,q5,q6,C1,C2⟩:=ZF σ pre [] S {H with next:=H.next+ops.size} (λi hi=>by
    have:=jy i hi;simp only[aC,Bool.or_eq_true,Bool.not_eq_true',cR,aD,bC]at this;obtain⟨⟨⟨h1,h2⟩,h3,h3'⟩,h4⟩:=this;exact⟨h3,h3',h1,h2,h4⟩) (λp hp=>by cases hp) h' qn
   obtain⟨s,hs0,hsn,htr⟩:=C1.first (w0:=w0)
   refine wp_region_any jh (aJV bj σ (Kv hD1) (Kv hD2) dq (aS _) q1 q2 q3 q4 q5 q6 C1 C2 cw ops.size (Array.replicate ops.size false) a _ Y 0 s hunl (jv _) (jv _) ?_);refine⟨by simp[kS],λi o e _ hl=>?_,λq e _=>?_,hs0,htr Y _ (λr _=>bz r.i) ρ',?_,λi _ _=>bz i,Ext.refl _ _,A.size,A.defers,λr _ hl=>?_,λx _=>A.slot x⟩
   .rw[jv]at hl;cases hl
   .rw[jv];simp
   .rw[hsn,kS];exact aS _
   .rw[jv]at hl;cases hl
def Fl.out:Fl->Exit
 | .normal=> .normal
 | .exit n=> .exit n
 | .ret=> .ret
def Post(w0:W0)(P:Program)(Y:Mp)(n α:Nat)(S':Slots)(H':St)(K:Act->World->Prop):Prop:=
 ∀a' w' Y',AR Y' S' α a'->Sim w0 P Y' H' w'->Ext n Y Y'->n<=H'.next->K a' w'
def Post.later{Y Y':Mp}{n n' α:Nat}{S':Slots}{H':St}{K:Act->World->Prop}(h:Post w0 P Y n α S' H' K)(hE:Ext n Y Y')(hn:n<=n'):Post w0 P Y' n' α S' H' K:=
 λa' w' Y'' A ρ E hl=>h a' w' Y'' A ρ (hE.trans E hn) (by omega)
def XB(bj:CallOK w0 P call)(jh:P.toTables.follows .mixedOrders=true)(L α:Nat): ∀(c:Code) (S:Slots) (H:St) (fl:Fl) (S':Slots) (H':St) (a:Act) (w:World) (Y:Mp) (Q:Exit->Act->World->Prop),
    cJ P call L c S H=some (fl,S',H')->fD P α c=true->AR Y S α a->Sim w0 P Y H w->Post w0 P Y H.next α S' H' (Q fl.out)->c.wp P Q a w:=by
 intro c;induction c with
 |skip=>
  intro S H fl S' H' a w Y Q h _ A ρ hp;simp only[cJ,aA,aB]at h;obtain⟨rfl,rfl,rfl⟩:=h;exact wp_skip (hp a w Y A ρ (Ext.refl _ _) (aS _))
 |label l=>
  intro S H fl S' H' a w Y Q h _ A ρ hp;simp only[cJ,aA,aB]at h;obtain⟨rfl,rfl,rfl⟩:=h;exact wp_label (hp a w Y A ρ (Ext.refl _ _) (aS _))
 |region id ops draw=>
  intro S H fl S' H' a w Y Q h bw A ρ hp;simp only[cJ,aF]at h;obtain⟨⟨S1,H1⟩,h,e⟩:=h;cases e;exact ZW bj jh h bw A ρ hp
 |seq x y nq qy=>
  intro S H fl S' H' a w Y Q h bw A ρ hp;simp only[fD,aC]at bw;simp only[cJ]at h;refine wp_seq ?_;cases hx:cJ P call L x S H with
  |none=>simp[hx]at h
  |some r=>
   obtain⟨f1,S1,H1⟩:=r;simp only[hx]at h;cases f1 with
   |normal=>
    simp only at h;exact nq S H .normal S1 H1 a w Y _ hx bw.1 A ρ (λa' w' Y' A' ρ' E hn=>qy S1 H1 fl S' H' a' w' Y' Q h bw.2 A' ρ' (hp.later E hn))
   |exit n=>
    simp only[aA,aB]at h;obtain⟨rfl,rfl,rfl⟩:=h;exact nq S H (.exit n) S1 H1 a w Y _ hx bw.1 A ρ hp
   |ret=>
    simp only[aA,aB]at h;obtain⟨rfl,rfl,rfl⟩:=h;exact nq S H .ret S1 H1 a w Y _ hx bw.1 A ρ hp
 |cond c x y nq qy=>
  intro S H fl S' H' a w Y Q h bw A ρ hp;simp only[fD,aC]at bw;simp only[cJ]at h;have hv:=XE A ρ bw.1.1;split at h<;>try cases h
  .rename_i hc;rw[hc]at hv;exact wp_cond_true hv.bool_inv (nq S H fl S' H' a w Y Q h bw.1.2 A ρ hp)
  .rename_i hc;rw[hc]at hv;exact wp_cond_false hv.bool_inv (qy S H fl S' H' a w Y Q h bw.2 A ρ hp)
 |block id c ih=>
  intro S H fl S' H' a w Y Q h bw A ρ hp;simp only[fD]at bw;simp only[cJ]at h;refine wp_block ?_;cases hx:cJ P call L c S H with
  |none=>simp[hx]at h
  |some r=>
   obtain⟨f1,S1,H1⟩:=r;simp only[hx]at h;cases f1 with
   |normal=>
    simp only[aA,aB]at h;obtain⟨rfl,rfl,rfl⟩:=h;exact ih S H .normal S1 H1 a w Y _ hx bw A ρ hp
   |ret=>
    simp only[aA,aB]at h;obtain⟨rfl,rfl,rfl⟩:=h;exact ih S H .ret S1 H1 a w Y _ hx bw A ρ hp
   |exit n=>
    simp only[cR,Bool.cond_decide]at h;split at h
    .rename_i hn;simp only[aA,aB]at h;obtain⟨rfl,rfl,rfl⟩:=h;exact ih S H (.exit n) S1 H1 a w Y _ hx bw A ρ (λa' w' Y' A' ρ' E hl=>by
      show Exit.inBlock id Q (.exit n) a' w';simp only[Exit.inBlock,bI hn];exact hp a' w' Y' A' ρ' E hl)
    .rename_i hn;simp only[aA,aB]at h;obtain⟨rfl,rfl,rfl⟩:=h;exact ih S H (.exit n) S1 H1 a w Y _ hx bw A ρ (λa' w' Y' A' ρ' E hl=>by
      show Exit.inBlock id Q (.exit n) a' w';simp only[Exit.inBlock,bH hn];exact hp a' w' Y' A' ρ' E hl)
 |loop c ih=>
  intro S H fl S' H' a w Y Q h bw A ρ hp;simp only[fD]at bw;simp only[cJ]at h;refine wp_loop_rounds L ?_;have main: ∀(n:Nat) (S:Slots) (H:St) (a:Act) (w:World) (Y:Mp),R8 (λS H=>cJ P call L c S H) n S H=some (fl,S',H')->AR Y S α a->Sim w0 P Y H w->Post w0 P Y H.next α S' H' (Q fl.out)->Code.rounds P c Q n a w:=by
   intro n;induction n with
   |zero=>intro S H a w Y h;simp[R8]at h
   |succ n ihn=>
    intro S H a w Y h A ρ hp;rw[rounds_succ];simp only[R8]at h;cases hx:cJ P call L c S H with
    |none=>simp[hx]at h
    |some r=>
     obtain⟨f1,S1,H1⟩:=r;simp only[hx]at h;cases f1 with
     |normal=>
      simp only at h;exact ih S H .normal S1 H1 a w Y _ hx bw A ρ (λa' w' Y' A' ρ' E hl=>ihn S1 H1 a' w' Y' h A' ρ' (hp.later E hl))
     |exit n=>
      simp only[aA,aB]at h;obtain⟨rfl,rfl,rfl⟩:=h;exact ih S H (.exit n) S1 H1 a w Y _ hx bw A ρ hp
     |ret=>
      simp only[aA,aB]at h;obtain⟨rfl,rfl,rfl⟩:=h;exact ih S H .ret S1 H1 a w Y _ hx bw A ρ hp
  exact main L S H a w Y h A ρ hp
 |exit n=>
  intro S H fl S' H' a w Y Q h _ A ρ hp;simp only[cJ,aA,aB]at h;obtain⟨rfl,rfl,rfl⟩:=h;exact wp_exit (hp a w Y A ρ (Ext.refl _ _) (aS _))
 |ret=>
  intro S H fl S' H' a w Y Q h _ A ρ hp;simp only[cJ,aA,aB]at h;obtain⟨rfl,rfl,rfl⟩:=h;exact wp_ret (hp a w Y A ρ (Ext.refl _ _) (aS _))
 |scope c ih=>
  intro S H fl S' H' a w Y Q h bw A ρ hp;simp only[fD]at bw;simp only[cJ]at h;refine wp_scope_straight (ih S H fl S' H' a w Y _ h bw A ρ ?_);cases fl<;>exact hp
 |goto l=>intro S H fl S' H' a w Y Q h;simp[cJ]at h
 |refuse s=>intro S H fl S' H' a w Y Q h;simp[cJ]at h
 |rangeFunc x ts c d _ _=>intro S H fl S' H' a w Y Q h;simp[cJ]at h
def EN: ∀(l:List Value) (i:Nat) (S:Slots) (k:Nat),(mB l i S).at k=if i<=k/\k<i+l.length then(l[k-i]?).getD undef else S.at k:=by
 intro l;induction l with
 |nil=>intro i S k;rw[mB,bH (by simp)]
 |cons v l ih=>
  intro i S k;rw[mB,ih];simp only[aM];by_cases h1:i+1<=k/\k<i+1+l.length
  .rw[bI h1,bI (by omega),show k-i=(k-(i+1))+1 by omega];simp
  .rw[bH h1];by_cases h2:k=i
   .subst h2;rw[bI (by omega)]
    simp[Slots.at,Tr.get_set]
   .rw[bH (by omega)]
    simp[Slots.at,Tr.get_set,h2]
def ZU{S:Slots}{α:Nat}{a:Act}{H:St}{w:World}{Y:Mp}(A:AR Y S α a)(ρ:Sim w0 P Y H w){r:ResultVar}{v:Value}(h:Bu P S H r=some v):
    ∃v',(match r with| .tmp t=>(pure (a.tmps.getD t undef):Sem Value)| .cell x t=>do loadVar t (<-asAddr (a.tmps.getD x undef))).run P w= .ok v' w/\VR Y v v':=by
 cases r with
 |tmp t=>simp only[Bu,aA]at h;subst h;exact⟨_,rfl,A.slot t⟩
 |cell x t=>
  simp only[Bu]at h;have hx:=A.slot x;obtain⟨v',h1,h2⟩:=Qy ρ hx h;refine⟨v',?_,h2⟩;unfold nE at h;split at h<;>try cases h
  rename_i id off hS;rw[hS]at hx;obtain⟨p,hp,hu⟩:=hx.ptr_inv;rw[hu]at h1;simp only;rw[hu];simpa [Instr.loadAt,Instr.sureAddr,asAddr]using h1
def Ri{S:Slots}{α:Nat}{a:Act}{H:St}{w:World}{Y:Mp}(A:AR Y S α a)(ρ:Sim w0 P Y H w): ∀(l:List ResultVar) (vs:List Value),fQ P S H l=some vs->
    ∃us,(l.mapM (λ(r:ResultVar)=>(match r with| .tmp t=>(pure (a.tmps.getD t undef):Sem Value)| .cell x t=>do loadVar t (<-asAddr (a.tmps.getD x undef))))).run P w= .ok us w/\VRL Y vs us:=by
 intro l;induction l with
 |nil=>intro vs h;simp only[fQ,aA]at h;subst h;exact⟨[],rfl,.nil⟩
 |cons r l ih=>
  intro vs h;simp only[fQ]at h;split at h<;>try cases h
  rename_i v qo hv ki;obtain⟨u,h1,h2⟩:=ZU A ρ hv;obtain⟨us,h3,h4⟩:=ih qo ki;refine⟨u::us,?_,.cons h2 h4⟩;rw[List.mapM_cons];simp only[Sem.run_bind,h1,Result.andThen_ok,h3,Sem.run_pure]
def aAV{fn:Func}{S:Slots}{α:Nat}{a:Act}{H:St}{w:World}{Y:Mp}(A:AR Y S α a)(ρ:Sim w0 P Y H w){vs:List Value}(h:fQ P S H fn.results.toList=some vs):
    ∃v',(results fn a.tmps).run P w= .ok v' w/\VR Y (vR vs) v':=by
 obtain⟨us,h1,h2⟩:=Ri A ρ _ _ h;unfold results;rw[Array.mapM_eq_mapM_toList];simp only[Sem.run_bind,Sem.run_map];have h1':(List.mapM (λ(r:ResultVar)=>(match r with| .tmp t=>(pure (a.tmps.getD t undef):Sem Value)| .cell x t=>do let __do_lift<-asAddr (a.tmps.getD x undef);loadVar t __do_lift)) fn.results.toList).run P w= .ok us w:=h1
 erw[h1'];simp only[Result.andThen_ok,Sem.run_pure];refine⟨_,rfl,?_⟩
 match vs,us,h2 with
 |[],us,h2=>rw[h2.nil_inv];exact .mkTuple .nil
 |[v],us,h2=>
  obtain⟨u,jo,rfl,h3,h4⟩:=h2.cons_inv;rw[h4.nil_inv];exact h3
 |v1::v2::vs,us,h2=>
  have hl:=h2.1;rw[dif_neg (by simp only[List.size_toArray,<-hl,aM];omega)]
  exact .mkTuple h2
end
end Go.AI
namespace Go.AI
section
variable{w0:W0}{P:Program}{call:FuncId->Array Value->St->Option (Value×St)}
def Kept.trans{a b c:World}(h:Kept a b)(k:Kept b c):Kept a c:=by
 refine⟨k.os.trans h.os,k.output.trans h.output,Nat.le_trans h.size k.size,λi hi=>?_⟩
 have:=h.size;rw[k.old i (by omega),h.old i hi]
def wK{w:World}{b:Nat}{o:Obj}(h:w.heap[b]?=some o):b<w.heap.size:=by
 by_cases hb:b<w.heap.size
 .exact hb
 .rw[Array.getElem?_eq_none (by omega)]at h;cases h
def Sim.keep{Y:Mp}{H:St}{w w':World}(S:Sim w0 P Y H w)(K:Kept w w'):Sim w0 P Y H w':=by
 refine⟨⟨S.kept.toKept.trans K,λk o hk=>⟨by have h1:=(S.kept.oth k o hk).1;rw[K.old k (wK h1)];exact h1,(S.kept.oth k o hk).2⟩,λid p h=>Nat.lt_of_lt_of_le (S.kept.bnd id p h) K.size⟩,S.dom,S.glob,λid p cs m h1 h2 h3=>?_,λid p es h1 h2=>?_,S.off,S.tip,S.maps,S.vers,S.lim⟩
 .obtain⟨⟨C,t,fr,r1,r2,r3⟩,r4,r5,r6,r7⟩:=S.row id p cs m h1 h2 h3;exact⟨⟨C,t,fr,by rw[K.old _ (wK r1)];exact r1,r2,r3⟩,r4,r5,r6,λhw C1 t1 fr1 e1=>r7 hw C1 t1 fr1 (by rw[<-K.old _ (wK r1)];exact e1)⟩
 .obtain⟨⟨ES,clock,r1,r2⟩,r3⟩:=S.map id p es h1 h2;exact⟨⟨ES,clock,by rw[K.old _ (wK r1)];exact r1,r2⟩,r3⟩
structure Fs where
 n:Nat
 s:Int->Int->Option (List UInt8)
 m:Nat
 w:Option (Nat×Nat)
inductive OV where
 |s (l:List UInt8)
 |t
def OV.v:OV->Value
 | .s l=> .string ⟨l.toArray⟩
 | .t=> .bool true
def a23(O:Fs)(f:FuncId)(args:Array Value):Option Value:=
 bif Nat.beq f O.n then(match args.toList with
 |[.int .i64 a,.int .i64 b]=>((O.s a b).map OV.s).map OV.v
 |_=>none)else bif Nat.beq f O.m then(match args.toList with
 |[]=>some (.bool true)
 |_=>none)else none
def aOv:pM:={eE 1 with wr:=false}
def bA7(O:Fs)(f:FuncId)(args:Array Value)(H:St):Option (Value×St):=match O.w with
 |none=>none
 |some (g,k)=>bif Nat.beq f g then(match args.toList with
  |[.int .u32 n]=>bif decide (n=0)then some (.slice (some ⟨H.next,0,none⟩) k (k+1),({H with next:=H.next+1}:St).put H.next (.cells [] aOv))else none
  |_=>none)else none
def Sim.opq{Y:Mp}{H:St}{w:World}(S:Sim w0 P Y H w){p:Place}{C:Array Value}{t:TypeId}{fr:Nat×Nat}(hb:w.heap[p.b]?=some (.cells C t fr))(ho: ∀k o,w0.O k=some o->p.b≠k)(hz:p.z=1):
    Sim w0 P (upd Y H.next p) (({H with next:=H.next+1}:St).put H.next (.cells [] aOv)) w:=by
 have hid:Y H.next=none:=S.dom _ (aS _)
 have bg: ∀{k q},upd Y H.next p k=some q->(k=H.next/\q=p)∨(k≠H.next/\Y k=some q):=by
  intro k q hk;by_cases e:k=H.next
  .subst e;rw[kW]at hk;cases hk;exact .inl ⟨rfl,rfl⟩
  .rw[jE e]at hk;exact .inr ⟨e,hk⟩
 have kc:(({H with next:=H.next+1}:St).put H.next (.cells [] aOv)).get H.next=some (.cells [] aOv):=by rw[St.get_put,bI rfl]
 have hold: ∀{k},k≠H.next->(({H with next:=H.next+1}:St).put H.next (.cells [] aOv)).get k=H.get k:=by
  intro k hk;rw[St.get_put,bH hk];rfl
 have bf: ∀m,(({H with next:=H.next+1}:St).put H.next (.cells [] aOv)).good m=H.good m:=λ_=>rfl
 have cb:=mK p hid;have vg: ∀{cs m},(({H with next:=H.next+1}:St).put H.next (.cells [] aOv)).get H.next=some (.cells cs m)->cs=[]/\m=aOv:=by
  intro cs m h;rw[kc]at h;cases h;exact⟨rfl,rfl⟩
 refine⟨S.kept.upd ho (wK hb),λid hi=>?_,λg hg=>?_,?_,?_,?_,?_,?_,?_,?_⟩
 .have:H.next+1<=id:=hi
  rw[jE (by omega)];exact S.dom id (by omega)
 .obtain⟨q,h1,h2⟩:=S.glob g hg;exact⟨q,cb _ _ h1,h2⟩
 .intro k q cs m hq hg hm;rcases bg hq with⟨rfl,rfl⟩|⟨hk,ge⟩
  .obtain⟨rfl,rfl⟩:=vg hg;exact⟨⟨C,t,fr,hb,(λi v h=>by simp at h),(λh=>by cases h)⟩,(λh=>by cases h),(λh=>by cases h),hz,λh=>by cases h⟩
  .rw[hold hk]at hg;rw[bf]at hm;obtain⟨⟨C',t',fr',r1,r2,r3⟩,r4,r5,r6,r7⟩:=S.row k q cs m ge hg hm;exact⟨⟨C',t',fr',r1,λi v h=>by obtain⟨u,h1,h2⟩:=r2 i v h;exact⟨u,h1,h2.mono' cb⟩,r3⟩,r4,r5,r6,r7⟩
 .intro k q es hq hg;rcases bg hq with⟨rfl,rfl⟩|⟨hk,ge⟩
  .rw[kc]at hg;cases hg
  .rw[hold hk]at hg;obtain⟨⟨ES,cl,r1,r2,r3⟩,r4⟩:=S.map k q es ge hg;exact⟨⟨ES,cl,r1,r2.mono' cb,r3.mono' cb⟩,r4⟩
 .intro i j q r cs ds m n bn hq hr hg bp hm hn hw hs;rcases bg hq with⟨rfl,rfl⟩|⟨hi,ge⟩
  .obtain⟨rfl,rfl⟩:=vg hg;cases hw
  .rcases bg hr with⟨rfl,rfl⟩|⟨hj,ca⟩
   .obtain⟨rfl,rfl⟩:=vg bp;exact λ_ x _ _ h3 h4=>by simp at h4;omega
   .rw[hold hi]at hg;rw[hold hj]at bp;exact S.off i j q r cs ds m n bn ge ca hg bp hm hn hw hs
 .intro i j q r cs ds m n bn hq hr hg bp hm hn hw;rcases bg hq with⟨rfl,rfl⟩|⟨hi,ge⟩
  .obtain⟨rfl,rfl⟩:=vg hg;cases hw
  .rcases bg hr with⟨rfl,rfl⟩|⟨hj,ca⟩
   .obtain⟨rfl,rfl⟩:=vg bp;exact⟨λ_ x _ _ h3 h4=>by simp at h4;omega,λh=>by cases h⟩
   .rw[hold hi]at hg;rw[hold hj]at bp;exact S.tip i j q r cs ds m n bn ge ca hg bp hm hn hw
 .intro i j q r es fs bn hq hr hg bp;rcases bg hq with⟨rfl,rfl⟩|⟨hi,ge⟩
  .rw[kc]at hg;cases hg
  .rcases bg hr with⟨rfl,rfl⟩|⟨hj,ca⟩
   .rw[kc]at bp;cases bp
   .rw[hold hi]at hg;rw[hold hj]at bp;exact S.maps i j q r es fs bn ge ca hg bp
 .intro k cs m g v hg jd;by_cases hk:k=H.next
  .subst hk;obtain⟨rfl,rfl⟩:=vg hg;cases jd
  .rw[hold hk]at hg;exact S.vers k cs m g v hg jd
 .intro i j q r cs ds m n bn hq hr hg bp hm hn hw;rcases bg hq with⟨rfl,rfl⟩|⟨hi,ge⟩
  .obtain⟨rfl,rfl⟩:=vg hg;cases hw
  .rcases bg hr with⟨rfl,rfl⟩|⟨hj,ca⟩
   .obtain⟨rfl,rfl⟩:=vg bp;exact λ_ x _ _ h3 h4=>by simp at h4;omega
   .rw[hold hi]at hg;rw[hold hj]at bp;exact S.lim i j q r cs ds m n bn ge ca hg bp hm hn hw
def BY(P:Program)(f:FuncId)(n:Nat):Bool:=match P.funcs[f]? with
 |some fn=>Nat.beq (fn.params.size+fn.nfree) n
 |none=>false
def fL(P:Program)(fn:Func):Option (Fl×Slots×St)->Option (Value×St)
 |some (.exit _,_,_)=>none
 |some (_,S,H')=>(fQ P S H' fn.results.toList).map λvs=>(vR vs,H')
 |none=>none
def Bh(P C:Program)(O:Fs)(L:Nat):Nat->FuncId->Array Value->St->Option (Value×St)
 |0,_,_,_=>none
 |n+1,f,args,H=>match a23 O f args with
  |some v=>some (v,H)
  |none=>match bA7 O f args H with
   |some x=>some x
   |none=>bif BY P f args.size then(match C.funcs[f]? with
    |some fn=>match fn.body with
     |some c=>fL P fn (cJ P (Bh P C O L n) L c (mB args.toList 0 .nil) H)
     |none=>none
    |none=>none)else none
def YC(w0:W0)(P:Program)(f:FuncId)(fn:Func)(c:Code):Prop:=
 (∃ fn c, P.funcs[f]? = some fn ∧ fn.body = some c ∧ (fn.name == "runtime.NumGoroutine") = false) ∧
 ∀(call:FuncId->Array Value->St->Option (Value×St)) (L:Nat),(∀w1:W0,w1.toWorld=w0.toWorld->CallOK w1 P call)->∀(args args':Array Value) (H H':St) (w:World) (Y:Mp) (r:Value),
  fL P fn (cJ P call L c (mB args.toList 0 .nil) H)=some (r,H')->Sim w0 P Y H w->VRL Y args.toList args'.toList->BY P f args.size=true->
  Calls P f args' w λe w'=> ∃Y' r',e= .returned r'/\VR Y' r r'/\Sim w0 P Y' H' w'/\Ext H.next Y Y'/\H.next<=H'.next
def Ak(w0:W0)(P C:Program):Prop:= ∀f fn c,C.funcs[f]?=some fn->fn.body=some c->(P.funcs[f]?=some fn/\kE P fn=true)∨YC w0 P f fn c
def YD(P:Program)(w0:World)(O:Fs):Prop:=(∀a b s,O.s a b=some s->∀w,Kept w0 w->
 (∃ fn c, P.funcs[O.n]? = some fn ∧ fn.body = some c ∧ (fn.name == "runtime.NumGoroutine") = false) ∧ Calls P O.n #[.int .i64 a, .int .i64 b] w fun e w' => e = .returned (.string ⟨s.toArray⟩) ∧ Kept w w') ∧
 (O.m = O.n ∨ ∀ w, Kept w0 w → (∃ fn c, P.funcs[O.m]? = some fn ∧ fn.body = some c ∧ (fn.name == "runtime.NumGoroutine") = false) ∧ Calls P O.m #[] w fun e w' => e = .returned (.bool true) ∧ Kept w w') ∧
 ∀ g k, O.w = some (g, k) → ∀ w, Kept w0 w → (∃ fn c, P.funcs[g]? = some fn ∧ fn.body = some c ∧ (fn.name == "runtime.NumGoroutine") = false) ∧ Calls P g #[.int .u32 0] w fun e w' =>
  (∃b off cap C t fr,e= .returned (.slice (some ⟨b,off,none⟩) k cap)/\k<=cap/\w'.heap[b]?=some (.cells C t fr)/\(b<P.globals.size∨w.heap.size<=b))/\Kept w w'
def Bt(jh:P.toTables.follows .mixedOrders=true){L:Nat}{f:FuncId}{fn:Func}{c:Code}(hf:P.funcs[f]?=some fn)(hb:fn.body=some c)(fx:kE P fn=true)(ih1:CallOK w0 P call)
    {args args':Array Value} {H H':St} {w:World} {Y:Mp} {r:Value} (h:fL P fn (cJ P call L c (mB args.toList 0 .nil) H)=some (r,H')) (ρ:Sim w0 P Y H w) (hargs:VRL Y args.toList args'.toList):
    (∃ fn c, P.funcs[f]? = some fn ∧ fn.body = some c ∧ (fn.name == "runtime.NumGoroutine") = false) ∧
    Calls P f args' w λe w'=> ∃Y' r',e= .returned r'/\VR Y' r r'/\Sim w0 P Y' H' w'/\Ext H.next Y Y'/\H.next<=H'.next:=by
 simp only[kE,hb,aC,Bool.not_eq_true']at fx;refine⟨⟨fn,c,hf,hb,fx.2⟩,?_⟩;cases hx:cJ P call L c (mB args.toList 0 .nil) H with
 |none=>simp[hx,fL]at h
 |some x=>
  obtain⟨fl,S',H1⟩:=x;have A0:AR Y (mB args.toList 0 .nil) fn.ntmps {tmps:=args'++Array.replicate (fn.ntmps-args'.size) undef,defers:=[]}:=by
   have ci:=hargs.size;refine⟨by simp;omega,rfl,λi=>?_⟩
   rw[EN];simp only[Nat.zero_le,true_and,Nat.zero_add,Nat.sub_zero,Array.length_toList];rw[Array.getD_eq_getD_getElem?];by_cases hi:i<args.size
   .rw[bI hi,Array.getElem?_append_left (by omega)]
    have h1:args.toList[i]?=some args[i]:=by simp[hi]
    obtain⟨u,hu,hr⟩:=hargs.get h1;have fy:args'[i]?=some u:=by simpa using hu
    rw[h1,fy];exact hr
   .rw[bH hi,Array.getElem?_append_right (by omega)]
    have:((Array.replicate (fn.ntmps-args'.size) undef)[i-args'.size]?).getD undef=undef:=by
     by_cases h2:i-args'.size<fn.ntmps-args'.size
     .simp[h2]
     .simp[h2]
    rw[this];exact .undef
  have fin: ∀(R:Exit),R= .normal∨R= .ret->(fQ P S' H1 fn.results.toList).map (λvs=>(vR vs,H1))=some (r,H')->
        Post w0 P Y H.next fn.ntmps S' H1 (bodyPost P fn (λe w'=> ∃Y' r',e= .returned r'/\VR Y' r r'/\Sim w0 P Y' H' w'/\Ext H.next Y Y'/\H.next<=H'.next) R):=by
   intro R hR kw a' w' Y' A' ρ' E hl;rw[aF]at kw;obtain⟨vs,ki,he⟩:=kw;cases he;obtain⟨v',h1,h2⟩:=aAV A' ρ' ki;rcases hR with rfl|rfl
   .exact⟨A'.defers,v',h1,Y',v',rfl,h2,ρ',E,hl⟩
   .exact⟨A'.defers,v',h1,Y',v',rfl,h2,ρ',E,hl⟩
  refine calls_of_wp hf hb ?_;cases fl with
  |exit k=>simp[hx,fL]at h
  |normal=>simp only[hx,fL]at h;exact XB ih1 jh L fn.ntmps c _ H .normal S' H1 _ w Y _ hx fx.1 A0 ρ (fin .normal (.inl rfl) h)
  |ret=>simp only[hx,fL]at h;exact XB ih1 jh L fn.ntmps c _ H .ret S' H1 _ w Y _ hx fx.1 A0 ρ (fin .ret (.inr rfl) h)
def E4{C:Program}(jh:P.toTables.follows .mixedOrders=true){β:World}(hC: ∀w0:W0,w0.toWorld=β->Ak w0 P C){O:Fs}(hO:YD P β O)(L:Nat): ∀n (w0:W0),w0.toWorld=β->CallOK w0 P (Bh P C O L n):=by
 intro n;induction n with
 |zero=>intro w0 hw f args args' H H' w Y r h;simp[Bh]at h
 |succ n ih=>
  intro w0 hw;have hC1:=hC w0 hw;have ih1:=ih w0 hw;subst hw;intro f args args' H H' w Y r h ρ hargs;simp only[Bh]at h;split at h
  .rename_i v hv;simp only[aA,aB]at h;obtain⟨rfl,rfl⟩:=h;unfold a23 at hv;cases hf:Nat.beq f O.n with
   |false=>
    rw[hf,aJ]at hv;cases hm:Nat.beq f O.m with
    |false=>rw[hm]at hv;cases hv
    |true=>
    rw[hm,aI]at hv;have hfm:=aE hm;subst hfm;split at hv
    .rename_i he;cases hv;rw[he]at hargs;have q3:args'= #[]:=by rw[<-Array.toArray_toList (xs:=args'),hargs.nil_inv]
     subst q3;rcases hO.2.1 with h7|h7
     .rw[h7,Nat.beq_refl]at hf;cases hf
     .obtain⟨g1,g2⟩:=h7 w ρ.kept.toKept;exact⟨g1,g2.mono λe w' ⟨h5,h6⟩=>⟨Y,_,h5,.same _ rfl,ρ.keep h6,.refl _ _,aS _⟩⟩
    .cases hv
   |true=>
   rw[hf,aI]at hv;rw[aE hf];split at hv
   .rename_i a b he;rw[aF]at hv;obtain⟨x,hx,rfl⟩:=hv;rw[aF]at hx;obtain⟨s,hs,rfl⟩:=hx;rw[he]at hargs;obtain⟨u,us,e1,r1,h3⟩:=hargs.cons_inv;obtain⟨u2,us2,rfl,r2,h4⟩:=h3.cons_inv;rw[h4.nil_inv]at e1;have q1:u= .int .i64 a:=by cases r1;rfl
    have q2:u2= .int .i64 b:=by cases r2;rfl
    subst q1;subst q2;have q3:args'= #[.int .i64 a,.int .i64 b]:=by rw[<-Array.toArray_toList (xs:=args'),e1]
    subst q3;obtain⟨g1,g2⟩:=hO.1 a b s hs w ρ.kept.toKept;exact⟨g1,g2.mono λe w' ⟨h5,h6⟩=>⟨Y,_,h5,.same _ rfl,ρ.keep h6,.refl _ _,aS _⟩⟩
   .cases hv
  split at h
  .rename_i x hx;simp only[aA]at h;subst h;unfold bA7 at hx;split at hx
   .cases hx
   .rename_i g k hg;cases ti:Nat.beq f g with
    |false=>rw[ti]at hx;cases hx
    |true=>
     rw[ti,aI]at hx;rw[aE ti];split at hx
     .rename_i n0 he;cases hn0:decide (n0=(0:Int))with
      |false=>rw[hn0]at hx;cases hx
      |true=>
      rw[hn0]at hx;simp only[aI,aA,aB]at hx;obtain⟨rfl,rfl⟩:=hx;rw[of_decide_eq_true hn0]at he;rw[he]at hargs;obtain⟨u,us,e1,r1,h3⟩:=hargs.cons_inv;rw[h3.nil_inv]at e1;have q1:u= .int .u32 0:=by cases r1;rfl
      subst q1;have q3:args'= #[.int .u32 0]:=by rw[<-Array.toArray_toList (xs:=args'),e1]
      subst q3;obtain⟨g1,g2⟩:=hO.2.2 g k hg w ρ.kept.toKept;refine⟨g1,g2.mono ?_⟩;rintro e w' ⟨⟨b,off,cap,C,t,fr,rfl,hk,hb,hbg⟩,h6⟩;have ρ':=ρ.keep h6;have hO': ∀j o,w0.O j=some o->(⟨b,off,off+cap,1⟩:Place).b≠j:=λj o hj=>by
       show b≠j;have h7:=ρ.kept.oth j o hj;rcases hbg with h8|h8
       .obtain⟨q,h9,h10,_⟩:=ρ.glob b h8;have:=h7.2 b q h9;omega
       .have:=wK h7.1;omega
      refine⟨_,.slice (some ⟨b,off,none⟩) k cap,rfl,?_,ρ'.opq (p:=⟨b,off,off+cap,1⟩) hb hO' rfl,⟨mK _ (ρ.dom _ (aS _)),λid hi=>jE (by omega)⟩,Nat.le_succ _⟩
      exact .slc H.next 0 k (k+1) cap ⟨b,off,off+cap,1⟩ (kW _ _ _) (λe=>by omega) hk (.inl (by simp))
     .cases hx
  cases lg:BY P f args.size with
  |false=>rw[lg]at h;cases h
  |true=>
  rw[lg,aI]at h;split at h<;>try cases h
  rename_i fn hf;split at h<;>try cases h
  rename_i c hb;rcases hC1 f fn c hf hb with⟨hf,fx⟩|⟨g1,g2⟩
  rotate_left
  .exact⟨g1,g2 _ L ih _ _ _ _ _ _ _ h ρ hargs lg⟩
  exact Bt jh hf hb fx ih1 h ρ hargs
end
end Go.AI
namespace Go.AI
def bDo:Fs:=⟨240,λa b=>bif decide (b=10)then(bif decide (a= -1)then some [45,49]else bif decide (a= -2)then some [45,50]else bif decide (a= -3)then some [45,51]else none)else none,240,none⟩
def bDU(f:FuncId)(args:List Value):Option (List UInt8×List UInt8):=
 bif Nat.beq f 84 then(match args with
  |[.int .i64 a]=>bif decide (a=0)then some ([48],[49])else bif decide (a=1)then some ([49],[49])else bif decide (a=2)then some ([50],[49])else bif decide (a=3)then some ([51],[49])
   else bif decide (a= -1)then some ([45,49],[49])else bif decide (a= -2)then some ([45,50],[49])else bif decide (a= -3)then some ([45,51],[49])else none
  |_=>none)
 else bif Nat.beq f 85 then(match args with
  |[.string a,.string b]=>bif decide (a=⟨#[49]⟩)&&decide (b=⟨#[50]⟩)then some ([49],[50])else bif decide (a=⟨#[45,53]⟩)&&decide (b=⟨#[51]⟩)then some ([45,53],[51])else none
  |_=>none)else none
def bDD(p:List UInt8×List UInt8):Value:= .agg #[.int .i64 1,.string ⟨p.1.toArray⟩,.string ⟨p.2.toArray⟩,.string ⟨#[]⟩,.string ⟨#[]⟩,.string ⟨#[]⟩,.slice none 0 0]
def orQ(f:FuncId)(args:Array Value):Option Value:=match a23 bDo f args with
 |some v=>some v
 |none=>(bDU f args.toList).map bDD
def aFz(P:Program)(L:Nat):Nat->FuncId->Array Value->St->Option (Value×St)
 |0,_,_,_=>none
 |n+1,f,args,H=>match orQ f args with
  |some v=>some (v,H)
  |none=>match P.funcs[f]? with
   |some fn=>match fn.body with
    |some c=>match cJ P (aFz P L n) L c (mB args.toList 0 .nil) H with
     |some (.exit _,_,_)=>none
     |some (_,S,H')=>(fQ P S H' fn.results.toList).map λvs=>(vR vs,H')
     |none=>none
    |none=>none
   |none=>none
end Go.AI
namespace Go.AI
section
variable{P:Program}
def bII(P:Program)(c:Code)(S:Slots)(H:St)(Q:Fl->Slots->St->Prop):Prop:= ∃n fl S' H',cJ P (aFz P n n) n c S H=some (fl,S',H')/\Q fl S' H'
def wpo(P:Program)(ops:Array Oper)(base:Nat)(l:List Oper)(i:Nat)(S:Slots)(H:St)(Q:Slots->St->Prop):Prop:= ∃n S' H',fR P (aFz P n n) ops base l i S H=some (S',H')/\Q S' H'
end
end Go.AI
namespace Go.AI
section
variable{P:Program}{ops:Array Oper}{base i:Nat}{l:List Oper}{S:Slots}{H:St}{Q:Slots->St->Prop}{d:Option Tmp}{ty:TypeId}{pos:String}{af:Array Edge}
def gV(P:Program)(op:BinOp)(t:TypeId)(x y:Operand)(a b:Value):Option Value:=
 bif cK a&&cK b then cQ P (do eqGuard op t x y a b;binOp op t a b)
 else match P.underlying t with
  |some (.slice _)=>SY op a b
  |_=>none
def aFU(P:Program)(s t:TypeId)(a:Value):Option Value:=bif bN a then cQ P (convert s t a)else none
end
end Go.AI
namespace Go.AI
section
variable{P:Program}{S:Slots}{H:St}{Q:Fl->Slots->St->Prop}
def St.more(H:St)(n:Nat):St:={H with next:=H.next+n}
def GH{n:Nat}:(H.more n).next=H.next+n:=rfl
def aBx{n g:Nat}:(H.more n).ver g=H.ver g:=rfl
def done(P:Program)(rs:List ResultVar)(Q:Value->St->Prop):Fl->Slots->St->Prop
 | .exit _,_,_=>False
 |_,S,H=> ∃vs,fQ P S H rs=some vs/\Q (vR vs) H
def bS(P:Program)(v:Value)(a b:Code)(S:Slots)(H:St)(Q:Fl->Slots->St->Prop):Prop:=
 match v with
 | .bool t=>if t=true then bII P a S H Q else bII P b S H Q
 |_=>False
def SH(P:Program)(ops:Array Oper)(base:Nat)(l:List Oper)(i:Nat)(S:Slots)(d:Option Tmp)(Q:Slots->St->Prop):Value->St->Prop:=λv H1=>wpo P ops base l i (S.store d v) H1 Q
section
variable{t:TypeId}{x y:Operand}{k:IntKind}{a b:Int}
def a6z:gV P .lss t x y (.int k a) (.int k b)=some (.bool (decide (a<b))):=by cases k<;>rfl
def a6A:gV P .leq t x y (.int k a) (.int k b)=some (.bool (decide (a<=b))):=by cases k<;>rfl
def a6B:gV P .gtr t x y (.int k a) (.int k b)=some (.bool (decide (b<a))):=by cases k<;>rfl
def a6C:gV P .geq t x y (.int k a) (.int k b)=some (.bool (decide (b<=a))):=by cases k<;>rfl
def a6D:gV P .eql t x y (.int k a) (.int k b)=some (.bool (a==b)):=by cases k<;>rfl
def a6w:gV P .neq t x y (.int k a) (.int k b)=some (.bool (a !=b)):=by cases k<;>rfl
def a6G:gV P .add t x y (.int k a) (.int k b)=some (.int k (k.wrap (a+b))):=by cases k<;>rfl
def a6r:gV P .sub t x y (.int k a) (.int k b)=some (.int k (k.wrap (a-b))):=by cases k<;>rfl
def a6y:gV P .mul t x y (.int k a) (.int k b)=some (.int k (k.wrap (a*b))):=by cases k<;>rfl
def a6v(h:b≠0):gV P .quo t x y (.int k a) (.int k b)=some (.int k (k.wrap (a.tdiv b))):=by
 cases k<;>simp[gV,cK,bN,cQ,bL,eqGuard,binOp,Op.intDiv,h,bQ]
def a6u(h:b≠0):gV P .rem t x y (.int k a) (.int k b)=some (.int k (a.tmod b)):=by
 cases k<;>simp[gV,cK,bN,cQ,bL,eqGuard,binOp,Op.intDiv,h,bQ]
def a6t{k':IntKind}(h:0<=b):gV P .shl t x y (.int k a) (.int k' b)=some (.int k (k.wrap (a*2^(min b.toNat k.bits)))):=by
 have: ¬b<0:=by omega
 cases k<;>simp[gV,cK,bN,cQ,bL,eqGuard,binOp,Op.shift,this,bQ]
def a6s{k':IntKind}(h:0<=b):gV P .shr t x y (.int k a) (.int k' b)=some (.int k (a.fdiv (2^(min b.toNat k.bits)))):=by
 have: ¬b<0:=by omega
 cases k<;>simp[gV,cK,bN,cQ,bL,eqGuard,binOp,Op.shift,this,bQ]
def a6F:gV P .and t x y (.int k a) (.int k b)=some (.int k (k.wrap ((BitVec.ofInt k.bits a&&&BitVec.ofInt k.bits b).toNat:Int))):=by cases k<;>rfl
def bDG:gV P .or t x y (.int k a) (.int k b)=some (.int k (k.wrap ((BitVec.ofInt k.bits a|||BitVec.ofInt k.bits b).toNat:Int))):=by cases k<;>rfl
def a6q:gV P .xor t x y (.int k a) (.int k b)=some (.int k (k.wrap ((BitVec.ofInt k.bits a^^^BitVec.ofInt k.bits b).toNat:Int))):=by cases k<;>rfl
def aDU:gV P .andNot t x y (.int k a) (.int k b)=some (.int k (k.wrap ((BitVec.ofInt k.bits a&&& ~~~ BitVec.ofInt k.bits b).toNat:Int))):=by cases k<;>rfl
def XG{c e:Bool}(ht:P.underlying t=some .bool):cI P (Op.equal t (.bool c) (.bool e))=some (c==e):=by
 unfold Op.equal;rw[show Op.maxDepth=Nat.succ 9999 from rfl,Op.equalIn.eq_2,bL,bT,ht];rfl
def a6E{c e:Bool}(ht:P.underlying t=some .bool):gV P .eql t x y (.bool c) (.bool e)=some (.bool (c==e)):=by
 simp only[gV,cK,bN,Bool.and_self,aI,cQ,bL,eqGuard,bD,Bool.false_eq_true,if_false,bQ,aL,binOp,XG ht]
def a6x{c e:Bool}(ht:P.underlying t=some .bool):gV P .neq t x y (.bool c) (.bool e)=some (.bool (!(c==e))):=by
 simp only[gV,cK,bN,Bool.and_self,aI,cQ,bL,eqGuard,bD,Bool.false_eq_true,if_false,bQ,aL,binOp,XG ht]
def aXn{s:TypeId}{d:TypeDesc}{k':IntKind}(hs:P.underlying s=some d)(ht:P.underlying t=some (.int k')):aFU P s t (.int k a)=some (.int k' (k'.wrap a)):=by
 unfold aFU;simp only[bN,aI,cQ,convert,bL,bT,hs,ht,aL,Conv.intToInt,bQ,cK]
end
def ia{t e:TypeId}{z id off len c:Nat}{k:IntKind}{n:Int}(ht:P.underlying t=some (.slice e))(hz:gU P e=some z)(h0:0<=n)(h1:n<(len:Int)):
    jM P t (.slice (some ⟨id,off,none⟩) len c) (.int k n)=some (.pointer (some ⟨id,off+n.toNat*z,none⟩)):=by
 simp[jM,ht,hz,cV,h0,h1]
def Fr(H:St):Prop:= ∀g,H.next<=g->H.ver g=0
structure EXn(n:Nat)(H H':St):Prop where
 next:H.next<=H'.next
 get: ∀id,id<n->H'.get id=H.get id
 row: ∀id,id<n->H'.row id=H.row id
 fr:Fr H->Fr H'
 ver: ∀g,g<n->H'.ver g=H.ver g
def EXn.refl(n:Nat)(H:St):EXn n H H:=⟨aS _,λ_ _=>rfl,λ_ _=>rfl,id,λ_ _=>rfl⟩
def EXn.trans{n:Nat}{a b c:St}(h:EXn n a b)(k:EXn n b c):EXn n a c:=⟨Nat.le_trans h.next k.next,λid hi=>(k.get id hi).trans (h.get id hi),λid hi=>(k.row id hi).trans (h.row id hi),λhf=>k.fr (h.fr hf),λg hg=>(k.ver g hg).trans (h.ver g hg)⟩
def EXn.weak{n m:Nat}{a b:St}(h:EXn n a b)(hm:m<=n):EXn m a b:=⟨h.next,λid hi=>h.get id (by omega),λid hi=>h.row id (by omega),h.fr,λg hg=>h.ver g (by omega)⟩
def EXn.more{n:Nat}{a H:St}(h:EXn n a H)(k:Nat):EXn n a (H.more k):=⟨by have:=h.next;rw[GH];omega,h.get,h.row,λhf g hg=>by rw[aBx];exact h.fr hf g (by rw[GH]at hg;omega),h.ver⟩
def EXn.put{n:Nat}{a H:St}(h:EXn n a H){id:Nat}(hid:n<=id)(ob:AObj):EXn n a (H.put id ob):=by
 refine⟨h.next,λk hk=>?_,λk hk=>?_,h.fr,h.ver⟩
 .rw[St.get_put,bH (by omega)];exact h.get k hk
 .have e:(H.put id ob).row k=H.row k:=by
   unfold St.row;rw[St.get_put,bH (by omega)];rfl
  rw[e];exact h.row k hk
abbrev EX(H H':St):Prop:=EXn H.next H H'
def EX.refl(H:St):EX H H:=EXn.refl _ H
def EX.trans{a b c:St}(h:EX a b)(k:EX b c):EX a c:=EXn.trans h (k.weak h.next)
end
end Go.AI
namespace Go.AI
mutual
def mF: ∀(a:Value),fP a a=true
 | .bool a| .int j a| .float j a| .complex j a c| .pointer a| .slice a l c| .map a| .chan a| .nilFunc| .nilIface=>by simp[fP]
 | .string a=>by simp[fP]
 | .func f ⟨xs⟩ ⟨ys⟩=>by simp[fP,mG xs,mG ys]
 | .iface t v=>by simp[fP,mF v]
 | .agg ⟨xs⟩=>by simp[fP,mG xs]
 | .tuple ⟨xs⟩=>by simp[fP,mG xs]
def mG: ∀(a:List Value),qW a a=true
 |[]=>by simp[qW]
 |x::xs=>by simp[qW,mF x,mG xs]
end
def DK: ∀(a:List (Value×Value)),Aq a a=true
 |[]=>by simp[Aq]
 |x::xs=>by simp[Aq,mF,DK xs]
def FP(m:pM):uG m m=true:=by simp[uG,cR]
def Ap(a:AObj):pR a a=true:=by
 cases a with
 |cells cs m=>simp[pR,mG,FP]
 |map es=>simp[pR,DK]
end Go.AI
namespace Go.PI
open Go.AI
def Rz(H H':St):Prop:= ∀a cs m,H.get a=some (.cells cs m)->∃de b,H'.get a=some (.cells de {m with tip:=b})
def aLv:Ga:=λ_=>none
section
variable{P:Program}{J J':Nu}{I I1 I':Ga}{H H':St}{S:PS}{A:Slots}{base:Nat}
def Qt.put{id:Nat}{o:AObj}(hf:H.get id=none):Qt H (H.put id o):=
 ⟨rfl,λa ob h=> .inl (by rw[bZ,bH (λe=>by rw[e,hf]at h;cases h)];exact h)⟩
def Qt.row(q:Qt H H'){id:Nat}{cs:List Value}{m:pM}(h:H.row id=some (cs,m)): ∃b,H'.row id=some (cs,{m with tip:=b}):=by
 obtain⟨h1,h2⟩:=eO h;rcases q.get id _ h1 with e|⟨de,m',b,e1,_,e2⟩
 .exact⟨m.tip,row_of_get e (by rw[oN q.vers];exact h2)⟩
 .simp only[AObj.cells.injEq]at e1;obtain⟨rfl,rfl⟩:=e1;exact⟨b,row_of_get e2 (by rw[oN q.vers];exact h2)⟩
def aAW{t:TypeId}{w u:Value}(bh: ∀id cs m,H.row id=some (cs,m)->∃m',H'.row id=some (cs,m'))(h:nE P H t w=some u):nE P H' t w=some u:=by
 unfold nE at h⊢;split at h
 .split at h
  .rename_i cs m hr;obtain⟨m',ca⟩:=bh _ _ _ hr;simp only[ca];exact h
  .cases h
 .cases h
def SS{t:TypeId}{w u:Value}{lo hi mx:Option Value}(bh: ∀id cs m,H.row id=some (cs,m)->∃de m',H'.row id=some (de,m')/\m'.z=m.z)
    (hex: ∀id off n c,w= .slice (some ⟨id,off,none⟩) n c->∃cs m,H.row id=some (cs,m)) (h:vP P H t w lo hi mx=some u):vP P H' t w lo hi mx=some u:=by
 unfold vP at h⊢;split at h
 .exact h
 .rename_i e he;split at h
  .rename_i a len c;split at h
   .rename_i z l hh m e1 e2 e3 e4;cases hc:decide (0<=l.getD 0)&&decide (l.getD 0<=hh.getD (len:Int))&&decide (hh.getD (len:Int)<=(len:Int))with
    |false=>simp only[hc,aJ]at h;cases h
    |true=>
     simp only[hc,aI]at h⊢;split at h
     .exact h
     .rename_i id off;obtain⟨cs,mm,hr⟩:=hex id off len c rfl;obtain⟨de,m',ca,kg⟩:=bh _ _ _ hr;have:qD H' id z=qD H id z:=by simp only[qD,hr,ca,kg]
      rw[this];exact h
     .exact h
   .cases h
  .cases h
 .split at h
  .rename_i id off _ _;cases hz:qD H id 0 with
   |false=>rw[hz]at h;cases h
   |true=>
    have:qD H' id 0=true:=by
     unfold qD at hz⊢;split at hz
     .rename_i cs m hr;obtain⟨de,m',ca,kg⟩:=bh _ _ _ hr;simp only[ca,kg];exact hz
     .cases hz
    rw[hz]at h;rw[this];exact h
  .cases h
 .cases h
def aFR(q:Qt H H'){Z:Operand->Value}{o:Oper}{t:TypeId}{a:Operand}(ho:o.op= .load t a){v:Value}(h:kQ P H Z o=some v):kQ P H' Z o=some v:=by
 simp only[kQ,ho]at h⊢;refine aAW (λid cs m hr=>?_) h
 obtain⟨b,hb⟩:=q.row hr;exact⟨_,hb⟩
def E2(q:Qt H H'){r:iC}(hl:r.ob=none->∃t a,r.o.op= .load t a)(hb: ∀ob,r.ob=some ob->(∀a,H.get a=some ob->H'.get a=some ob))(h:check P base H r=true):check P base H' r=true:=by
 unfold check at h⊢;split at h
 .rename_i e;split at h
  .rename_i v hv;obtain⟨t,a,ho⟩:=hl e;simp only[aFR q ho hv];exact h
  .cases h
 .rename_i ob e;split at h
  .rename_i ob' hg;have:=DJ h;subst this;simp only[hb ob' e _ hg];exact h
  .cases h
def Stab(P:Program)(base:Nat)(J:Nu)(H:St)(r:iC):Prop:= ∀J' H',Keep J aLv H H'->Mon H J J'->Rz H H'->check P base H' r=true
def Stab.adv{p p':PSt}{r:iC}(h:Stab P base J H r)(a:Adv J I p H J' I' p' H'):Stab P base J' H' r:=by
 intro J'' H'' k m z;refine h J'' H'' (Keep.trans (I:=aLv) (I':=aLv) (a.keep.weak λ_ h=>by cases h) a.mon k (.refl H _)) (a.mon.trans m a.keep.dom) λx cs mm hx=>?_
 obtain⟨de,b,h1⟩:=a.rz x cs mm hx;obtain⟨xw,b',h2⟩:=z x de _ h1;exact⟨xw,b',h2⟩
def YF(base:Nat)(r:iC)(a:Nat):Prop:=(r.ob=none/\∃t x off,r.o.op= .load t x/\ev r.S x= .pointer (some ⟨a,off,none⟩))∨(r.ob≠none/\base+r.i=a)
def SK{r:iC}{a:Nat}(hl:YF base r a)(hg:H'.get a=H.get a)(hv:H'.vers=H.vers)(h:check P base H r=true):check P base H' r=true:=by
 unfold check at h⊢;rcases hl with⟨h1,t,x,off,h2,h3⟩|⟨h1,h2⟩
 .rw[h1]at h⊢;have bh:H'.row a=H.row a:=by
   simp only[St.row,hg];cases H.get a with
   |none=>rfl
   |some o=>cases o with
    |cells cs m=>simp only[oN hv]
    |map es=>rfl
  simp only[kQ,h2,nE,h3,bh]at h⊢;exact h
 .cases fi:r.ob with
  |none=>exact absurd fi h1
  |some ob=>rw[fi]at h;simp only[h2,hg]at h⊢;exact h
structure Trk(P:Program)(base:Nat)(J:Nu)(p:PSt)(H:St)(q:jT)(r:iC):Prop where
 cl: ∀id,aJD q.o q.a q.v=some id->id∉p.wr->∃a,J id=some (some a)/\YF base r a/\check P base H r=true
 i:q.i=r.i
 ok:q.stale=false->check P base H r=true
 box:lD q.o=false->∀ob,r.ob=some ob->∃cs,ob= .cells cs boxMeta
 rd:r.ob=none->∃t a,r.o.op= .load t a
 ld: ∀t a,q.o.op= .load t a->r.ob=none/\r.o=q.o/\R J H q.a (ev r.S a)/\R J H q.v r.v
def Inv(P:Program)(base:Nat)(J:Nu)(p:PSt)(H:St)(Pl:List jT)(Rl:List iC):Prop:= ∀r∈Rl,Stab P base J H r∨∃q∈Pl,Trk P base J p H q r
def Trk.adv_cl{p p':PSt}{q:jT}{r:iC}(T:Trk P base J p H q r)(a:Adv J I p H J' I' p' H'): ∀id,aJD q.o q.a q.v=some id->id∉p'.wr->∃a,J' id=some (some a)/\YF base r a/\check P base H' r=true:=by
 intro id hid hd;obtain⟨b,h1,h2,h3⟩:=T.cl id hid λhh=>hd (a.dp.wr id hh)
 obtain⟨e1,e2⟩:=a.bx id b h1 hd;exact⟨b,e2,h2,SK h2 e1 a.keep.vers h3⟩
mutual
def OL: ∀{x y:PV},Ck x y=true->x=y
 | .v a,.v b,h=>by rw[qU a b h]
 | .str a,.str b,h=>by simp only[Ck,beq_iff_eq]at h;rw[h]
 | .agg xs,.agg ys,h=>by rw[Gu h]
 | .v _,.str _,h| .v _,.agg _,h| .v _,.tup _,h| .v _,.nil,h| .v _,.emp,h| .v _,.sl _ _,h| .v _,.pin _ _ _,h| .v _,.ptr _ _,h| .v _,.rs _ _ _,h| .v _,.mp _,h| .v _,.fn _ _ _,h| .v _,.und,h=>by simp[Ck]at h
 | .str _,.v _,h| .str _,.agg _,h| .str _,.tup _,h| .str _,.nil,h| .str _,.emp,h| .str _,.sl _ _,h| .str _,.pin _ _ _,h| .str _,.ptr _ _,h| .str _,.rs _ _ _,h| .str _,.mp _,h| .str _,.fn _ _ _,h| .str _,.und,h=>by simp[Ck]at h
 | .agg _,.v _,h| .agg _,.str _,h| .agg _,.tup _,h| .agg _,.nil,h| .agg _,.emp,h| .agg _,.sl _ _,h| .agg _,.pin _ _ _,h| .agg _,.ptr _ _,h| .agg _,.rs _ _ _,h| .agg _,.mp _,h| .agg _,.fn _ _ _,h| .agg _,.und,h=>by simp[Ck]at h
 | .tup _,_,h| .nil,_,h| .emp,_,h| .sl _ _,_,h| .pin _ _ _,_,h| .ptr _ _,_,h| .rs _ _ _,_,h| .mp _,_,h| .fn _ _ _,_,h| .und,_,h=>by simp[Ck]at h
def Gu: ∀{xs ys:List PV},DI xs ys=true->xs=ys
 |[],[],_=>rfl
 |x::xs,y::ys,h=>by
  simp only[DI,aC]at h;rw[OL h.1,Gu h.2]
 |[],_::_,h|_::_,[],h=>by simp[DI]at h
end
def Inv.check{p:PSt}{Pl:List jT}{Rl:List iC}(γ:Inv P base J p H Pl Rl)(M:Mem J I p H)(h:Pl.all (qE P p)=true):Rl.all (AI.check P base H)=true:=by
 rw[bJ]at h⊢;intro r hr;rcases γ r hr with hs|⟨q,hq,T⟩
 .exact hs J H (.refl J aLv H) (.refl H J) λa cs m h=>⟨cs,m.tip,h⟩
 .have hc:=h q hq;unfold qE at hc;cases cf:q.stale with
  |false=>exact T.ok cf
  |true=>
   rw[cf]at hc;simp only[bD,Bool.false_or,Bool.or_eq_true]at hc;rcases hc with hc|hc
   .cases xq:aJD q.o q.a q.v with
    |none=>rw[xq]at hc;cases hc
    |some id=>
     rw[xq]at hc;simp only[XO,Bool.not_eq_true',List.contains_eq_mem,bC]at hc;obtain⟨_,_,_,h3⟩:=T.cl id xq hc;exact h3
   split at hc
   .rename_i t a ho;simp only[aC]at hc;obtain⟨h1,h2,h3,h4⟩:=T.ld t a ho;cases hv:aBc q.v with
    |none=>rw[hv]at hc;simp at hc
    |some w=>
     split at hc
     .rename_i v' hl;have:=OL hc.2;subst this;obtain⟨u,hu,ca⟩:=D3 M h3 hl;obtain⟨rfl,_⟩:=HO hv ca;obtain⟨e,_⟩:=HO hv h4;unfold AI.check;rw[h1];simp only[kQ,h2,ho,hu];rw[e];exact mF _
     .simp at hc
   .cases hc
def S5{id:Nat}{c:Call}{s x u:Value}(hf:H.get id=none)(h1:mQ P H id c s x=some (u,H')):Qt H H':=by
 unfold mQ at h1;split at h1
 .split at h1
  .rename_i e d _ _;cases hc:Gd d x with
   |false=>rw[hc,aJ]at h1;cases h1
   |true=>
    rw[hc,aI]at h1;split at h1
    .rename_i info _;split at h1
     .rename_i n xs z _ _;cases hc2:xs.all one&&Nat.ble 1 info.size&&Nat.ble 1 info.bytes&&Nat.beq z.cells.size info.size&&gO s with
      |false=>rw[hc2,aJ]at h1;cases h1
      |true=>
       rw[hc2,aI]at h1;cases hc3:Nat.beq n 0 with
       |true=>rw[hc3,aI]at h1;simp only[aA,aB]at h1;obtain⟨_,rfl⟩:=h1;exact .refl H
       |false=>
        rw[hc3,aJ]at h1;unfold mC at h1;split at h1
        .cases hc4:Nat.ble (n*info.bytes) 1073741824 with
         |false=>rw[hc4,aJ]at h1;cases h1
         |true=>rw[hc4,aI]at h1;simp only[aA,aB]at h1;obtain⟨_,rfl⟩:=h1;exact .put hf
        .rename_i id0 off len k;cases hc4:Nat.ble ((len+n)*info.bytes) 1073741824 with
         |false=>rw[hc4,aJ]at h1;cases h1
         |true=>
          rw[hc4,aI]at h1;split at h1
          .rename_i cs m bh;split at h1
           .rename_i old _;cases hc5:Nat.beq k len with
            |true=>rw[hc5,aI]at h1;simp only[aA,aB]at h1;obtain⟨_,rfl⟩:=h1;exact .put hf
            |false=>
             rw[hc5,aJ]at h1;cases hc6:m.tip&&m.wr&&Nat.beq m.z info.size&&Nat.beq (off+len*info.size) cs.length&&m.grp.isSome with
             |false=>rw[hc6,aJ]at h1;cases h1
             |true=>
              rw[hc6,aI]at h1;simp only[aA,aB]at h1;obtain⟨_,rfl⟩:=h1;simp only[aC]at hc6;refine⟨rfl,λa ob hg=>?_⟩
              rw[bZ,bH (λe=>by rw[e,hf]at hg;cases hg),bZ]
              by_cases e2:a=id0
              .subst e2;rw[(eO bh).1]at hg;simp only[aA]at hg;subst hg;rw[bI rfl];exact .inr ⟨cs,m,false,rfl,hc6.1.1.1.1,rfl⟩
              .rw[bH e2];exact .inl hg
           .cases h1
          .cases h1
        .rename_i b0 o0 s0 l0 k0;cases hc4:Nat.beq s0 1&&Nat.ble (n*info.bytes) 1073741824 with
         |false=>rw[hc4,aJ]at h1;cases h1
         |true=>rw[hc4,aI]at h1;simp only[aA,aB]at h1;obtain⟨_,rfl⟩:=h1;exact .put hf
        .cases h1
     .cases h1
    .cases h1
  .cases h1
 .cases h1
def Inv.qt{p p':PSt}{Pl:List jT}{Rl:List iC}(γ:Inv P base J p H Pl Rl)(a:Adv J I p H J' I' p' H')(q:Qt H H')(hx: ∀q∈Pl,lD q.o=true->q.stale=false->∀a ob,H.get a=some ob->H'.get a=some ob):Inv P base J' p' H' Pl Rl:=by
 intro r hr;rcases γ r hr with hs|⟨k,hk,T⟩
 .exact .inl (hs.adv a)
 .refine .inr ⟨k,hk,T.adv_cl a,T.i,λcf=>E2 q T.rd (λob fi b hb=>?_) (T.ok cf),T.box,T.rd,λt x ho=>?_⟩
  .cases hm:lD k.o with
   |true=>exact hx k hk hm cf b ob hb
   |false=>
    obtain⟨cs,rfl⟩:=T.box hm ob fi;rcases q.get b _ hb with e|⟨de,m',b',e1,e2,_⟩
    .exact e
    .simp only[AObj.cells.injEq]at e1;obtain⟨rfl,rfl⟩:=e1;cases e2
  .obtain⟨h1,h2,h3,h4⟩:=T.ld t x ho;exact⟨h1,h2,h3.keep a.keep a.mon,h4.keep a.keep a.mon⟩
def Inv.filter{p:PSt}{Pl:List jT}{Rl:List iC}(γ:Inv P base J p H Pl Rl)(f:Nat->Bool):Inv P base J p H (Pl.filter λq=>f q.i) (Rl.filter λr=>f r.i):=by
 intro r hr;rw[List.mem_filter]at hr;rcases γ r hr.1 with hs|⟨k,hk,T⟩
 .exact .inl hs
 .exact .inr ⟨k,List.mem_filter.2 ⟨hk,by rw[T.i];exact hr.2⟩,T⟩
def Inv.stale{p p':PSt}{Pl:List jT}{Rl:List iC}(γ:Inv P base J p H Pl Rl)(a:Adv J I p H J' I' p' H'):Inv P base J' p' H' (Pl.map λq=>{q with stale:=true}) Rl:=by
 intro r hr;rcases γ r hr with hs|⟨k,hk,T⟩
 .exact .inl (hs.adv a)
 .refine .inr ⟨_,List.mem_map.2 ⟨k,hk,rfl⟩,T.adv_cl a,T.i,λh=>(by cases h),T.box,T.rd,λt x ho=>?_⟩
  obtain⟨h1,h2,h3,h4⟩:=T.ld t x ho;exact⟨h1,h2,h3.keep a.keep a.mon,h4.keep a.keep a.mon⟩
def Inv.some{p p':PSt}{Pl:List jT}{Rl:List iC}(γ:Inv P base J p H Pl Rl)(a:Adv J I p H J' I' p' H')(q:Qt H H'):Inv P base J' p' H' (Pl.map λq=>bif !lD q.o then q else{q with stale:=true}) Rl:=by
 intro r hr;rcases γ r hr with hs|⟨k,hk,T⟩
 .exact .inl (hs.adv a)
 .cases hm:lD k.o with
  |true=>
   refine .inr ⟨{k with stale:=true},List.mem_map.2 ⟨k,hk,by simp[hm]⟩,T.adv_cl a,T.i,λh=>(by cases h),T.box,T.rd,λt x ho=>?_⟩
   obtain⟨h1,h2,h3,h4⟩:=T.ld t x ho;exact⟨h1,h2,h3.keep a.keep a.mon,h4.keep a.keep a.mon⟩
  |false=>
   refine .inr ⟨k,List.mem_map.2 ⟨k,hk,by simp[hm]⟩,T.adv_cl a,T.i,λcf=>E2 q T.rd (λob fi b hb=>?_) (T.ok cf),T.box,T.rd,λt x ho=>?_⟩
   .obtain⟨cs,rfl⟩:=T.box hm ob fi;rcases q.get b _ hb with e|⟨de,m',b',e1,e2,_⟩
    .exact e
    .simp only[AObj.cells.injEq]at e1;obtain⟨rfl,rfl⟩:=e1;cases e2
   .obtain⟨h1,h2,h3,h4⟩:=T.ld t x ho;exact⟨h1,h2,h3.keep a.keep a.mon,h4.keep a.keep a.mon⟩
def R.vid{p:PSt}(M:Mem J I p H){v:PV}{u:Value}{id:Nat}(r:R J H v u)(hv:PI.vid v=Option.some id)(hg: ∃o,p.get id=Option.some o/\o≠ .gone):
    ∃a,J id=Option.some (Option.some a)/\((∃off,u= .pointer (Option.some ⟨a,off,none⟩))∨∃off n c,u= .slice (Option.some ⟨a,off,none⟩) n c):=by
 obtain⟨o,ho,bm⟩:=hg;have hν: ∃a,J id=Option.some (Option.some a):=by
  have:=M.get id o ho;cases o with
  |box cs=>obtain⟨a,us,h1,_⟩:=this;exact⟨a,h1⟩
  |row z ag cs=>obtain⟨a,us,h1,_⟩:=this;exact⟨a,h1⟩
  |map es=>exact this.elim
  |gone=>exact absurd rfl bm
 obtain⟨a,ha⟩:=hν;refine⟨a,ha,?_⟩;cases v<;>simp only[PI.vid,aA]at hv<;>try cases hv
 .cases r with
  |ptr _ fq a' h=>rw[ha]at h;simp only[aA]at h;subst h;exact .inl ⟨_,rfl⟩
  |ptr0 _ off a' h=>rw[ha]at h;cases h
 .cases r with
  |rs _ fq wi c a' h=>rw[ha]at h;simp only[aA]at h;subst h;exact .inr ⟨_,_,_,rfl⟩
  |rs0 _ off len c a' h=>rw[ha]at h;cases h
def nD{N:Type}{c:Bool}{A:Option N}{x:N}(h:(bif c then A else none)=Option.some x):A=Option.some x:=by cases c with
 |false=>cases h
 |true=>exact h
def aFI{N:Type}{c:Bool}{A B x:N}(h:(bif c then A else B)=x):A=x∨B=x:=by cases c with
 |false=>exact .inr h
 |true=>exact .inl h
def LN{Z:Operand->Value}{o:Oper}{id a:Nat}{u:Value}{ob:AObj}(h:gZ P Z o id=Option.some (u,ob))(hu:(∃off,u= .pointer (Option.some ⟨a,off,none⟩))∨∃off n c,u= .slice (Option.some ⟨a,off,none⟩) n c):id=a:=by
 have fin: ∀{off n k:Nat},u= .pointer (Option.some ⟨id,off,none⟩)∨u= .slice (Option.some ⟨id,off,none⟩) n k∨u= .map (Option.some id)->id=a:=by
  rintro off n k (rfl|rfl|rfl)<;>rcases hu with⟨o2,e⟩|⟨o2,n2,c2,e⟩<;>first|(cases e;rfl)|cases e
 obtain⟨dst,op,ty,pos,af,g⟩:=o;cases op<;>simp only[gZ]at h<;>try cases h
 .split at h<;>try cases h
  have h:=nD h;simp only[aA,aB]at h;exact fin (n:=0) (k:=0) (.inl h.1.symm)
 .have h:=nD h;simp only[aA,aB]at h;exact fin (n:=0) (k:=0) (.inl h.1.symm)
 .split at h<;>try cases h
  split at h<;>try cases h
  split at h<;>try cases h
  have h:=nD h;simp only[aF,aB]at h;obtain⟨cs,_,h2,_⟩:=h;exact fin (.inr (.inl h2.symm))
 .split at h<;>try cases h
  split at h<;>try cases h
  split at h<;>try cases h
  have h:=nD h;rcases aFI h with h|h
  .simp only[aA,aB]at h;exact fin (.inr (.inl h.1.symm))
  .simp only[aA,aB]at h;exact fin (.inr (.inl h.1.symm))
def Inv.cons{p:PSt}{Pl:List jT}{Rl:List iC}(γ:Inv P base J p H Pl Rl){r:iC}(h:Stab P base J H r):Inv P base J p H Pl (r::Rl):=by
 intro x hx;rcases List.mem_cons.1 hx with rfl|hx
 .exact .inl h
 .exact γ x hx
def Inv.cons2{p:PSt}{Pl:List jT}{Rl:List iC}(γ:Inv P base J p H Pl Rl){r:iC}{q:jT}(h:Trk P base J p H q r):Inv P base J p H (q::Pl) (r::Rl):=by
 intro x hx;rcases List.mem_cons.1 hx with rfl|hx
 .exact .inr ⟨q,aH ..,h⟩
 .rcases γ x hx with h|⟨k,hk,T⟩
  .exact .inl h
  .exact .inr ⟨k,aG _ hk,T⟩
end
end Go.PI
namespace Go.PI
open Go.AI
section
variable{P:Program}{J J':Nu}{I I1 I':Ga}{H H':St}{S:PS}{A:Slots}{base:Nat}
def PN{o:Oper}(h:cO o= .pure)(S:PS):kG o S=false:=by
 obtain⟨dst,op,ty,pos,af,g⟩:=o;cases op<;>first|rfl|(simp[cO]at h)
def ZJ{p p1:PSt}{o:Oper}{take own:Bool}{v:PV}{u:Value}{i:Nat}(M:Mem J I p H)(F:FR J I H S A)(ho:o.op.operands.all (cG P)=true)(hp:mW P p S o take=some (v,own,p1))(hn:kG o S=false)
    (hu:kQ P H (ev A) o=some u):Stab P base J H ⟨i,o,A,u,none⟩:=by
 intro J' H' k m z;have cm:kQ P H' (ev A) o=some u->check P base H' ⟨i,o,A,u,none⟩=true:=by
  intro h;simp only[check,h];exact mF u
 apply cm
 replace ho:=uR ho
 obtain⟨dst,op,ty,pos,af,g⟩:=o;cases op with
 |load t a=>
  simp only[Op.operands,aP,List.all_nil,bE]at ho;have ra:=cX F ho;simp only[kQ]at hu⊢;simp only[mW]at hp;split at hp
  .rename_i v' hl;simp only[kG]at hn;cases wz:cP S a<;>rw[wz]at hl hn ra<;>simp only[jW]at hl<;>(try cases hl)<;>(try cases hn)
   generalize ev A a=w at ra hu⊢;cases ra with
   |pin zz _ _ _ id b rcs mm hs hr hb hh=>
    obtain⟨bb,hf⟩:=hr.keep k m;simp only[nE,hr.1]at hu;simp only[nE,hf.1];exact hu
  .cases hp
 |slice t x lo hi mx=>
  simp only[kQ]at hu⊢;simp only[Op.operands,Array.toList_append,List.all_append,aC]at ho;have rx:=cX F (P:=P) (x:=x) (by simpa using ho.1.1.1)
  simp only[mW,aF,aB]at hp;obtain⟨⟨w,fp⟩,hw,_⟩:=hp;refine SS (λid cs mm hr=>?_) (λid off n c hxx=>?_) hu
  .obtain⟨h1,h2⟩:=eO hr;obtain⟨de,b,h3⟩:=z id cs mm h1;exact⟨de,_,row_of_get h3 (by rw[oN k.vers];exact h2),rfl⟩
  .rw[hxx]at rx;generalize cP S x=xv at rx hw;cases rx with
   |emp1 _ _ _ rcs m hr=>exact⟨_,_,hr.1⟩
   |sl _ _ _ _ _ rcs m hz hs hr hm hb hh=>exact⟨_,_,hr.1⟩
   |rs bv _ _ _ a hν=>
    obtain⟨o',gb⟩:=M.live _ _ hν;have:=M.get _ _ gb;cases o' with
    |box cs=>obtain⟨a',us,h1,h2,_⟩:=this;rw[hν]at h1;simp only[aA]at h1;subst h1;exact⟨_,_,row_of_get h2 rfl⟩
    |row z ag cs=>obtain⟨a',us,h1,h2,_⟩:=this;rw[hν]at h1;simp only[aA]at h1;subst h1;exact⟨_,_,row_of_get h2 rfl⟩
    |map es=>exact this.elim
    |gone=>rw[show J bv=some none from this]at hν;cases hν
   |v _ hp=>simp[bN]at hp
   |und _=>
    unfold kZ at hw;split at hw
    .simp at hw
    .split at hw<;>simp at hw
    .cases hw
   |rs0 bv _ _ _ a hν=>
    unfold kZ at hw;split at hw
    .simp at hw
    .split at hw
     .split at hw
      .split at hw
       .rename_i hg;obtain⟨a',us,h1,_⟩:=M.get _ _ hg
        simp_all
       .cases hw
      all_goals simp_all
     .cases hw
    .cases hw
 |_=>simp only[mW]at hp;cases hp
def aBU{v:PV}{id off n c:Nat}(r:R J H v (.slice (some ⟨id,off,none⟩) n c))(hv:v= .emp∨∃z es,v= .sl z es): ∀k,J k≠some (some id):=by
 rcases hv with rfl|⟨z,es,rfl⟩
 .cases r with|emp1 _ _ _ rcs m hr=>exact hr.2
 .cases r with|sl _ _ _ _ _ rcs m hz hs hr hm hb hh=>exact hr.2
def aK8(z:Nat)(es:List PV):eB z es= .emp∨∃z' es',eB z es= .sl z' es':=by
 cases es with
 |nil=>exact .inl rfl
 |cons e es=>exact .inr ⟨z,_,rfl⟩
def aCf{pc:gT}{ac:FuncId->Array Value->St->Option (Value×St)}(bj:lP pc ac){ops:Array Oper}{ms:List Nat}(dq: ∀o∈ops.toList,o.op.operands.all (cG P)=true):
    ∀(sc:List Bl) (Pl:List jT) (Rl:List iC) (J:Nu) (I:Ga) (S:PS) (p:PSt) (A:Slots) (H:St) (S':PS) (p':PSt),(gJ sc).Nodup->(∀j∈gJ sc,j<ops.size/\H.get (base+j)=none)->base+ops.size<=H.next->
      Inv P base J p H Pl Rl->Mem J I p H->FR J I H S A->kL P pc ops ms sc Pl S p=some (S',p')->
      ∃A' H' J' I',dO P ac ops ms base (gJ sc) Rl A H=some (A',H')/\Mem J' I' p' H'/\FR J' I' H' S' A'/\Adv J I p H J' I' p' H'/\(∀j,j<base->H.get j=none->H'.get j=none):=by
 intro sc;induction sc with
 |nil=>
  intro Pl Rl J I S p A H S' p' _ _ hb γ M F h;simp only[kL]at h;cases hc:Pl.all (qE P p)with
  |false=>rw[hc,aJ]at h;cases h
  |true=>
   rw[hc,aI]at h;simp only[aA,aB]at h;obtain⟨rfl,rfl⟩:=h;refine⟨A,H,J,I,?_,M,F,.refl J I p H,λj _ hj=>hj⟩
   simp only[gJ,dO,γ.check M hc,aI]
 |cons s sc ih=>
  intro Pl Rl J I S p A H S' p' gl co hb γ M F h;cases s with
  |freeze t=>
   simp only[kL]at h;split at h
   .rename_i S1 p1 h1;obtain⟨J1,M1,F1,A1⟩:=zK M F h1;obtain⟨A',H',J',I',k1,k2,k3,k4,k5⟩:=ih Pl Rl J1 I S1 p1 A H S' p' gl co hb (γ.qt A1 (.refl H) λ_ _ _ _ _ _ h=>h) M1 F1 h
    exact⟨A',H',J',I',k1,k2,k3,A1.trans k4,k5⟩
   .cases h
  |app a i s=>
   simp only[gJ]at gl co⊢;obtain⟨ha,hfa⟩:=co a (by simp)
   obtain⟨hi,hfi⟩:=co i (by simp)
   obtain⟨hs,hfs⟩:=co s (by simp)
   simp only[List.nodup_cons,List.mem_cons,not_or]at gl;simp only[kL]at h;have hopA:ops[a]?=some ops[a]:=Array.getElem?_eq_getElem ha;have hopI:ops[i]?=some ops[i]:=Array.getElem?_eq_getElem hi;have hopS:ops[s]?=some ops[s]:=Array.getElem?_eq_getElem hs;rw[hopA,hopI,hopS]at h;simp only at h;split at h
   .rename_i S1 h1;cases hc0:Pl.all (qE P p)&&(Pl.filter λr=> !jC (ms.getD a 0) r.i).all (λr=> !lD r.o)with
    |false=>rw[hc0,aJ]at h;cases h
    |true=>
     rw[hc0,aI]at h;simp only[aC]at hc0;obtain⟨hc,mn⟩:=hc0;rw[bJ]at mn;obtain⟨u1,u2,H1,H2,I2,q1,q2,q3,q4,q5,q6,q7,q8,q9,q10,q11,M2,F2,A2,qt1,qt2,q12,q13⟩:=Pn (ac:=ac) (base:=base) (iA:=a) (iI:=i) (iS:=s) M F hfa (by omega) (dq _ (by simp)) (dq _ (by simp)) (dq _ (by simp)) h1
     have hw: ∀{o:Oper} {A0:Slots},o.guard=none->wanted ops A0 o=true:=λhg=>by simp only[wanted,hg]
     have kz: ∀j∈gJ sc,j<ops.size/\H2.get (base+j)=none:=λj hj=>by
      obtain⟨h2,h3⟩:=co j (by simp[hj])
      exact⟨h2,(q13 _ (λe=>gl.1.2.2 (by rw[show a=j by omega];exact hj)) h3).2⟩
     have If:=γ.filter λk=> !jC (ms.getD a 0) k
     have ql:(Rl.filter λr=> !jC (ms.getD a 0) r.i).all (check P base H1)=true:=by
      rw[bJ];intro r hr;have hr0:=List.mem_filter.1 hr;have dc:=γ.check M hc;rw[bJ]at dc;have hcr:=dc r hr0.1;rcases If r hr with cf|⟨q,hq,T⟩
      .have hk3:Keep J aLv H H1:=by
        refine⟨qt1.vers,by rw[q12];exact aS _,λx hx=>?_,λx hn cs m hg=>?_⟩
        .cases hxx:H.get x with
         |none=>rfl
         |some ob=>
          rcases qt1.get x ob hxx with e|⟨_,_,_,_,_,e⟩<;>rw[hx]at e<;>cases e
        .rcases qt1.get x _ hg with e|⟨de,m',b',e1,e2,e3⟩
         .exact⟨m.tip,e,λh=>h,λ_=>rfl⟩
         .simp only[AObj.cells.injEq]at e1;obtain⟨rfl,rfl⟩:=e1;exact⟨b',e3,λh=>(by rw[e2]at h;cases h),λh=>(by cases h)⟩
       exact cf J H1 hk3 (.refl H J) λx cs m hx=>by
        rcases qt1.get x _ hx with e|⟨de,m',b',e1,e2,e3⟩
        .exact⟨cs,m.tip,e⟩
        .simp only[AObj.cells.injEq]at e1;obtain⟨rfl,rfl⟩:=e1;exact⟨_,b',e3⟩
      .refine E2 qt1 T.rd (λob fi b hb=>?_) hcr
       have hm:lD q.o=false:=by simpa using mn q hq
       obtain⟨cs,rfl⟩:=T.box hm ob fi;rcases qt1.get b _ hb with e|⟨de,m',b',e1,e2,_⟩
       .exact e
       .simp only[AObj.cells.injEq]at e1;obtain⟨rfl,rfl⟩:=e1;cases e2
     have γ2:=(If.some A2 qt2).filter λk=> !jC (ms.getD s 0) k
     obtain⟨A',H',J',I',j1,j2,j3,j4,j5⟩:=ih _ _ J I2 _ p _ H2 S' p' gl.2.2.2 kz (Nat.le_trans hb A2.keep.next) γ2 M2 F2 h
     refine⟨A',H',J',I',?_,j2,j3,A2.trans j4,λj hj hn=>j5 j hj (q13 j (by omega) hn).2⟩
     simp only[dO,hopA,hopI,hopS,hw q7,hw q8,hw q9,aI,q4,q5,q6,γ.check M hc,q1,q2,ql,q3];rw[q10];exact j1
   .cases h
  |op i take=>
   simp only[gJ]at gl co⊢;rw[List.nodup_cons]at gl;obtain⟨hi,hfi⟩:=co i (aH ..);simp only[kL]at h;have mz:ops[i]?=some ops[i]:=Array.getElem?_eq_getElem hi;rw[mz]at h;simp only at h;simp only[dO,mz];have vn:=dq ops[i] (by simp)
   generalize ops[i]=o at*;split at h
   .rename_i hw;rw[sC F hw,aI];split at h
    .rename_i v own S1 p1 h1;obtain⟨u,H1,J1,I1,k1,k2,k3,k4,k5,k6⟩:=V6 bj M F hfi (by omega) vn h1
     have kz: ∀j∈gJ sc,j<ops.size/\H1.get (base+j)=none:=λj hj=>by
      obtain⟨h2,h3⟩:=co j (aG _ hj);exact⟨h2,k6 _ (by omega) (λe=>gl.1 (by rw[show i=j by omega];exact hj)) h3⟩
     have bu:=Nat.le_trans hb k5.keep.next
     have fin: ∀{Pl' Rl'},Inv P base J1 p1 H1 Pl' Rl'->kL P pc ops ms sc Pl' (S1.put o.dst v own) p1=some (S',p')->
              ∃A' H' J' I',dO P ac ops ms base (gJ sc) Rl' (A.store o.dst u) H1=some (A',H')/\Mem J' I' p' H'/\FR J' I' H' S' A'/\Adv J I p H J' I' p' H'/\(∀j,j<base->H.get j=none->H'.get j=none):=by
      intro Pl' Rl' γ' h';obtain⟨A',H',J',I',j1,j2,j3,j4,j5⟩:=ih Pl' Rl' J1 I1 _ p1 _ H1 S' p' gl.2 kz bu γ' k3 k4 h';exact⟨A',H',J',I',j1,j2,j3,k5.trans j4,λj hj hn=>j5 j hj (k6 j (by omega) (by omega) hn)⟩
     cases hk:cO o with
     |pure=>
      simp only[mP,hk,aF,aB]at k1;obtain⟨u',fy,rfl,rfl⟩:=k1;have hu:lL P (ev A) o=some u':=by
       simp only[Gy,hk,aF,aB]at h1;obtain⟨⟨v',fp,S''⟩,hp,rfl,rfl,rfl,rfl⟩:=h1;unfold DY at hp;split at hp
       .rename_i r hpp;obtain⟨r1,r2,r3⟩:=r;obtain⟨u2,_,h2,_⟩:=Pe F vn hpp;unfold vQ at fy;rw[h2]at fy⊢;exact fy
       .cases hp
      simp only[hu];rw[show kN o=false by simp[kN,hk]]at h
      simp only[aJ,PN hk S]at h;exact fin (γ.qt k5 (.refl H) λ_ _ _ _ _ _ h=>h) h
     |read=>
      simp only[mP,hk,aF,aB]at k1;obtain⟨u',hu,rfl,rfl⟩:=k1;simp only[hu];rw[show kN o=false by simp[kN,hk]]at h
      simp only[aJ]at h;have γ':=γ.qt k5 (.refl H) λ_ _ _ _ _ _ h=>h
      have hpr: ∃fp p'',mW P p S o take=some (v,fp,p''):=by
       simp only[Gy,hk,aF,aB]at h1;obtain⟨⟨v',fp,p''⟩,hp,rfl,rfl,rfl,rfl⟩:=h1;exact⟨_,_,hp⟩
      obtain⟨fp,p'',hpr⟩:=hpr;cases sm:kG o S with
      |false=>
       rw[sm,aJ]at h;exact fin (γ'.cons ((ZJ M F vn hpr sm hu).adv k5)) h
      |true=>
       rw[sm,aI]at h;have ql:check P base H ⟨i,o,A,u',none⟩=true:=by simp only[check,hu];exact mF u'
       refine fin (γ'.cons2 ⟨λid hid hd=>?_,rfl,λ_=>ql,λ_ ob fi=>(by cases fi),λ_=>?_,λt a lp=>?_⟩) h
       .simp only[kG]at sm;split at sm
        .rename_i t a lp;simp only[aJD,pF,lp]at hid;have bw:cG P a=true:=by
          have:=uR vn;rw[lp]at this;simpa [Op.operands]using this
         have dm: ∃v2,jW P p t (cP S a)=some v2:=by
          simp only[mW,lp]at hpr;split at hpr
          .exact⟨_,by assumption⟩
          .cases hpr
         obtain⟨v2,dm⟩:=dm;have hvd:PI.vid (cP S a)=some id:=by
          cases hh:cP S a<;>rw[hh]at hid<;>simp only[a3f]at hid<;>first|exact hid|cases hid
         obtain⟨b,hb1,hb2⟩:=R.vid M (cX F bw) hvd (by
          cases hh:cP S a<;>rw[hh]at hid dm<;>simp only[a3f]at hid<;>try cases hid
          simp only[jW]at dm;split at dm
          .exact⟨_,by assumption,by simp⟩
          .exact⟨_,by assumption,by simp⟩
          .cases dm)
         have hb3:=(k5.bx id b hb1 hd).2;refine⟨b,hb3,.inl ⟨rfl,t,a,?_⟩,ql⟩;rcases hb2 with⟨off,e⟩|⟨off,n,c,e⟩
         .exact⟨off,lp,e⟩
         .exfalso;have hr:=cX F bw;rw[e]at hr;cases hh:cP S a<;>rw[hh]at hid hr<;>simp only[a3f]at hid<;>try cases hid
          cases hr
        .rename_i e;simp[cO,e]at hk
        .rename_i e;simp[cO,e]at hk
        .rename_i e;simp[cO,e]at hk
        .cases sm
       .simp only[kG]at sm;split at sm
        .rename_i t a e;exact⟨t,a,e⟩
        .rename_i e;simp[cO,e]at hk
        .rename_i e;simp[cO,e]at hk
        .rename_i e;simp[cO,e]at hk
        .cases sm
       refine⟨rfl,rfl,?_,k2⟩;simp only at lp;simp only[pF,lp];have:cG P a=true:=by
        have:=uR vn;rw[lp]at this;simpa [Op.operands]using this
       exact(cX F this).keep k5.keep k5.mon
     |alloc=>
      simp only[mP,hk,aF,aB]at k1;obtain⟨⟨u',ob⟩,hu,rfl,rfl⟩:=k1;simp only[hu];rw[show kN o=false by simp[kN,hk]]at h
      simp only[aJ]at h;have γ':=γ.qt k5 (.put hfi) λ_ _ _ _ a ob h=>by rw[bZ,bH (λe=>by rw[e,hfi]at h;cases h)];exact h
      have ql:check P base (H.put (base+i) ob) ⟨i,o,A,u',some ob⟩=true:=by
       simp only[check,bZ,if_true];exact Ap ob
      simp only[Gy,hk,aF,aB]at h1;obtain⟨⟨v',fp,p''⟩,hp,fc,rfl,rfl,rfl⟩:=h1;simp only at fc;subst fc;have fe:(∃o2,p''.get p.next=some o2/\o2≠ .gone)->∀id,PI.vid v'=some id->(PI.vid v'=some id->id=p.next)->∃a,J1 id=some (some a)/\YF base ⟨i,o,A,u',some ob⟩ a/\check P base (H.put (base+i) ob) ⟨i,o,A,u',some ob⟩=true:=by
       intro hg id hid hid2;have:=hid2 hid;subst this;obtain⟨b,hb1,hb2⟩:=R.vid k3 k2 hid hg;exact⟨b,hb1,.inr ⟨by simp,LN hu hb2⟩,ql⟩
      obtain⟨dst,op,ty,pos,af,g⟩:=o;cases op with
      |alloc t=>
       have xo: ∀id,PI.vid v'=some id->id∉p''.wr->_:=λid hid _=>fe (by
        simp only[fB]at hp;split at hp<;>try cases hp
        exact⟨_,by rw[lG,bI rfl],by simp⟩) id hid (λ_=>by
        simp only[fB]at hp;split at hp<;>try cases hp
        simp only[PI.vid,aA]at hid;exact hid.symm)
       refine fin (γ'.cons2 (q:=⟨i,⟨dst,.alloc t,ty,pos,af,g⟩,pF ⟨dst,.alloc t,ty,pos,af,g⟩ S,v',false⟩) ⟨xo,rfl,λ_=>ql,λ_ ob' fi=>?_,λh=>(by cases h),λt a lp=>by cases lp⟩) h
       simp only[aA]at fi;subst fi;simp only[gZ]at hu;split at hu
       .rename_i zz _;cases hc:zz.cells.toList.all bN with
        |false=>rw[hc,aJ]at hu;cases hu
        |true=>rw[hc,aI]at hu;simp only[aA,aB]at hu;exact⟨_,hu.2.symm⟩
       .cases hu
      |box t x=>
       have xo: ∀id,PI.vid v'=some id->id∉p''.wr->_:=λid hid _=>fe (by
        simp only[fB]at hp;have hp:=nD hp;simp only[aA,aB]at hp;obtain⟨_,_,rfl⟩:=hp;exact⟨_,by rw[lG,bI rfl],by simp⟩) id hid (λ_=>by
        simp only[fB]at hp;have hp:=nD hp;simp only[aA,aB]at hp;obtain⟨rfl,_,_⟩:=hp;simp only[PI.vid,aA]at hid;exact hid.symm)
       refine fin (γ'.cons2 (q:=⟨i,⟨dst,.box t x,ty,pos,af,g⟩,pF ⟨dst,.box t x,ty,pos,af,g⟩ S,v',false⟩) ⟨xo,rfl,λ_=>ql,λ_ ob' fi=>?_,λh=>(by cases h),λt a lp=>by cases lp⟩) h
       simp only[aA]at fi;subst fi;simp only[gZ]at hu;cases hc:(ev A x).cells.toList.all one with
       |false=>rw[hc,aJ]at hu;cases hu
       |true=>rw[hc,aI]at hu;simp only[aA,aB]at hu;exact⟨_,hu.2.symm⟩
      |makeSlice t l c=>
       have mn: ∀id,PI.vid v'=some id->id=p.next/\∃o2,p''.get p.next=some o2/\o2≠ .gone:=by
        intro id hid;simp only[fB]at hp;split at hp<;>try cases hp
        split at hp<;>try cases hp
        split at hp<;>try cases hp
        have hp:=nD hp;rcases aFI hp with hp|hp
        .simp only[aA,aB]at hp;obtain⟨rfl,_,_⟩:=hp;simp only[PI.vid]at hid;cases hid
        .have hp:=nD hp;simp only[aA,aB]at hp;obtain⟨rfl,_,rfl⟩:=hp;simp only[PI.vid,aA]at hid;exact⟨hid.symm,_,by rw[lG,bI rfl],by simp⟩
       exact fin (γ'.cons2 (q:=⟨i,⟨dst,.makeSlice t l c,ty,pos,af,g⟩,pF ⟨dst,.makeSlice t l c,ty,pos,af,g⟩ S,v',false⟩) ⟨λid hid _=>fe (mn id hid).2 id hid (λ_=>(mn id hid).1),rfl,λ_=>ql,λhm=>(by cases hm),λh=>(by cases h),λt a lp=>by cases lp⟩) h
      |buildSlice t len parts=>
       refine fin (γ'.cons ?_) h;have fi: ∃cs s,ob= .cells cs (eE s)/\u'= .slice (some ⟨base+i,0,none⟩) len len:=by
        simp only[gZ]at hu;split at hu
        .split at hu
         .rename_i s _;split at hu
          .rename_i z _;cases hc:z.cells.toList.all bN&&Nat.ble (len*s) 1000000&&Nat.beq z.cells.size s&&Nat.ble 1 s with
           |false=>rw[hc,aJ]at hu;cases hu
           |true=>
            rw[hc,aI]at hu;simp only[aF,aB]at hu;obtain⟨cs,_,h2,h3⟩:=hu;exact⟨_,s,h3.symm,h2.symm⟩
          .cases hu
         .cases hu
        .cases hu
       obtain⟨cs,s,rfl,rfl⟩:=fi;have ki:v'= .emp∨∃z es,v'= .sl z es:=by
        simp only[fB]at hp;split at hp
        .split at hp
         .rename_i s a z _ _ _;cases hc:Nat.ble (len*s) 1000000&&Nat.beq z.length s&&Nat.ble 1 s&&(a||Nat.beq s 1)with
          |false=>rw[hc,aJ]at hp;cases hp
          |true=>
           rw[hc,aI]at hp;split at hp
           .simp only[aA,aB]at hp;rw[<-hp.1];exact aK8 _ _
           .cases hp
         .cases hp
        .cases hp
       have dn:=aBU k2 ki;intro J'' H'' kk mm zz;obtain⟨b,hb1,hb2,_⟩:=kk.row (base+i) dn cs (eE s) (by rw[bZ,bI rfl])
       have hbf:=hb2 rfl;subst hbf;simp only[check,hb1];exact Ap _
      |_=>simp only[fB]at hp;cases hp
     |eff=>
      have k1':tU P ac H (ev A) o (base+i)=some (u,H1):=by simpa only[mP,hk]using k1
      rw[show kN o=true by simp[kN,hk]]at h
      simp only[aI]at h;cases hc:Pl.all (qE P p)with
      |false=>rw[hc,aJ]at h;cases h
      |true=>
       rw[hc,aI]at h;simp only[γ.check M hc,aI,k1'];have If:=γ.filter λk=> !jC (ms.getD i 0) k
       cases ha:oU o with
       |false=>
        rw[ha]at h;simp only[Bool.false_and,aJ]at h;exact fin (If.stale k5) h
       |true=>
        rw[ha]at h;simp only[Bool.true_and]at h;have hqt:Qt H H1:=by
         obtain⟨dst,op,ty,pos,af,g⟩:=o;cases op<;>simp only[oU]at ha<;>(try cases ha)
         rename_i c;obtain⟨callee,cargs,ats⟩:=c;cases callee with
         |builtin b=>
          cases b<;>(try cases ha)
          simp only[tU]at k1';split at k1'
          .exact S5 hfi k1'
          .cases k1'
         |_=>cases ha
        exact fin (If.some k5 hqt) h
    .cases h
   .rename_i hw;rw[sC F hw,aJ];obtain⟨I1,M1,F1,A1⟩:=V7 M F o.dst;obtain⟨A',H',J',I',j1,j2,j3,j4,j5⟩:=ih Pl Rl J I1 _ p _ H S' p' gl.2 (λj hj=>co j (aG _ hj)) hb γ M1 F1 h
    exact⟨A',H',J',I',j1,j2,j3,A1.trans j4,j5⟩
   .cases h
end
end Go.PI
namespace Go.PI
open Go.AI
def fU{n:Nat}{xs:List PV}:jL n xs=true↔∀x∈xs,below n x=true:=by
 induction xs with
 |nil=>simp[jL]
 |cons x xs ih=>simp[jL,ih]
def Gx{n:Nat}{x:PV}(h:x.pur=true):below n x=true:=by cases x<;>first|rfl|simp[PV.pur]at h
def P1{es:List PV}(h: ∀e∈es,e.cells.all PV.pur=true){i:Nat}{x:PV}(hx:(eY es)[i]?=some x):x.pur=true:=by
 have:=iH hx;simp only[eY,List.mem_flatMap]at this;obtain⟨e,he,hx⟩:=this;exact(bJ.1 (h e he)) x hx
section
variable{P:Program}{J J' J'':Nu}{I I1 I':Ga}{H H':St}{S:PS}{A:Slots}
def vF{N:Type}{us:List N}{xs:List PV}(hl:xs.length=us.length){x:PV}(hx:x∈xs): ∃(i:Nat) (u:N),xs[i]?=some x/\us[i]?=some u:=by
 obtain⟨i,hi,rfl⟩:=List.mem_iff_getElem.1 hx;exact⟨i,us[i],aV hi,aV (by omega)⟩
def R.restrict{n:Nat}(hν: ∀k,k<n->J'' k=J' k)(dh: ∀k a,J'' k=some (some a)->J' k=some (some a)){x:PV}{u:Value}(r:R J' H x u):PI.below n x=true->R J'' H x u:=by
 have nj: ∀{id cs m},Fz J' H id cs m->Fz J'' H id cs m:=λh=>⟨h.1,λk hk=>h.2 k (dh k _ hk)⟩
 induction r with
 |und u=>intro _;exact .und u
 |v x h=>intro _;exact .v x h
 |str s=>intro _;exact .str s
 |agg xs us hl _ ih=>
  intro hb;simp only[PI.below]at hb;rw[fU]at hb;exact .agg xs us hl λi x u hx hu=>ih i x u hx hu (hb x (iH hx))
 |tup xs us hl _ ih=>
  intro hb;simp only[PI.below]at hb;rw[fU]at hb;exact .tup xs us hl λi x u hx hu=>ih i x u hx hu (hb x (iH hx))
 |nil=>intro _;exact .nil
 |emp0=>intro _;exact .emp0
 |emp1 id off c rcs m hr=>intro _;exact .emp1 id off c rcs m (nj hr)
 |emp2 b o s c=>intro _;exact .emp2 b o s c
 |sl z es id off c rcs m hz hs hr lq hb _ ih=>
  intro _;exact .sl z es id off c rcs m hz hs (nj hr) lq hb λi x u hx hu=>ih i x u hx hu (Gx (P1 (λe he=>(hs e he).2) hx))
 |pin z es i off id base rcs m hs hr hb _ ih=>
  intro _;exact .pin z es i off id base rcs m hs (nj hr) hb λi x u hx hu=>ih i x u hx hu (Gx (P1 (λe he=>(hs e he).2) hx))
 |ptr id off a h=>
  intro hb;simp only[PI.below,gW,aD]at hb;exact .ptr id off a (by rw[hν id hb];exact h)
 |ptr0 id off a h=>
  intro hb;simp only[PI.below,gW,aD]at hb;exact .ptr0 id off a (by rw[hν id hb];exact h)
 |rs id off len c a h=>
  intro hb;simp only[PI.below,gW,aD]at hb;exact .rs id off len c a (by rw[hν id hb];exact h)
 |rs0 id off len c a h=>
  intro hb;simp only[PI.below,gW,aD]at hb;exact .rs0 id off len c a (by rw[hν id hb];exact h)
 |fn f xs ys us vs hl _ fa _ ih wj=>
  intro hb;simp only[PI.below,aC]at hb;rw[fU,fU]at hb;exact .fn f xs ys us vs hl (λi x u hx hu=>ih i x u hx hu (hb.1 x (iH hx))) fa λi x u hx hu=>wj i x u hx hu (hb.2 x (iH hx))
def R.low{n:Nat}(hν: ∀k y,J k=some y->k<n){x:PV}{u:Value}(r:R J H x u):PI.below n x=true:=by
 induction r with
 |agg xs us hl _ ih=>
  simp only[PI.below];rw[fU];intro x hx;obtain⟨i,u,h1,h2⟩:=vF hl hx;exact ih i x u h1 h2
 |tup xs us hl _ ih=>
  simp only[PI.below];rw[fU];intro x hx;obtain⟨i,u,h1,h2⟩:=vF hl hx;exact ih i x u h1 h2
 |ptr id off a h=>simp only[PI.below,gW,aD];exact hν _ _ h
 |ptr0 id off a h=>simp only[PI.below,gW,aD];exact hν _ _ h
 |rs id off len c a h=>simp only[PI.below,gW,aD];exact hν _ _ h
 |rs0 id off len c a h=>simp only[PI.below,gW,aD];exact hν _ _ h
 |fn f xs ys us vs hl _ fa _ ih wj=>
  simp only[PI.below,aC];rw[fU,fU];refine⟨λx hx=>?_,λx hx=>?_⟩
  .obtain⟨i,u,h1,h2⟩:=vF hl hx;exact ih i x u h1 h2
  .obtain⟨i,u,h1,h2⟩:=vF fa hx;exact wj i x u h1 h2
 |_=>rfl
def Ow.restrict{k:K}(dh: ∀k a,J'' k=some (some a)->J' k=some (some a)){x:PV}{u:Value}(o:Ow J' I H k x u):Ow J'' I H k x u:=by
 have nj: ∀{id cs m},Fz J' H id cs m->Fz J'' H id cs m:=λh=>⟨h.1,λk hk=>h.2 k (dh k _ hk)⟩
 induction o with
 |nil x=>exact .nil x
 |exact x id off len rcs m hr=>exact .exact x id off len rcs m (nj hr)
 |zer x b o=>exact .zer x b o
 |tup x xs u us hx _ ih=>exact .tup x xs u us hx ih
 |tip z es id off c rcs m hr ht hw hg hb hk=>exact .tip z es id off c rcs m (nj hr) ht hw hg hb hk
def ObjR.restrict{n id:Nat}(hν: ∀k,k<n->J'' k=J' k)(dh: ∀k a,J'' k=some (some a)->J' k=some (some a))(hid:id<n){o:kK}(h:ObjR J' I H id o)(hb:sV n o=true):ObjR J'' I H id o:=by
 cases o with
 |box cs=>
  obtain⟨a,us,h1,h2,h3,h4⟩:=h;simp only[sV,bJ]at hb;refine⟨a,us,by rw[hν id hid];exact h1,h2,h3,λi x b u hx hu=>?_⟩
  obtain⟨h5,h6,h7⟩:=h4 i x b u hx hu;exact⟨h5.restrict hν dh (hb _ (iH hx)),h6,λbu=>(h7 bu).restrict dh⟩
 |row z ag cs=>
  obtain⟨a,us,h1,h2,h3,h5,h4⟩:=h;simp only[sV]at hb;rw[fU]at hb;exact⟨a,us,by rw[hν id hid];exact h1,h2,h3,h5,λi x u hx hu=>(h4 i x u hx hu).restrict hν dh (hb x (iH hx))⟩
 |map es=>exact h
 |gone=>show J'' id=some none;rw[hν id hid];exact h
def ObjR.low{n id:Nat}(hν: ∀k y,J k=some y->k<n){o:kK}(h:ObjR J I H id o):sV n o=true:=by
 cases o with
 |box cs=>
  obtain⟨a,us,h1,h2,h3,h4⟩:=h;simp only[sV,bJ];intro c hc;obtain⟨i,hi,rfl⟩:=List.mem_iff_getElem.1 hc;have hx:cs[i]?=some (cs[i].1,cs[i].2):=aV hi;have hu:us[i]?=some (us[i]'(by omega)):=aV _
  exact(h4 i _ _ _ hx hu).1.low hν
 |row z ag cs=>
  obtain⟨a,us,h1,h2,h3,h5,h4⟩:=h;simp only[sV];rw[fU];intro x hx;obtain⟨i,u,e1,e2⟩:=vF h3.symm hx;exact(h4 i x u e1 e2).low hν
 |map es=>exact h.elim
 |gone=>rfl
def fE{old d:List Nat}{k:Nat}:k∈old.foldr FK d↔k∈old∨k∈d:=by
 induction old with
 |nil=>simp
 |cons x old ih=>simp only[List.foldr_cons,mO,ih,List.mem_cons,or_assoc]
def BN{mem q:Tr kK}{old:List Nat}(hf: ∀id∈old,q.get id≠none)(k:Nat):(old.foldr (aFL q) mem).get k=if k∈old then q.get k else mem.get k:=by
 induction old with
 |nil=>simp
 |cons x old ih=>
  simp only[List.foldr_cons];have ih:=ih λid hid=>hf id (aG _ hid)
  cases hx:q.get x with
  |none=>exact absurd hx (hf x (aH ..))
  |some o=>
   simp only[aFL,hx,Tr.get_set];by_cases e:k=x
   .subst e;simp[hx]
   .rw[bH e,ih];by_cases e2:k∈old
    .rw[bI e2,bI (aG _ e2)]
    .rw[bH e2,bH (by simp[e,e2])]
def ZN{p p':PSt}(M:Mem J I p H)(M':Mem J' I' p' H')(adv:Adv J I (a2X p) H J' I' p' H'){v:PV}{u:Value}{own:Bool}(r:R J' H' v u)(ho:own=true->Ow J' I' H' .hand v u):
    ∃J'',R J'' H' v u/\(own=true->Ow J'' I' H' .hand v u)/\Mem J'' I' (settle p v p') H'/\Adv J I p H J'' I' (settle p v p') H':=by
 have hn:p.next<=p'.next:=adv.dp.next
 have py: ∀k,k<p.next->k∉p'.dirty->p'.mem.get k=p.mem.get k:=adv.dp.mem
 unfold settle;cases hc:below p.next v&&(p'.dirty.filter λid=>Nat.blt id p.next).all (vN p.next p'.mem)with
 |false=>
  simp only[aJ];refine⟨J',r,ho,⟨M'.le,M'.lt,M'.inj,M'.live,M'.get,M'.free,M'.ver⟩,⟨adv.keep,adv.mon,adv.out,⟨hn,λid hid=>fE.2 (.inr hid),λid hid=>fE.2 (.inr hid),λk hk hd=>?_⟩,adv.rz,λid a hi hd=>adv.bx id a hi λhh=>hd (fE.2 (.inl (List.mem_filter.2 ⟨hh,by rw[gW];simpa using M.le _ _ hi⟩)))⟩⟩
  refine py k hk λhh=>hd (fE.2 (.inl ?_))
  rw[List.mem_filter];exact⟨hh,by rw[gW];simpa using hk⟩
 |true=>
  simp only[aI];simp only[aC,bJ]at hc;obtain⟨hv,hold⟩:=hc;have hmo: ∀{k},k∈(p'.dirty.filter λid=>Nat.blt id p.next)↔k∈p'.dirty/\k<p.next:=by
   intro k;rw[List.mem_filter,gW];simp
  generalize hO:(p'.dirty.filter λid=>Nat.blt id p.next)=old at*
  have hf: ∀id∈old,p'.mem.get id≠none:=λid hid h=>by
   have:=hold id hid;simp only[vN,h]at this;cases this
  have bc: ∀k,PSt.get ⟨old.foldr (aFL p'.mem) p.mem,p.next,old.foldr FK p.dirty,(p'.wr.filter λid=>Nat.blt id p.next).foldr FK p.wr⟩ k=if k<p.next then p'.mem.get k else none:=by
   intro k;simp only[PSt.get,gW,Bool.cond_decide];by_cases hk:k<p.next
   .simp only[hk,if_true];rw[BN hf];by_cases e:k∈old
    .rw[bI e]
    .rw[bH e];exact(py k hk λhh=>e (hmo.2 ⟨hh,hk⟩)).symm
   .simp[hk]
  have fh: ∀k,k<p.next->p'.get k=p'.mem.get k:=by
   intro k hk;simp only[PSt.get,gW,Bool.cond_decide];rw[bI (by omega)]
  have hνn: ∀k,k<p.next->(λk=>if k<p.next then J' k else none) k=J' k:=λk hk=>by simp[hk]
  have dh: ∀k a,(λk=>if k<p.next then J' k else none) k=some (some a)->J' k=some (some a):=λk a h=>by
   by_cases hk:k<p.next
   .simpa [hk]using h
   .simp[hk]at h
  refine⟨λk=>if k<p.next then J' k else none,r.restrict hνn dh hv,λh=>(ho h).restrict dh,⟨λk x hk=>?_,λk a hk=>M'.lt k a (dh k a hk),λi j a hi hj=>M'.inj i j a (dh i a hi) (dh j a hj),λk a hk=>?_,λk o hk=>?_,M'.free,M'.ver⟩,
   ⟨adv.keep,⟨λid x hx=>?_,λid a ha=>adv.mon.2 id a (dh id a ha)⟩,adv.out,⟨aS _,λid hid=>fE.2 (.inr hid),λid hid=>fE.2 (.inr hid),λk hk hd=>?_⟩,adv.rz,λid a hi hd=>by
    have bi:=M.le _ _ hi;obtain⟨e1,e2⟩:=adv.bx id a hi λhh=>hd (fE.2 (.inl (List.mem_filter.2 ⟨hh,by rw[gW];simpa using bi⟩)))
    exact⟨e1,by show(if id<p.next then J' id else none)=_;rw[bI bi];exact e2⟩⟩⟩
  .by_cases h:k<p.next
   .exact h
   .simp[h]at hk
  .have h1:=dh k a hk;have qu:k<p.next:=by
    by_cases h:k<p.next
    .exact h
    .simp[h]at hk
   obtain⟨o,gb⟩:=M'.live k a h1;rw[fh k qu]at gb;exact⟨o,by rw[bc,bI qu];exact gb⟩
  .rw[bc]at hk;by_cases qu:k<p.next
   .rw[bI qu]at hk;have hobj:=M'.get k o (by rw[fh k qu];exact hk)
    refine hobj.restrict hνn dh qu ?_;by_cases e:k∈old
    .have:=hold k e;simp only[vN,hk]at this;exact this
    .have h0:p.mem.get k=some o:=by rw[<-py k qu λhh=>e (hmo.2 ⟨hh,qu⟩)];exact hk
     have:p.get k=some o:=by
      simp only[PSt.get,gW,Bool.cond_decide];rw[bI qu];exact h0
     exact(M.get k o this).low M.le
   .rw[bH qu]at hk;cases hk
  .have hid:=M.le id x hx;rcases adv.mon.1 id x hx with h1|h1
   .left;show(if id<p.next then J' id else none)=some x;rw[bI hid];exact h1
   .right;show(if id<p.next then J' id else none)=some none;rw[bI hid];exact h1
  .rw[BN hf];rw[bH λe=>hd (fE.2 (.inl e))]
end
end Go.PI
