import Derived.Test.YtjapdpcodgaoaaaGreatDoorKc
open Option renaming some->aa,none->ae
open Bool renaming true->ah,false->aj,or_eq_true->d7,false_eq_true->im,not_eq_true'->io,false_or->n9
open Decidable renaming decide->ak
open Nat renaming beq->ao,ble->aq,zero_le->b7,lt_or_ge->b8,le_add_right->iq,le_trans->oi
open Go renaming Value->av,TypeId->aw,Program->az,Operand->a8,World->ib,Oper->ic
open List renaming getElem?_eq_none->ed,mem_cons->ik,mem_map->ix,getElem?_take->m6,getElem?_drop->m7,mem_append->oa,length_drop->oh
open Go.AI renaming Slots->ia
open Array renaming getElem?_eq_some_iff->oq,getD_eq_getD_getElem?->iz,getElem?_eq_getElem->m5,getElem?_eq_some_iff->oq
set_option linter.all false
namespace Go.AI
section
variable{w0:W0}{P:az}{Y:Mp}{H:St}{w:ib}
def BA: ∀(xs cs:au av) (off:Nat),(jJ cs off xs).length=cs.length
 |[],_,_=>rfl
 |x::xs,cs,off=>by rw[jJ,BA xs];simp
def aC0: ∀(xs cs:au av) (off i:Nat),off+xs.length<=cs.length->(jJ cs off xs)[i]?=if off<=i/\i<off+xs.length then xs[i-off]? else cs[i]?:=by
 intro xs;induction xs with
 |nil=>intro cs off i _;rw[jJ,bI (by simp)]
 |cons x xs ih=>
  intro cs off i h;simp only[aM]at h;rw[jJ,ih _ _ _ (by simp;omega)]
  by_cases h1:off+1<=i/\i<off+1+xs.length
  .rw[bJ h1,bJ (by simp;omega)]
   rw[show i-off=(i-(off+1))+1 by omega];simp
  .rw[bI h1];by_cases h2:i=off
   .subst h2;rw[bJ (by simp),List.getElem?_set_self (by omega)];simp
   .rw[bI (by simp;omega),List.getElem?_set_ne (by omega)]
def ZY(l us:au av)(a k:Nat)(h:a+us.length<=l.length):
    (l.take a++us++l.drop (a+us.length))[k]?=if a<=k/\k<a+us.length then us[k-a]? else l[k]?:=by
 have hl:(l.take a).length=a:=by simp;omega
 rw[aQ,List.getElem?_append];split
 .rename_i h1;rw[hl]at h1;rw[bI (by omega),m6,bJ h1]
 .rename_i h1;rw[hl]at h1⊢;rw[List.getElem?_append];split
  .rename_i h2;rw[bJ (by omega)]
  .rename_i h2;rw[bI (by omega),m7]
   congr 1;omega
def EN(l us:au av)(a:Nat)(h:a+us.length<=l.length):(l.take a++us++l.drop (a+us.length)).length=l.length:=by simp;omega
def RowAt.other{q:Place}{ds:au av}{n:wB}(R:RowAt w0 Y w q ds n){b:Nat}{C C':Array av}{t:aw}(hC:w.heap[b]?=aa (.cells C t (0,0)))(bu:C'.size=C.size)
    (h:q.b=b->∀i,i<ds.length->C'[q.o+i]?=C[q.o+i]?):RowAt w0 Y (w.setRow b C') q ds n:=by
 obtain⟨⟨D,u,fr,hD,lq,cm⟩,h2,h3,h4,h5⟩:=R;refine⟨?_,h2,h3,h4,λhw C1 t1 fr1 e1=>?_⟩
 rotate_left
 .by_cases hb:q.b=b
  .rw[hb,setRow_heap w b C C' _ _ hC]at e1;cases e1;rfl
  .rw[setRow_other _ _ _ _ hb]at e1;exact h5 hw _ _ _ e1
 by_cases hb:q.b=b
 .rw[hb,hC]at hD;cases hD;refine⟨C',_,_,by rw[hb];exact setRow_heap w b C C' _ _ hC,λi v hi=>?_,λht=>by rw[bu];exact cm ht⟩
  obtain⟨u,hu,hr⟩:=lq i v hi;have hlt:i<ds.length:=by
   rcases b8 i ds.length with h'|h'
   .exact h'
   .rw[ed h']at hi;cases hi
  exact⟨u,by rw[h hb i hlt];exact hu,hr⟩
 .exact⟨D,u,fr,by rw[setRow_other _ _ _ _ hb];exact hD,lq,cm⟩
def MapAt.other{q:Place}{es:au (av×av)}(R:MapAt w0 Y w q es){b:Nat}{C C':Array av}{t:aw}(hC:w.heap[b]?=aa (.cells C t (0,0))):MapAt w0 Y (w.setRow b C') q es:=by
 obtain⟨⟨ES,c,h,h1,h2⟩,h3⟩:=R;have hb:q.b≠b:=by intro e;rw[e,hC]at h;cases h
 exact⟨⟨ES,c,by rw[setRow_other _ _ _ _ hb];exact h,h1,h2⟩,h3⟩
def KeptO.setRow(K:KeptO w0 Y w){b:Nat}(hb:w0.heap.size<=b)(hbo: ∀k o,w0.O k=aa o->b≠k)(C':Array av):KeptO w0 Y (w.setRow b C'):=by
 refine⟨⟨K.os,K.output,by rw[setRow_size];exact K.size,λk hk=>by rw[setRow_other _ _ _ _ (by omega)];exact K.old k hk⟩,λk o hk=>?_,λid p h=>by rw[setRow_size];exact K.bnd id p h⟩
 .exact⟨by rw[setRow_other _ _ _ _ (Ne.symm (hbo k o hk))];exact(K.oth k o hk).1,(K.oth k o hk).2⟩
def Sim.write(S:Sim w0 P Y H w){id:Nat}{p:Place}{cs:au av}{m m':wB}{H':St}{C:Array av}{t:aw}(hp:Y id=aa p)(hg:H.get id=aa (.cells cs m))(bf:H.good m=ah)
    (gn:m.wr=ah) (hC:w.heap[p.b]?=aa (.cells C t (0,0))) {off:Nat} {xs us:au av} (hxs:VRL Y xs us) (hlen:off+xs.length<=cs.length)
    (hnext:H'.next=H.next) (hid:H'.get id=aa (.cells (jJ cs off xs) m')) (bi: ∀k,k≠id->H'.get k=H.get k)
    (si:m'.wr=m.wr/\m'.tip=m.tip/\m'.z=m.z/\(∀n,kM m' n↔kM m n)/\(∀n,kM n m'↔kM n m)) (hml:m'.lim=m.lim)
    (qe: ∀k ds n,k≠id->H.get k=aa (.cells ds n)->H'.good n=ah->H.good n=ah/\(¬kM m n∨(m.tip=ah/\m.lim<=off)))
    (hvers: ∀k ds n g v,H'.get k=aa (.cells ds n)->n.grp=aa (g,v)->v<=H'.ver g):
    Sim w0 P Y H' (w.setRow p.b (C.toList.take (p.o+off)++us++C.toList.drop (p.o+off+us.length)).toArray):=by
 have R:=S.row id p cs m hp hg bf;have hin:xs.length=0∨p.o+off+us.length<=C.toList.length:=by
  rcases Nat.eq_zero_or_pos xs.length with h|h
  .exact .inl h
  .right;obtain⟨D,u,fr,hD,lq,_⟩:=R.row;rw[hC]at hD;cases hD;have:off+xs.length-1<cs.length:=by omega
   obtain⟨x,hx,_⟩:=lq _ _ (aV this);have:=(oq.1 hx).1;rw[<-hxs.1];simp;omega
 generalize hC':(C.toList.take (p.o+off)++us++C.toList.drop (p.o+off+us.length)).toArray=C';have bc: ∀k,C'[k]?=if p.o+off<=k/\k<p.o+off+us.length then us[k-(p.o+off)]? else C[k]?:=by
  intro k;rw[<-hC'];rcases hin with h|h
  .have hu:us=[]:=by have:=hxs.1;rw[h]at this;exact List.eq_nil_of_length_eq_zero this.symm
   subst hu;rw[bI (by simp)]
   simp
  .have:=ZY C.toList us (p.o+off) k h;simpa using this
 have bu:C'.size=C.size:=by
  rw[<-hC'];rcases hin with h|h
  .have hu:us=[]:=by have:=hxs.1;rw[h]at this;exact List.eq_nil_of_length_eq_zero this.symm
   subst hu;simp
  .have:=EN C.toList us (p.o+off) h;simpa using this
 have qn:(jJ cs off xs).length=cs.length:=BA _ _ _;have Rid:RowAt w0 Y (w.setRow p.b C') p (jJ cs off xs) m':=by
  obtain⟨⟨D,u,fr,hD,lq,cm⟩,h2,h3,h4,h5⟩:=R;rw[hC]at hD;cases hD;refine⟨⟨C',_,_,setRow_heap w p.b C C' _ _ hC,λi v hi=>?_,λht=>?_⟩,λh=>h2 (si.1▸h),λh=>by rw[qn];exact h3 (si.2.1▸h),by rw[si.2.2.1];exact h4,λ_ C1 t1 fr1 e1=>by rw[setRow_heap w p.b C C' _ _ hC]at e1;cases e1;rfl⟩
  .rw[aC0 _ _ _ _ hlen]at hi;rw[bc];split at hi
   .rename_i h1;rw[bJ (by have:=hxs.1;omega)]
    obtain⟨u,hu,hr⟩:=hxs.get hi;exact⟨u,by rw[show p.o+i-(p.o+off)=i-off by omega];exact hu,hr⟩
   .rename_i h1;rw[bI (by have:=hxs.1;omega)]
    exact lq i v hi
  .rw[bu];exact cm (si.2.1▸ht)
 have Roth: ∀k q ds n,k≠id->Y k=aa q->H.get k=aa (.cells ds n)->H.good n=ah->(¬kM m n∨(m.tip=ah/\m.lim<=off))->RowAt w0 Y (w.setRow p.b C') q ds n:=by
  intro k q ds n hk hq hgk mo hs;refine(S.row k q ds n hq hgk mo).other hC bu (λhb i hi=>?_)
  rw[bc,bI];intro h1;rcases hs with hs|⟨ht,hl⟩
  .exact S.off id k p q cs ds m n (Ne.symm hk) hp hq hg hgk bf mo gn hs hb.symm (q.o+i) (by have:=hxs.1;omega) (by have:=hxs.1;omega) (by omega) (by omega)
  .exact S.lim id k p q cs ds m n (Ne.symm hk) hp hq hg hgk bf mo ht hb.symm (q.o+i) (by have:=hxs.1;omega) (by have:=hxs.1;omega) (by omega) (by omega)
 have old: ∀{k q ds n},k≠id->Y k=aa q->H'.get k=aa (.cells ds n)->H'.good n=ah->H.get k=aa (.cells ds n)/\H.good n=ah/\(¬kM m n∨(m.tip=ah/\m.lim<=off)):=by
  intro k q ds n hk hq bj hgd';rw[bi k hk]at bj;obtain⟨h1,h2⟩:=qe k ds n hk bj hgd';exact⟨bj,h1,h2⟩
 refine⟨S.kept.setRow (R.wr gn) (λk o hk=>(S.kept.oth k o hk).2 id p hp) C',λk hk=>S.dom k (hnext▸hk),S.glob,?_,?_,?_,?_,?_,hvers,?_⟩
 .intro k q ds n hq bj mo;by_cases hk:k=id
  .subst hk;rw[hp]at hq;cases hq;rw[hid]at bj;cases bj;exact Rid
  .obtain⟨h1,h2,h3⟩:=old hk hq bj mo;exact Roth k q ds n hk hq h1 h2 h3
 .intro k q es hq bj;have hk:k≠id:=by intro e;subst e;rw[hid]at bj;cases bj
  rw[bi k hk]at bj;exact(S.map k q es hq bj).other hC
 .intro i j a b as bs n1 n2 bp ha hb kr ji h1 h2 hw hs;by_cases hi:i=id
  .subst hi;rw[hp]at ha;cases ha;rw[hid]at kr;cases kr;obtain⟨g1,g2,g3⟩:=old (Ne.symm bp) hb ji h2;rw[qn];exact S.off i j p b cs bs m n2 bp hp hb hg g1 bf g2 gn (λh=>hs ((si.2.2.2.1 n2).2 h))
  .obtain⟨f1,f2,f3⟩:=old hi ha kr h1;by_cases hj:j=id
   .subst hj;rw[hp]at hb;cases hb;rw[hid]at ji;cases ji;rw[qn];exact S.off i j a p as cs n1 m bp ha hp f1 hg f2 bf hw (λh=>hs ((si.2.2.2.2 n1).2 h))
   .obtain⟨g1,g2,g3⟩:=old hj hb ji h2;exact S.off i j a b as bs n1 n2 bp ha hb f1 g1 f2 g2 hw hs
 .intro i j a b as bs n1 n2 bp ha hb kr ji h1 h2 hw;by_cases hi:i=id
  .subst hi;rw[hp]at ha;cases ha;rw[hid]at kr;cases kr;obtain⟨g1,g2,g3⟩:=old (Ne.symm bp) hb ji h2;rw[qn];exact S.tip i j p b cs bs m n2 bp hp hb hg g1 bf g2 (si.2.1▸hw)
  .obtain⟨f1,f2,f3⟩:=old hi ha kr h1;by_cases hj:j=id
   .subst hj;rw[hp]at hb;cases hb;rw[hid]at ji;cases ji;rw[qn];have:=S.tip i j a p as cs n1 m bp ha hp f1 hg f2 bf hw;exact⟨this.1,λh=>this.2 (si.2.1▸h)⟩
   .obtain⟨g1,g2,g3⟩:=old hj hb ji h2;exact S.tip i j a b as bs n1 n2 bp ha hb f1 g1 f2 g2 hw
 .intro i j a b es fs bp ha hb kr ji;have hi:i≠id:=by intro e;subst e;rw[hid]at kr;cases kr
  have hj:j≠id:=by intro e;subst e;rw[hid]at ji;cases ji
  rw[bi i hi]at kr;rw[bi j hj]at ji;exact S.maps i j a b es fs bp ha hb kr ji
 .intro i j a b as bs n1 n2 bp ha hb kr ji h1 h2 hw;by_cases hi:i=id
  .subst hi;rw[hp]at ha;cases ha;rw[hid]at kr;cases kr;obtain⟨g1,g2,g3⟩:=old (Ne.symm bp) hb ji h2;rw[qn,hml];exact S.lim i j p b cs bs m n2 bp hp hb hg g1 bf g2 (si.2.1▸hw)
  .obtain⟨f1,f2,f3⟩:=old hi ha kr h1;by_cases hj:j=id
   .subst hj;rw[hp]at hb;cases hb;rw[hid]at ji;cases ji;rw[qn];exact S.lim i j a p as cs n1 m bp ha hp f1 hg f2 bf hw
   .obtain⟨g1,g2,g3⟩:=old hj hb ji h2;exact S.lim i j a b as bs n1 n2 bp ha hb f1 g1 f2 g2 hw
def JQ(v:av):v.oneCell'=one v:=by cases v<;>rfl
def Ks{t:aw}{a b x y:av}{H':St}(S:Sim w0 P Y H w)(ra:VR Y a b)(rx:VR Y x y)(h:jU P H t a x=aa H'):
    ∃w',(Instr.storeAt t b y).run P w= .ok () w'/\Sim w0 P Y H' w'/\H'.next=H.next:=by
 unfold jU at h;split at h<;>try cases h
 rename_i id off;obtain⟨p,hp,rfl⟩:=ra.ptr_inv;split at h<;>try cases h
 rename_i cs m n bh hn;obtain⟨hg,bf⟩:=St.row_some bh;cases hc:(m.wr&&ao x.cells.size n&&aq (off+n) cs.length&&x.cells.toList.all one)with
 |false=>rw[hc]at h;cases h
 |true=>
  rw[hc]at h;simp only[aC,CG,dZ,aD]at hc;obtain⟨⟨⟨gn,bu⟩,hle⟩,jf⟩:=hc;simp only[aI]at h;have R:=S.row id p cs m hp hg bf;obtain⟨C,ty,fr,hC,hcs,_⟩:=R.row;have hfr:=R.fz gn C ty fr hC;subst hfr;have hxs:=rx.cells;have ja:x.cells.toList.length=n:=by simpa using bu
  have hone': ∀v∈y.cells.toList,v.oneCell'=ah:=by
   intro v hv;rw[JQ];have:=hxs.one_eq;rw[jf]at this;exact bK.1 this v hv
  have kc:p.o+off+y.cells.toList.length<=C.size∨y.cells.toList=[]:=by
   rcases Nat.eq_zero_or_pos n with h0|h0
   .right;apply List.eq_nil_of_length_eq_zero;rw[<-hxs.1,ja,h0]
   .left;have:off+n-1<cs.length:=by omega
    obtain⟨u,hu,_⟩:=hcs _ _ (aV this);have:=(oq.1 hu).1;rw[<-hxs.1,ja];omega
  have gb:(Instr.storeAt t (.pointer (aa ⟨p.b,p.o+off,ae⟩)) y).run P w=
        .ok () (w.setRow p.b (C.toList.take (p.o+off)++y.cells.toList++C.toList.drop (p.o+off+y.cells.toList.length)).toArray):=by
   unfold Instr.storeAt storeVar;have hsy: ¬(y.cells.size≠n):=by have:=hxs.size;omega
   simp only[Instr.sureAddr,Sem.run_bind,Sem.run_pure,Result.andThen_ok,gT (w:=w) (show cU P (Go.sizeOf t)=aa n by rw[dY];exact hn),bI hsy]
   rcases kc with hf|hf
   .have:=run_storeCells_at P p.b (p.o+off) ty y.cells.toList 0 C w hC (by simpa using hf) hone'
    simpa using this
   .rw[hf];simp only[storeCells,bB,aX,Nat.add_zero,List.take_append_drop,Array.toArray_toList];rw[setRow_self w p.b C ty (0,0) hC];rfl
  refine⟨_,gb,?_⟩;cases gr:m.grp with
  |none=>
   simp only[gr,aA]at h;subst h;have qc: ∀n,¬kM m n:=λn ⟨g,v,v',e,_⟩=>by rw[gr]at e;cases e
   refine⟨S.write hp hg bf gn hC hxs (by rw[ja];exact hle) rfl (m':=m) (by rw[St.get_put,bJ rfl]) (λk hk=>by rw[St.get_put,bI hk]) ⟨rfl,rfl,rfl,λ_=>Iff.rfl,λ_=>Iff.rfl⟩ rfl
    (λk ds n _ _ mo=>⟨mo,.inl (qc n)⟩) (λk ds n g v hk jh=>?_),rfl⟩
   rw[St.get_put]at hk;split at hk
   .cases hk;rw[gr]at jh;cases jh
   .exact S.vers k ds n g v hk jh
  |some gv=>
   obtain⟨g,v⟩:=gv;simp only[gr]at h;cases cw:(m.tip&&aq m.lim off)with
   |true=>
    rw[cw]at h;simp only[aI,aA]at h;subst h;simp only[aC,CG,aD]at cw;refine⟨S.write hp hg bf gn hC hxs (by rw[ja];exact hle) rfl (m':=m) (by rw[St.get_put,bJ rfl]) (λk hk=>by rw[St.get_put,bI hk]) ⟨rfl,rfl,rfl,λ_=>Iff.rfl,λ_=>Iff.rfl⟩ rfl
     (λk ds n _ _ mo=>⟨mo,.inr cw⟩) (λk ds n g v hk jh=>?_),rfl⟩
    rw[St.get_put]at hk;split at hk
    .cases hk;exact S.vers id _ _ g v hg jh
    .exact S.vers k ds n g v hk jh
   |false=>
   rw[cw]at h;simp only[aJ,aA]at h;subst h;have hver:H.ver g=v:=(St.good_iff H m).1 bf g v gr;refine⟨S.write hp hg bf gn hC hxs (by rw[ja];exact hle) rfl (m':={m with grp:=aa (g,v+1)}) (by rw[St.get_bump,St.get_put,bJ rfl]) (λk hk=>by rw[St.get_bump,St.get_put,bI hk])
    ⟨rfl,rfl,rfl,λn=>?_,λn=>?_⟩ rfl (λk ds n hk hgk mo=>?_) (λk ds n g' v' hk jh=>?_),rfl⟩
   .constructor
    .rintro⟨g1,v1,v2,e1,e2⟩;cases e1;exact⟨_,_,_,gr,e2⟩
    .rintro⟨g1,v1,v2,e1,e2⟩;rw[gr]at e1;cases e1;exact⟨_,_,_,rfl,e2⟩
   .constructor
    .rintro⟨g1,v1,v2,e1,e2⟩;cases e2;exact⟨_,_,_,e1,gr⟩
    .rintro⟨g1,v1,v2,e1,e2⟩;rw[gr]at e2;cases e2;exact⟨_,_,_,e1,rfl⟩
   .rw[St.good_iff]at mo;have ql: ∀v',n.grp≠aa (g,v'):=by
     intro v' e;have h1:=mo g v' e;rw[St.ver_bump,bJ rfl]at h1;have h2:=S.vers k ds n g v' hgk e;omega
    refine⟨(St.good_iff H n).2 λg' v' e=>?_,.inl ?_⟩
    .have h1:=mo g' v' e;rw[St.ver_bump]at h1;split at h1
     .rename_i eg;subst eg;exact absurd e (ql v')
     .exact h1
    .rintro⟨g1,v1,v2,e1,e2⟩;rw[gr]at e1;cases e1;exact ql v2 e2
   .rw[St.get_bump,St.get_put]at hk;rw[St.ver_bump];split at hk
    .cases hk;cases jh;rw[bJ rfl];exact aS _
    .have:=S.vers k ds n g' v' hk jh;split
     .rename_i eg;subst eg;omega
     .exact this
end
section
variable{w0:W0}{P:az}{Y:Mp}{H:St}{w:ib}
def Sim.untip(S:Sim w0 P Y H w){id:Nat}{cs:au av}{m:wB}(hg:H.get id=aa (.cells cs m)):Sim w0 P Y (H.put id (.cells cs {m with tip:=aj})) w:=by
 have bc: ∀{k ds n},(H.put id (.cells cs {m with tip:=aj})).get k=aa (.cells ds n)->∃n',H.get k=aa (.cells ds n')/\n.wr=n'.wr/\n.z=n'.z/\n.grp=n'.grp/\(n.tip=ah->n'.tip=ah/\n.lim=n'.lim):=by
  intro k ds n h;rw[St.get_put]at h;split at h
  .rename_i e;subst e;cases h;exact⟨m,hg,rfl,rfl,rfl,λh=>by cases h⟩
  .exact⟨n,h,rfl,rfl,rfl,λh=>⟨h,rfl⟩⟩
 have mn: ∀{k es},(H.put id (.cells cs {m with tip:=aj})).get k=aa (.map es)->H.get k=aa (.map es):=by
  intro k es h;rw[St.get_put]at h;split at h
  .cases h
  .exact h
 have bf: ∀{n n':wB},n.grp=n'.grp->H.good n=ah->H.good n'=ah:=by
  intro n n' e h;rw[St.good_iff]at h⊢;intro g v e';exact h g v (e.trans e')
 have cf: ∀{a a' b b':wB},a.grp=a'.grp->b.grp=b'.grp->kM a' b'->kM a b:=by
  rintro a a' b b' e1 e2 ⟨g,v,v',h1,h2⟩;exact⟨g,v,v',e1.trans h1,e2.trans h2⟩
 refine⟨S.kept,S.dom,S.glob,?_,?_,?_,?_,?_,?_,?_⟩
 .intro k q ds n hq h qe;obtain⟨n',h',e1,e2,e3,e4⟩:=bc h;obtain⟨⟨D,t,fr,hD,lq,cm⟩,h2,h3,h4,h5⟩:=S.row k q ds n' hq h' (bf e3 qe);exact⟨⟨D,t,fr,hD,lq,λht=>cm (e4 ht).1⟩,λhw=>h2 (e1▸hw),λht=>h3 (e4 ht).1,by rw[h4,e2],λhw=>h5 (e1▸hw)⟩
 .intro k q es hq h;exact S.map k q es hq (mn h)
 .intro i j a b as bs n1 n2 bp ha hb h1 h2 g1 g2 hw hs;obtain⟨m1,f1,a1,a2,a3,a4⟩:=bc h1;obtain⟨m2,f2,b1,b2,b3,b4⟩:=bc h2;exact S.off i j a b as bs m1 m2 bp ha hb f1 f2 (bf a3 g1) (bf b3 g2) (a1▸hw) (λh=>hs (cf a3 b3 h))
 .intro i j a b as bs n1 n2 bp ha hb h1 h2 g1 g2 hw;obtain⟨m1,f1,a1,a2,a3,a4⟩:=bc h1;obtain⟨m2,f2,b1,b2,b3,b4⟩:=bc h2;have:=S.tip i j a b as bs m1 m2 bp ha hb f1 f2 (bf a3 g1) (bf b3 g2) (a4 hw).1;exact⟨this.1,λh=>this.2 (b4 h).1⟩
 .intro i j a b es fs bp ha hb h1 h2;exact S.maps i j a b es fs bp ha hb (mn h1) (mn h2)
 .intro k ds n g v h e;obtain⟨n',h',_,_,e3,_⟩:=bc h;exact S.vers k ds n' g v h' (e3▸e)
 .intro i j a b as bs n1 n2 bp ha hb h1 h2 g1 g2 hw;obtain⟨m1,f1,a1,a2,a3,a4⟩:=bc h1;obtain⟨m2,f2,b1,b2,b3,b4⟩:=bc h2;rw[(a4 hw).2];exact S.lim i j a b as bs m1 m2 bp ha hb f1 f2 (bf a3 g1) (bf b3 g2) (a4 hw).1
def Sim.extend(S:Sim w0 P Y H w){id bn:Nat}{p:Place}{cs xs us:au av}{m:wB}{C:Array av}{t:aw}{off:Nat}(hp:Y id=aa p)(hg:H.get id=aa (.cells cs m))(bf:H.good m=ah)
    (cm:m.tip=ah) (gn:m.wr=ah) (qr:m.grp.isSome=ah) (hC:w.heap[p.b]?=aa (.cells C t (0,0))) (jx:off<=cs.length) (hxs:VRL Y xs us) (kc:p.o+cs.length+xs.length<=p.e)
    (hid:Y bn=ae) (hlt:bn<H.next):
    Sim w0 P (upd Y bn ⟨p.b,p.o+off,p.e,p.z⟩) ((H.put id (.cells cs {m with tip:=aj})).put bn (.cells (cs.drop off++xs) {m with lim:=(cs.drop off).length}))
      (w.setRow p.b (C.toList.take (p.o+cs.length)++us++C.toList.drop (p.o+cs.length+us.length)).toArray):=by
 have bi:bn≠id:=by intro e;subst e;rw[hid]at hp;cases hp
 have bv:=mC (⟨p.b,p.o+off,p.e,p.z⟩:Place) hid;have R:=S.row id p cs m hp hg bf;have hCe:p.e<=C.size:=by
  obtain⟨D,u,fr,hD,_,ht⟩:=R.row;rw[hC]at hD;cases hD;exact ht cm
 have hin:p.o+cs.length+us.length<=C.toList.length:=by have:=hxs.1;simp;omega
 generalize hC':(C.toList.take (p.o+cs.length)++us++C.toList.drop (p.o+cs.length+us.length)).toArray=C';have bc: ∀k,C'[k]?=if p.o+cs.length<=k/\k<p.o+cs.length+us.length then us[k-(p.o+cs.length)]? else C[k]?:=by
  intro k;rw[<-hC'];have:=ZY C.toList us (p.o+cs.length) k hin;simpa using this
 have bu:C'.size=C.size:=by rw[<-hC'];have:=EN C.toList us (p.o+cs.length) hin;simpa using this
 have gj:=hxs.1;have kx:(cs.drop off++xs).length=cs.length-off+xs.length:=by simp
 have dt: ∀{k q ds n},upd Y bn ⟨p.b,p.o+off,p.e,p.z⟩ k=aa q->((H.put id (.cells cs {m with tip:=aj})).put bn (.cells (cs.drop off++xs) {m with lim:=(cs.drop off).length})).get k=aa (.cells ds n)->
      (k=bn/\q=⟨p.b,p.o+off,p.e,p.z⟩/\ds=cs.drop off++xs/\n={m with lim:=(cs.drop off).length})∨(k=id/\q=p/\ds=cs/\n={m with tip:=aj})∨(k≠bn/\k≠id/\Y k=aa q/\H.get k=aa (.cells ds n)):=by
  intro k q ds n hq h;by_cases e:k=bn
  .subst e;rw[kV]at hq;cases hq;rw[St.get_put,bJ rfl]at h;cases h;exact .inl ⟨rfl,rfl,rfl,rfl⟩
  .rw[jM e]at hq;rw[St.get_put,bI e,St.get_put]at h;by_cases e2:k=id
   .subst e2;rw[hp]at hq;cases hq;rw[bJ rfl]at h;cases h;exact .inr (.inl ⟨rfl,rfl,rfl,rfl⟩)
   .rw[bI e2]at h;exact .inr (.inr ⟨e,e2,hq,h⟩)
 have hcaseM: ∀{k q es},upd Y bn ⟨p.b,p.o+off,p.e,p.z⟩ k=aa q->((H.put id (.cells cs {m with tip:=aj})).put bn (.cells (cs.drop off++xs) {m with lim:=(cs.drop off).length})).get k=aa (.map es)->Y k=aa q/\H.get k=aa (.map es):=by
  intro k q es hq h;rw[St.get_put]at h;split at h
  .cases h
  .rename_i e;rw[jM e]at hq;rw[St.get_put]at h;split at h
   .cases h
   .exact⟨hq,h⟩
 have hsg:kM m {m with tip:=aj}:=by
  obtain⟨⟨g,v⟩,e⟩:=Option.isSome_iff_exists.1 qr;exact⟨g,v,v,e,e⟩
 have hsg':kM {m with tip:=aj} m:=by
  obtain⟨⟨g,v⟩,e⟩:=Option.isSome_iff_exists.1 qr;exact⟨g,v,v,e,e⟩
 refine⟨(S.kept.upd (id:=bn) (q:=⟨p.b,p.o+off,p.e,p.z⟩) (λk o hk=>(S.kept.oth k o hk).2 id p hp) (S.kept.bnd id p hp)).setRow (R.wr gn) (λk o hk=>(S.kept.oth k o hk).2 id p hp) C',?_,?_,?_,?_,?_,?_,?_,?_,?_⟩
 .intro k hk;have jg:H.next<=k:=hk
  rw[jM (by omega)];exact S.dom k jg
 .intro g bj;obtain⟨q,hq,h1,h2⟩:=S.glob g bj;exact⟨q,bv g q hq,h1,h2⟩
 .intro k q ds n hq h qe;rcases dt hq h with⟨rfl,rfl,rfl,rfl⟩|⟨rfl,rfl,rfl,rfl⟩|⟨h1,h2,ge,h'⟩
  .obtain⟨⟨D,u,fr,hD,lq,_⟩,h2,h3,h4,h5⟩:=R;rw[hC]at hD;cases hD;refine⟨⟨C',_,_,setRow_heap w p.b C C' _ _ hC,λi v hi=>?_,λ_=>by rw[bu];exact hCe⟩,h2,λ_=>by rw[kx];show p.o+off+_<=p.e;omega,h4,λ_ C1 t1 fr1 e1=>by have e2:=(setRow_heap w p.b C C' _ _ hC).symm.trans e1;cases e2;rfl⟩
   show∃u,C'[p.o+off+i]?=aa u/\_;rw[bc];rw[List.getElem?_append]at hi;split at hi
   .rename_i hl;rw[oh]at hl;rw[bI (by omega)]
    rw[m7]at hi;obtain⟨u,hu,hr⟩:=lq _ _ hi;exact⟨u,by rw[show p.o+off+i=p.o+(off+i) by omega];exact hu,hr.mono' bv⟩
   .rename_i hl;rw[oh]at hl hi;have hix:i-(cs.length-off)<xs.length:=by
     rcases b8 (i-(cs.length-off)) xs.length with h'|h'
     .exact h'
     .rw[ed h']at hi;cases hi
    rw[bJ (by omega)]
    obtain⟨u,hu,hr⟩:=hxs.get hi;exact⟨u,by rw[show p.o+off+i-(p.o+cs.length)=i-(cs.length-off) by omega];exact hu,hr.mono' bv⟩
  .obtain⟨⟨D,u,fr,hD,lq,_⟩,h2,h3,h4,h5⟩:=R;rw[hC]at hD;cases hD;refine⟨⟨C',_,_,setRow_heap w q.b C C' _ _ hC,λi v hi=>?_,λht=>by cases ht⟩,h2,(λht=>by cases ht),h4,λ_ C1 t1 fr1 e1=>by have e2:=(setRow_heap w q.b C C' _ _ hC).symm.trans e1;cases e2;rfl⟩
   have hil:i<ds.length:=by
    rcases b8 i ds.length with h'|h'
    .exact h'
    .rw[ed h']at hi;cases hi
   rw[bc,bI (by omega)]
   obtain⟨u,hu,hr⟩:=lq i v hi;exact⟨u,hu,hr.mono' bv⟩
  .have Rk:=(S.row k q ds n ge h' qe).other hC bu (λhb i hi=>by
    rw[bc,bI];intro h3;exact(S.tip id k p q cs ds m n (Ne.symm h2) hp ge hg h' bf qe cm).1 hb.symm (q.o+i) (by omega) (by omega) (by omega) (by omega))
   obtain⟨⟨D,u,fr,hD,lq,ht⟩,g2,g3,g4,g5⟩:=Rk;exact⟨⟨D,u,fr,hD,λi v hi=>let ⟨u,hu,hr⟩:=lq i v hi;⟨u,hu,hr.mono' bv⟩,ht⟩,g2,g3,g4,g5⟩
 .intro k q es hq h;obtain⟨ge,h'⟩:=hcaseM hq h;obtain⟨⟨ES,c,h1,h2,h3⟩,h4⟩:=(S.map k q es ge h').other hC (C':=C');exact⟨⟨ES,c,h1,h2.mono' bv,h3.mono' bv⟩,h4⟩
 .intro i j a b as bs n1 n2 bp ha hb h1 h2 g1 g2 hw hs;rcases dt ha h1 with⟨rfl,rfl,rfl,rfl⟩|⟨rfl,rfl,rfl,rfl⟩|⟨i1,i2,cp,h1'⟩
  .rcases dt hb h2 with⟨rfl,_⟩|⟨rfl,rfl,rfl,rfl⟩|⟨j1,j2,bm,h2'⟩
   .exact absurd rfl bp
   .exact absurd hsg hs
   .intro hbb x x1 x2 x3 x4;rw[kx]at x2;simp only at x1 x2 hbb;by_cases hx:x<p.o+cs.length
    .exact S.off id j p b cs bs m n2 (Ne.symm j2) hp bm hg h2' bf g2 gn hs hbb x (by omega) hx x3 x4
    .exact(S.tip id j p b cs bs m n2 (Ne.symm j2) hp bm hg h2' bf g2 cm).1 hbb x (by omega) (by omega) x3 x4
  .rcases dt hb h2 with⟨rfl,rfl,rfl,rfl⟩|⟨rfl,_⟩|⟨j1,j2,bm,h2'⟩
   .exact absurd hsg' hs
   .exact absurd rfl bp
   .exact S.off i j _ b _ bs m n2 bp hp bm hg h2' bf g2 gn (λh=>hs (by obtain⟨g,v,v',e1,e2⟩:=h;exact⟨g,v,v',e1,e2⟩))
  .rcases dt hb h2 with⟨rfl,rfl,rfl,rfl⟩|⟨rfl,rfl,rfl,rfl⟩|⟨j1,j2,bm,h2'⟩
   .intro hbb x x1 x2 x3 x4;rw[kx]at x4;simp only at x3 x4 hbb;by_cases hx:x<p.o+cs.length
    .exact S.off i id a p as cs n1 m i2 cp hp h1' hg g1 bf hw hs hbb x x1 x2 (by omega) hx
    .exact(S.tip id i p a cs as m n1 (Ne.symm i2) hp cp hg h1' bf g1 cm).1 hbb.symm x (by omega) (by omega) x1 x2
   .exact S.off i j a b as bs n1 m bp cp hp h1' hg g1 bf hw (λh=>hs (by obtain⟨g,v,v',e1,e2⟩:=h;exact⟨g,v,v',e1,e2⟩))
   .exact S.off i j a b as bs n1 n2 bp cp bm h1' h2' g1 g2 hw hs
 .intro i j a b as bs n1 n2 bp ha hb h1 h2 g1 g2 hw;rcases dt ha h1 with⟨rfl,rfl,rfl,rfl⟩|⟨rfl,rfl,rfl,rfl⟩|⟨i1,i2,cp,h1'⟩
  .rcases dt hb h2 with⟨rfl,_⟩|⟨rfl,rfl,rfl,rfl⟩|⟨j1,j2,bm,h2'⟩
   .exact absurd rfl bp
   .refine⟨λhbb x x1 x2 x3 x4=>?_,(λh=>by cases h)⟩
    rw[kx]at x1;simp only at x1;omega
   .have T:=S.tip id j p b cs bs m n2 (Ne.symm j2) hp bm hg h2' bf g2 cm;refine⟨λhbb x x1 x2 x3 x4=>?_,λht hbb x x1 x2 x3 x4=>?_⟩
    .rw[kx]at x1;simp only at x1 x2 hbb;exact T.1 hbb x (by omega) x2 x3 x4
    .rw[kx]at x1;simp only at x1 x2 hbb;exact T.2 ht hbb x (by omega) x2 x3 x4
  .cases hw
  .rcases dt hb h2 with⟨rfl,rfl,rfl,rfl⟩|⟨rfl,rfl,rfl,rfl⟩|⟨j1,j2,bm,h2'⟩
   .have T:=S.tip i id a p as cs n1 m i2 cp hp h1' hg g1 bf hw;refine⟨λhbb x x1 x2 x3 x4=>?_,λht hbb x x1 x2 x3 x4=>?_⟩
    .rw[kx]at x4;simp only at x3 x4 hbb;by_cases hx:x<p.o+cs.length
     .exact T.1 hbb x x1 x2 (by omega) hx
     .exact T.2 cm hbb x x1 x2 (by omega) (by omega)
    .rw[kx]at x3;simp only at x3 x4 hbb;exact T.2 cm hbb x x1 x2 (by omega) x4
   .have T:=S.tip i j a b as bs n1 m bp cp hp h1' hg g1 bf hw;exact⟨T.1,(λh=>by cases h)⟩
   .exact S.tip i j a b as bs n1 n2 bp cp bm h1' h2' g1 g2 hw
 .intro i j a b es fs bp ha hb h1 h2;obtain⟨a1,a2⟩:=hcaseM ha h1;obtain⟨b1,b2⟩:=hcaseM hb h2;exact S.maps i j a b es fs bp a1 b1 a2 b2
 .intro k ds n g v h e;rw[St.get_put]at h;split at h
  .cases h;exact S.vers id _ _ g v hg e
  .rw[St.get_put]at h;split at h
   .cases h;exact S.vers id _ _ g v hg e
   .exact S.vers k ds n g v h e
 .intro i j a b as bs n1 n2 bp ha hb h1 h2 g1 g2 hw;rcases dt ha h1 with⟨rfl,rfl,rfl,rfl⟩|⟨rfl,rfl,rfl,rfl⟩|⟨i1,i2,cp,h1'⟩
  .rcases dt hb h2 with⟨rfl,_⟩|⟨rfl,rfl,rfl,rfl⟩|⟨j1,j2,bm,h2'⟩
   .exact absurd rfl bp
   .intro hbb x x1 x2 x3 x4;simp only[oh]at x1;omega
   .intro hbb x x1 x2 x3 x4;rw[kx]at x2;simp only[oh]at x1 x2 hbb;exact(S.tip id j p b cs bs m n2 (Ne.symm j2) hp bm hg h2' bf g2 cm).1 hbb x (by omega) (by omega) x3 x4
  .cases hw
  .rcases dt hb h2 with⟨rfl,rfl,rfl,rfl⟩|⟨rfl,rfl,rfl,rfl⟩|⟨j1,j2,bm,h2'⟩
   .intro hbb x x1 x2 x3 x4;rw[kx]at x4;simp only at x3 x4 hbb;by_cases hx:x<p.o+cs.length
    .exact S.lim i id a p as cs n1 m i2 cp hp h1' hg g1 bf hw hbb x x1 x2 (by omega) hx
    .exact(S.tip id i p a cs as m n1 (Ne.symm i2) hp cp hg h1' bf g1 cm).1 hbb.symm x (by omega) (by omega) (by omega) x2
   .exact S.lim i j a b as bs n1 m bp cp hp h1' hg g1 bf hw
   .exact S.lim i j a b as bs n1 n2 bp cp bm h1' h2' g1 g2 hw
def VI{z:Nat}{x x':av}{n:Nat}{xs:au av}{t1:aw}{u:TypeDesc}(S:Sim w0 P Y H w)(r:VR Y x x')(hu:P.underlying t1=aa u)
    (hk:IM u x=ah) (jf:xs.all one=ah) (h:vJ H z x=aa (n,xs)):
    ∃news,Src P z t1 x' n news w/\VRL Y xs news:=by
 unfold vJ at h;split at h<;>try cases h
 .obtain⟨rfl,rfl,rfl⟩:=r.nilslc_inv;cases u<;>simp only[IM,iH,bE,im]at hk;exact⟨[],Src.ofNil w hu 0,.nil⟩
 .rename_i id off len c;split at h<;>try cases h
  rename_i cs m' bh;rw[aF]at h;obtain⟨l,hl,he⟩:=h;cases he;obtain⟨hg,bf⟩:=St.row_some bh;obtain⟨p,cap,hp,rfl,_⟩:=r.slc_inv;obtain⟨C,ty,fr,hC,hcs,_⟩:=(S.row id p cs _ hp hg bf).row;obtain⟨rfl,hle⟩:=B4 hl;have hv:=D9 hcs hle;cases u<;>simp only[IM,iH,bE,im]at hk;refine⟨_,Src.ofSlice w hu _ n cap _ (by rw[<-hv.1];simp;omega) (λj v hj=>?_) (λv fh=>?_),hv⟩
  .rw[kI,El hC];rw[m6]at hj;split at hj
   .rw[m7]at hj;simpa using hj
   .cases hj
  .rw[JQ];have:=hv.one_eq;rw[jf]at this;exact bK.1 this v fh
 .rename_i s;obtain rfl:=r.string_inv;rw[dZ,Bool.cond_decide]at h;split at h
  .rename_i hz;cases h;subst hz;cases u<;>simp only[IM,iH,Bool.not_false,im]at hk;refine⟨_,Src.ofString w hu s,VRL.same ?_⟩;rw[bK];intro v hv;obtain⟨_,_,rfl⟩:=ix.1 hv;rfl
  .cases h
 .cases r with
  |same _ hp=>simp[bZ]at hp
  |emp a s cap h=>
   cases u<;>simp only[IM,iH,bE,im]at hk;exact⟨[],Src.ofSlice w hu a 0 cap [] (by simp) (λj v hj=>by simp at hj) (λv fh=>by simp at fh),.nil⟩
def aFi{t tx ty e:aw}{i:TypeInfo}(ht:P.underlying t=aa (.slice e))(hi:P.info? e=aa i){b off sLen sCap:Nat}{x:av}{n:Nat}{news:au av}(hs:Src P i.size tx x n news w)
    (ju:sLen+n<=sCap) {cur:Array av} {te:aw} (hC:w.heap[b]?=aa (.cells cur te (0,0))) (kc:off+sLen*i.size+news.length<=cur.size):
    (Builtin.append_ #[t,tx] ty #[.slice (aa ⟨b,off,ae⟩) sLen sCap,x]).run P w=
      .ok (.slice (aa ⟨b,off,ae⟩) (sLen+n) sCap) (w.setRow b (cur.toList.take (off+sLen*i.size)++news++cur.toList.drop (off+sLen*i.size+news.length)).toArray):=by
 have cb:=run_storeCells_at P b (off+sLen*i.size) te news 0 cur w hC (by simpa using kc) hs.one
 simp only[Nat.add_zero]at cb;rcases hs.kind with⟨e',hk⟩|hk<;>simp[Builtin.append_,run_underlying ht,run_underlying hk,Go.sizeOf,typeInfo,hi,hs.len,ju,hs.cells,Addr.add_lit,cb]
def Ep(z:Array av)(n:Nat):(Builtin.zeroCells z n).size=n*z.size:=by simp[Builtin.zeroCells]
def Ej{t tx ty e:aw}{i:TypeInfo}{z:av}(S:Sim w0 P Y H w)(ht:P.underlying t=aa (.slice e))(hi:P.info? e=aa i)(hz:i.zero=aa z)(jk:z.cells.size=i.size)
    {base:f9 Addr} {sLen sCap:Nat} {old olds:au av} (hold:(Builtin.firstCells i.size sLen (.slice base sLen sCap)).run P w.drew= .ok olds.toArray w.drew) (gx:olds.length=sLen*i.size) (hor:VRL Y old olds)
    {x:av} {n:Nat} {xs news:au av} (hs:Src P i.size tx x n news w) (qa:VRL Y xs news) (hg:sCap<sLen+n) (hb1:1<=i.bytes) (hb:(sLen+n)*i.bytes<=1073741824)
    {bn:Nat} {mt:wB} (hid:Y bn=ae) (hlt:bn<H.next) (hmt:mt.z=i.size) (fj:H.get bn=aa (.cells (old++xs) mt)):
    ∃v' w' p,(Builtin.append_ #[t,tx] ty #[.slice base sLen sCap,x]).run P w= .ok v' w'/\VR (upd Y bn p) (.slice (aa ⟨bn,0,ae⟩) (sLen+n) (sLen+n+1)) v'/\Sim w0 P (upd Y bn p) H w':=by
 have kx:sLen+n<=(sLen+n)*i.bytes:=Nat.le_mul_of_pos_right _ (by omega)
 have gb:=run_append_grow_src w t tx ty e i z ht hi hz base sLen sCap olds hold x n news hs hg (by omega) (growslice_fits hg (by omega))
 have gi:=grownCap_ge w (sLen+n) sCap e;refine⟨_,_,⟨w.heap.size,0,grownCap w (sLen+n) sCap e*i.size,i.size⟩,gb,.slc bn 0 _ _ _ _ (kV _ _ _) (λe=>by omega) gi (.inl (by simp)),?_⟩
 refine(S.drawn (w.drawn+1)).alloc hid hlt fj ⟨_,e,rfl,λj v hj=>?_,λ_=>?_,by simp[hmt]⟩ rfl rfl
 .obtain⟨u,hu,hr⟩:=(hor.append qa).get hj;refine⟨u,?_,hr⟩;have hjl:j<(olds++news).length:=by
   rcases b8 j (olds++news).length with h'|h'
   .exact h'
   .rw[ed h']at hu;cases hu
  rw[Array.getElem?_append_left (by simpa using hjl)]
  simpa using hu
 .constructor
  .rw[(hor.append qa).1];simp only[aZ,gx,hs.newsLen,<-Nat.add_mul];exact Nat.mul_le_mul_right _ gi
  .simp only[Array.size_append,List.size_toArray,aZ,gx,hs.newsLen,Ep,jk,<-Nat.add_mul];exact Nat.mul_le_mul_right _ (by omega)
def VH{c:Call}{ty:aw}{s s' x x' v:av}{H':St}{bn:Nat}(S:Sim w0 P Y H w)(rs:VR Y s s')(rx:VR Y x x')(hid:Y bn=ae)(hlt:bn<H.next)(h:oO P H bn c s x=aa (v,H')):
    ∃v' w' Y',(Builtin.append_ c.argTypes ty #[s',x']).run P w= .ok v' w'/\VR Y' v v'/\Sim w0 P Y' H' w'/\(∀k p,Y k=aa p->Y' k=aa p)/\(∀k,k≠bn->Y' k=Y k)/\H'.next=H.next:=by
 unfold oO at h;split at h<;>try cases h
 rename_i t t1 fy;have hts':c.argTypes= #[t,t1]:=by
  apply Array.toList_inj.1;rw[fy]
 rw[hts'];split at h<;>try cases h
 rename_i e u hu hu1;cases hk:IM u x with
 |false=>rw[hk]at h;cases h
 |true=>
  rw[hk]at h;simp only[aI]at h;split at h<;>try cases h
  rename_i info hi;split at h<;>try cases h
  rename_i n xs z pg hz;cases hc:(xs.all one&&aq 1 info.size&&aq 1 info.bytes&&ao z.cells.size info.size&&iH s)with
  |false=>rw[hc]at h;cases h
  |true=>
   rw[hc]at h;simp only[aC,CG,dZ,aD]at hc;obtain⟨⟨⟨⟨jf,hz1⟩,hb1⟩,jk⟩,co⟩:=hc;simp only[aI]at h;obtain⟨news,hs,qa⟩:=VI S rx hu1 hk jf pg;rw[dZ,Bool.cond_decide]at h;split at h
   .rename_i hn;subst hn;simp only[aA,aB]at h;obtain⟨rfl,rfl⟩:=h;have hnews:news=[]:=by have:=hs.newsLen;simpa using this
    subst hnews;cases s<;>simp only[iH,im]at co;rename_i a l c';refine⟨s',w,Y,?_,rs,S,λ_ _ h=>h,λ_ _=>rfl,rfl⟩
    have: ∃base len cap,s'= .slice base len cap/\len<=cap:=by
     cases a with
     |none=>obtain⟨rfl,rfl,rfl⟩:=rs.nilslc_inv;exact⟨ae,0,0,rfl,aS _⟩
     |some a=>
      cases rs with
      |same _ h=>simp[bZ]at h
      |slc id off len c cap p h hc hl he=>exact⟨_,_,_,rfl,hl⟩
      |emp a s cap h=>exact⟨_,_,_,rfl,b7 _⟩
    obtain⟨base,len,cap,rfl,hle⟩:=this;exact run_append_nothing w t t1 ty e info hu hi base len cap hle x' hs
   .rename_i hn;unfold nN at h;split at h<;>try cases h
    ·
     obtain⟨rfl,rfl,rfl⟩:=rs.nilslc_inv;rw[CG,Bool.cond_decide]at h;split at h
     .rename_i hb;simp only[aA,aB]at h;obtain⟨rfl,rfl⟩:=h;have S1:Sim w0 P Y (H.put bn (.cells xs (iF info.size bn))) w:=S.put_new hid (λcs m g v e1 e2=>by cases e1;simp only[iF,aA,aB]at e2;omega)
      obtain⟨v',w',p,h1,h2,h3⟩:=Ej (ty:=ty) S1 hu hi hz jk (base:=ae) (sLen:=0) (sCap:=0) (old:=[]) (olds:=[]) (run_firstCells_none _ _ _ _ _) (by simp) .nil hs qa (by omega) hb1 (by simpa using hb) hid hlt (mt:=iF info.size bn) rfl
       (by rw[St.get_put,bJ rfl];rfl)
      refine⟨v',w',_,h1,by simpa using h2,h3,mC p hid,λk hk=>jM hk,rfl⟩
     .cases h
    .rename_i id off len k;obtain⟨p,cap,hp,rfl,pt,hlc,he⟩:=rs.slc_inv;rw[CG,Bool.cond_decide]at h;split at h
     .rename_i hb;split at h<;>try cases h
      rename_i cs m bh;obtain⟨hg,bf⟩:=St.row_some bh;have R:=S.row id p cs m hp hg bf;obtain⟨C,te,fr,hC,hcs,htipC⟩:=R.row;split at h<;>try cases h
      rename_i old wg;obtain⟨rfl,hle⟩:=B4 wg;have hor:=D9 hcs hle;have gx:((C.toList.drop (p.o+off)).take (len*info.size)).length=len*info.size:=by rw[<-hor.1];simp;omega
      have hold:(Builtin.firstCells info.size len (.slice (aa ⟨p.b,p.o+off,ae⟩) len cap)).run P w.drew= .ok ((C.toList.drop (p.o+off)).take (len*info.size)).toArray w.drew:=
       run_firstCells_some _ _ _ _ _ _ _ gx (λj v hj=>by
        rw[kI,El (w:=w.drew) (show w.drew.heap[p.b]?=_ from hC)]
        rw[m6]at hj;split at hj
        .rw[m7]at hj;simpa using hj
        .cases hj)
      rw[dZ,Bool.cond_decide]at h;split at h
      ·
       rename_i hkl;have gi:=pt hkl;simp only[aA,aB]at h;obtain⟨rfl,rfl⟩:=h;have S1:Sim w0 P Y (H.put bn (.cells ((cs.drop off).take (len*info.size)++xs) (iF info.size bn))) w:=S.put_new hid (λcs m g v e1 e2=>by cases e1;simp only[iF,aA,aB]at e2;omega)
       obtain⟨v',w',q,h1,h2,h3⟩:=Ej (ty:=ty) S1 hu hi hz jk hold gx hor hs qa (by omega) hb1 hb hid hlt (mt:=iF info.size bn) rfl (by rw[St.get_put,bJ rfl])
       exact⟨v',w',_,h1,h2,h3,mC q hid,λk hk=>jM hk,rfl⟩
      .cases hc2:(m.tip&&m.wr&&ao m.z info.size&&ao (off+len*info.size) cs.length&&m.grp.isSome)with
       |false=>rw[hc2]at h;cases h
       |true=>
        rw[hc2]at h;simp only[aC,dZ,aD]at hc2;obtain⟨⟨⟨⟨cm,gn⟩,ln⟩,we⟩,qr⟩:=hc2;simp only[aI,aA,aB]at h;obtain⟨rfl,rfl⟩:=h;have gh:(cs.drop off).take (len*info.size)=cs.drop off:=List.take_of_length_le (by simp;omega)
        have vf:p.z=info.size:=R.z.trans ln;by_cases ju:len+n<=cap
        ·
         have hfr:=R.fz gn C te fr hC;subst hfr;have ja:xs.length=n*info.size:=by rw[qa.1];exact hs.newsLen
         have hmul:(len+n)*info.size<=cap*info.size:=Nat.mul_le_mul_right _ ju;rw[Nat.add_mul]at hmul;have htl:=R.tip cm;have he:p.o+off+cap*info.size<=p.e:=by
          rw[vf]at he;rcases he with he|he
          .exact he
          .rw[he]at we⊢;omega
         have kc:p.o+cs.length+xs.length<=p.e:=by rw[ja];omega
         have hCe:=htipC cm;have gb:=aFi (ty:=ty) hu hi hs ju hC (off:=p.o+off) (by rw[hs.newsLen];omega)
         have hpos:p.o+off+len*info.size=p.o+cs.length:=by omega
         rw[hpos]at gb;refine⟨_,_,upd Y bn ⟨p.b,p.o+off,p.e,p.z⟩,gb,?_,?_,mC _ hid,λk hk=>jM hk,rfl⟩
         .exact .slc bn 0 (len+n) (len+n+1) cap _ (kV _ _ _) (λe=>by omega) ju (.inl (by rw[vf];simp;omega))
         .rw[gh];exact S.extend hp hg bf cm gn qr hC (by omega) qa kc hid hlt
        ·
         have bi:bn≠id:=by intro e;subst e;rw[hid]at hp;cases hp
         have S1:Sim w0 P Y ((H.put id (.cells cs {m with tip:=aj})).put bn (.cells ((cs.drop off).take (len*info.size)++xs) {m with lim:=((cs.drop off).take (len*info.size)).length})) w:=
          (S.untip hg).put_new hid (λcq m' g v e1 e2=>by cases e1;exact S.vers id cs m g v hg e2)
         obtain⟨v',w',q,h1,h2,h3⟩:=Ej (ty:=ty) S1 hu hi hz jk hold gx hor hs qa (by omega) hb1 hb hid hlt (mt:={m with lim:=((cs.drop off).take (len*info.size)).length}) ln (by rw[St.get_put,bJ rfl])
         exact⟨v',w',_,h1,h2,h3,mC q hid,λk hk=>jM hk,rfl⟩
     .cases h
    ·
     rename_i b0 o0 s0 len k;cases hb0:(ao s0 1&&aq (n*info.bytes) 1073741824)with
     |false=>rw[hb0]at h;cases h
     |true=>
      rw[hb0]at h;simp only[aC,dZ,CG,aD]at hb0;simp only[aI,aA,aB]at h;obtain⟨rfl,rfl⟩:=h;cases rs with
      |same _ h=>simp[bZ]at h
      |emp a s cap gi=>
       obtain rfl:=gi hb0.1;have S1:Sim w0 P Y (H.put bn (.cells xs (iF info.size bn))) w:=S.put_new hid (λcs m g v e1 e2=>by cases e1;simp only[iF,aA,aB]at e2;omega)
       obtain⟨v',w',p,h1,h2,h3⟩:=Ej (ty:=ty) S1 hu hi hz jk (base:=aa a) (sLen:=0) (sCap:=0) (old:=[]) (olds:=[]) (run_firstCells_some _ _ _ _ _ _ ([]:au av) (by simp) (λj v hj=>by simp at hj)) (by simp) .nil hs qa (by omega) hb1 (by simpa using hb0.2) hid hlt (mt:=iF info.size bn) rfl
        (by rw[St.get_put,bJ rfl];rfl)
       refine⟨v',w',_,h1,by simpa using h2,h3,mC p hid,λk hk=>jM hk,rfl⟩
end
section
variable{w0:W0}{P:az}{Y:Mp}{H:St}{w:ib}
structure AR(Y:Mp)(S:ia)(α:Nat)(a:Act):Prop where
 size:α<=a.tmps.size
 defers:a.defers=[]
 slot: ∀i,VR Y (S.at i) (a.tmps.getD i undef)
def AR.mono{S:ia}{α:Nat}{a:Act}{Y':Mp}(A:AR Y S α a)(h: ∀k p,Y k=aa p->Y' k=aa p):AR Y' S α a:=⟨A.size,A.defers,λi=>(A.slot i).mono' h⟩
def Slots.at_store(S:ia)(d:f9 Tmp)(v:av)(i:Nat):(S.store d v).at i=if d=aa i then v else S.at i:=by
 cases d with
 |none=>simp[Slots.store]
 |some d=>
  simp only[Slots.store,Slots.at,Tr.get_set,aA];by_cases e:i=d
  .subst e;simp
  .rw[bI e,bI (Ne.symm e)]
def FX(a:Act)(d:f9 Tmp)(v:av)(i:Nat)(h: ∀t,d=aa t->t<a.tmps.size):(a.put d v).tmps.getD i undef=if d=aa i then v else a.tmps.getD i undef:=by
 cases d with
 |none=>simp[Act.put]
 |some d=>
  have hd:=h d rfl;simp only[Act.put,aA,iz];by_cases e:d=i
  .subst e;rw[bJ rfl,Array.getElem?_setIfInBounds_self_of_lt hd];rfl
  .rw[bI e,Array.getElem?_setIfInBounds_ne e]
def AR.put{S:ia}{α:Nat}{a:Act}(A:AR Y S α a){d:f9 Tmp}(hd: ∀t,d=aa t->t<α){v v':av}(r:VR Y v v'):AR Y (S.store d v) α (a.put d v'):=by
 refine⟨?_,?_,λi=>?_⟩
 .have:=A.size;cases d<;>simp[Act.put,this]
 .cases d<;>simp[Act.put,A.defers]
 .rw[Slots.at_store,FX _ _ _ _ (λt e=>Nat.lt_of_lt_of_le (hd t e) A.size)]
  split
  .exact r
  .exact A.slot i
def Kb{S:ia}{α:Nat}{a:Act}(A:AR Y S α a)(ρ:Sim w0 P Y H w){x:a8}(h:cM P x=ah):VR Y (ev S x) (a.eval x):=by
 cases x with
 |tmp t=>exact A.slot t
 |const v=>exact .same1 h
 |global g=>
  simp only[cM,iW,aD]at h;obtain⟨p,hp,hb,ho⟩:=ρ.glob g h;have:=VR.ptr (Y:=Y) g 0 p hp;rw[hb,ho]at this;exact this
 |func f=>exact .fn _ _ _ _ _ rfl (λi x u h=>by simp at h) rfl (λi x u h=>by simp at h)
def VR.of_bool{x:av}{b:Bool}(r:VR Y x (.bool b)):x= .bool b:=by cases r;rfl
def Ey{S:ia}{a:Act}(ops:Array ic)(o:ic)(A: ∀j want d,o.guard=aa (j,want)->ops[j]?.bind (·.dst)=aa d->VR Y (S.at d) (a.tmps.getD d undef)):wanted ops S o=Region.wanted o (yielded ops a.tmps):=by
 unfold wanted Region.wanted;cases hg:o.guard with
 |none=>rfl
 |some jw=>
  obtain⟨j,want⟩:=jw;simp only[yielded];cases hd:ops[j]?.bind (·.dst)with
  |none=>simp
  |some d=>
   simp only[aK,aL];have r:=A j want d hg hd;rw[iz]at r;cases ht:a.tmps[d]? with
   |none=>
    rw[ht]at r;simp only[Option.getD_none]at r;cases hs:S.at d<;>first|rfl|skip
    rw[hs]at r;have:=r.bool_inv;cases this
   |some u=>
    rw[ht]at r;simp only[Option.getD_some]at r;cases hs:S.at d with
    |bool b=>rw[hs]at r;rw[r.bool_inv];cases b<;>cases want<;>rfl
    |_=>
     cases u with
     |bool b=>rw[r.of_bool]at hs;cases hs
     |_=>rfl
def aCt{S:ia}{α:Nat}{a:Act}(A:AR Y S α a)(ops:Array ic)(o:ic):wanted ops S o=Region.wanted o (yielded ops a.tmps):=
 Ey ops o (λ_ _ d _ _=>A.slot d)
def iV(w0:W0)(P:az)(call:FuncId->Array av->St->f9 (av×St)):Prop:=
 ∀f args args' H H' w Y r,call f args H=aa (r,H')->Sim w0 P Y H w->VRL Y args.toList args'.toList->
  (∃fn c,P.funcs[f]?=aa fn/\fn.body=aa c/\(fn.name== "runtime.NumGoroutine")=aj)/\
  Calls P f args' w λe w'=> ∃Y' r',e= .returned r'/\VR Y' r r'/\Sim w0 P Y' H' w'/\Ext H.next Y Y'/\H.next<=H'.next
def aKX(w0:W0)(P:az)(Y:Mp)(H H':St)(id:Nat)(a:Act)(o:ic)(v:av)(a':Act)(w':ib):Prop:=
 ∃Y' v',a'=a.put o.dst v'/\VR Y' v v'/\Sim w0 P Y' H' w'/\(∀k p,Y k=aa p->Y' k=aa p)/\(∀k,k<H.next->k≠id->Y' k=Y k)/\H.next<=H'.next
def wF{a:Act}{o:ic}{v':av}{w':ib}{K:Act->ib->Prop}{Q:Exit->Act->ib->Prop}(h:(execOp a.eval o).run P w= .ok (.value v') w')(k:K (a.put o.dst v') w'):o.wp P a w K Q:=by
 unfold Oper.wp;rw[h];exact k
def aEg{a:Act}{o:ic}{w':ib}{K:Act->ib->Prop}{Q:Exit->Act->ib->Prop}(h:(execOp a.eval o).run P w= .ok .skip w')(k:K (a.put o.dst undef) w'):o.wp P a w K Q:=by
 unfold Oper.wp;rw[h];exact k
def aAh{Z:a8->av}{a:Act}{o:ic}{v:av}{Q:Exit->Act->ib->Prop}(id:Nat)(ρ:Sim w0 P Y H w)(hρ: ∀x∈o.op.operands,VR Y (Z x) (a.eval x))(h:mA P H Z o=aa v):
    o.wp P a w (aKX w0 P Y H H id a o v) Q:=by
 obtain⟨v',h1,h2⟩:=aIW ρ hρ h;exact wF h1 ⟨Y,v',rfl,h2,ρ,λ_ _ h=>h,λ_ _ _=>rfl,aS _⟩
def aAB{Z:a8->av}{a:Act}{o:ic}{v:av}{Q:Exit->Act->ib->Prop}(id:Nat)(ρ:Sim w0 P Y H w)(hρ: ∀x∈o.op.operands,VR Y (Z x) (a.eval x))(h:gN P Z o=aa v):
    o.wp P a w (aKX w0 P Y H H id a o v) Q:=by
 obtain⟨v',h1,h2⟩:=Cj (Y:=Y) hρ h;exact wF (gT h1 w) ⟨Y,v',rfl,h2,ρ,λ_ _ h=>h,λ_ _ _=>rfl,aS _⟩
def SB{Z:a8->av}{a:Act}{o:ic}{v:av}{ob:AObj}{id:Nat}{Q:Exit->Act->ib->Prop}(ρ:Sim w0 P Y H w)(hρ: ∀x∈o.op.operands,VR Y (Z x) (a.eval x))
    (hid:Y id=ae) (hlt:id<H.next) (h:gK P Z o id=aa (v,ob)) (fj:H.get id=aa ob):o.wp P a w (aKX w0 P Y H H id a o v) Q:=by
 obtain⟨v',O,p,h1,hb,ho,hN,hv⟩:=Kx (Y:=Y) w hρ h;exact wF h1 ⟨upd Y id p,v',rfl,hv _ (kV _ _ _),ρ.alloc hid hlt fj hN hb ho,mC p hid,λk _ hk=>jM hk,aS _⟩
def GH{Z:a8->av}{o:ic}{id:Nat}{v:av}{ob:AObj}(h:gK P Z o id=aa (v,ob)): ∀cs m g u,ob= .cells cs m->m.grp=aa (g,u)->u<=0:=by
 intro cs m g u e hg;subst e;unfold gK at h;split at h<;>try cases h
 .split at h<;>try cases h
  simp only[cond_eq_ite]at h;split at h<;>cases h;cases hg
 .simp only[cond_eq_ite]at h;split at h<;>cases h;cases hg
 .split at h<;>try cases h
  split at h<;>try cases h
  split at h<;>try cases h
  simp only[cond_eq_ite]at h;split at h<;>try cases h
  rw[aF]at h;obtain⟨_,_,e⟩:=h;cases e;cases hg
 .split at h<;>try cases h
  split at h<;>try cases h
  split at h<;>try cases h
  simp only[cond_eq_ite]at h;split at h<;>try cases h
  split at h<;>cases h
  .cases hg
  .simp only[aA,aB]at hg;omega
def aId{call:FuncId->Array av->St->f9 (av×St)}(hcall:iV w0 P call){S:ia}{a:Act}{o:ic}{v:av}{H':St}{id:Nat}{Q:Exit->Act->ib->Prop}
    (ρ:Sim w0 P Y H w) (hρ: ∀x∈o.op.operands,VR Y (ev S x) (a.eval x)) (hid:Y id=ae) (hlt:id<H.next) (h:yL P call H (ev S) o id=aa (v,H')):
    o.wp P a w (aKX w0 P Y H H' id a o v) Q:=by
 unfold yL at h;cases ho:o.op<;>simp only[ho]at h hρ<;>try cases h
 case store t p x=>
  rw[aF]at h;obtain⟨H1,h,he⟩:=h;cases he;obtain⟨w',h1,h2,h3⟩:=Ks ρ (hρ p (by simp[Op.operands])) (hρ x (by simp[Op.operands])) h
  refine aEg (w':=w') ?_ ⟨Y,undef,rfl,.undef,h2,λ_ _ h=>h,λ_ _ _=>rfl,by omega⟩
  unfold execOp;rw[ho];simp[h1]
 case call c=>
  have hargs:=En (Y:=Y) (Z:=ev S) (Z':=a.eval) c.args.toList (λx hx=>hρ x (jL c x hx))
  split at h
  .rename_i hc;split at h<;>try cases h
   rename_i s x hsx;have jd:c.args= #[s,x]:=by apply Array.toList_inj.1;rw[hsx]
   obtain⟨v',w',Y',h1,h2,h3,h4,h5,h6⟩:=VH (ty:=o.type) ρ (hρ s (jL c s (by rw[hsx];simp))) (hρ x (jL c x (by rw[hsx];simp))) hid hlt h
   refine wF (v':=v') (w':=w') ?_ ⟨Y',v',rfl,h2,h3,h4,λk _ hk=>h5 k hk,by omega⟩
   unfold execOp;rw[ho];simp only[resolve,hc,Sem.run_bind,Sem.run_pure,Result.andThen_ok,invoke,builtin];rw[jd];simp[h1]
  .split at h<;>try cases h
   rename_i g args pu;unfold Cm at pu;split at pu<;>try cases pu
   rename_i f hc;split at pu<;>try cases pu
   rename_i first captured hf
   have jl:=hρ f (by simp[Op.operands,Call.operands,hc])
   rw[hf]at jl;have gt: ∃us vs,a.eval f= .func (.func g) us vs/\VRL Y first.toList us.toList/\VRL Y captured.toList vs.toList:=by
    generalize a.eval f=y at jl;cases jl with
    |same _ h=>simp[bZ]at h
    |fn _ xs ys us vs hl h fe h'=>exact⟨us,vs,rfl,⟨hl,h⟩,⟨fe,h'⟩⟩
   obtain⟨us,vs,hfe,hr1,hr2⟩:=gt;have dj:VRL Y (first++c.args.map (ev S)++captured).toList (us++c.args.map a.eval++vs).toList:=by
    simp only[Array.toList_append,Array.toList_map];exact(hr1.append hargs).append hr2
   obtain⟨⟨fn,code,gt,hbody,lm⟩,hC⟩:=hcall g _ _ H H' w Y v h ρ dj;have gb:(execOp a.eval o).run P w= .ok (.enter g (us++c.args.map a.eval++vs)) w:=by
    unfold execOp;rw[ho];simp only[resolve,hc,hfe,Deferred.ofValue,Sem.run_bind,Sem.run_pure,Result.andThen_ok,invoke,callFunc,run_program,gt,lm,hbody,Option.isNone_some,im,bP]
   unfold Oper.wp;rw[gb,Oper.upon_enter];refine hC.mono λe w' ⟨Y',r',he,hr,hZ,hE,hn⟩=>?_
   subst he;exact⟨Y',r',rfl,hr,hZ,hE.1,λk hk _=>hE.2 k hk,hn⟩
def a5o{call:FuncId->Array av->St->f9 (av×St)}(hcall:iV w0 P call){S:ia}{α:Nat}{a:Act}{o:ic}{v:av}{H':St}{base i:Nat}{Q:Exit->Act->ib->Prop}
    (A:AR Y S α a) (ρ:Sim w0 P Y H w) (dw: ∀x∈o.op.operands,cM P x=ah) (hid:Y (base+i)=ae) (hlt:base+i<H.next) (h:vZ P call base i o S H=aa (v,H')):
    o.wp P a w (aKX w0 P Y H H' (base+i) a o v) Q:=by
 have hρ: ∀x∈o.op.operands,VR Y (ev S x) (a.eval x):=λx hx=>Kb A ρ (dw x hx)
 unfold vZ at h;split at h
 .rw[aF]at h;obtain⟨_,h,e⟩:=h;cases e;unfold oF at h;split at h
  .rename_i v' fh;cases h;exact aAB _ ρ hρ fh
  .split at h<;>try cases h
   rename_i s d x ho;have h1:=aDQ ρ (hρ x (by rw[ho];simp[Op.operands])) h
   have dm: ∃ba,v= .string ba:=by
    unfold vI at h;split at h<;>try cases h
    split at h<;>try cases h
    split at h<;>try cases h
    .split at h<;>try cases h
     split at h<;>try cases h
     rw[aF]at h;obtain⟨ns,_,rfl⟩:=h;exact⟨_,rfl⟩
    .exact⟨_,rfl⟩
   obtain⟨ba,rfl⟩:=dm;refine wF (v':= .string ba) ?_ ⟨Y,_,rfl,.same _ rfl,ρ,λ_ _ h=>h,λ_ _ _=>rfl,aS _⟩
   unfold execOp;rw[ho];simp[h1]
 .rw[aF]at h;obtain⟨_,h,e⟩:=h;cases e;exact aAh _ ρ hρ h
 .rw[aF]at h;obtain⟨⟨v1,ob⟩,h,e⟩:=h;cases e;have Z1:Sim w0 P Y (H.put (base+i) ob) w:=ρ.put_new hid (λcs m g u e1 e2=>by have:=GH h cs m g u e1 e2;omega)
  exact SB Z1 hρ hid hlt h (by rw[St.get_put,bJ rfl])
 .exact aId hcall ρ hρ hid hlt h
def A5{α:Nat}{o:ic}(h:uL P α o=ah): ∀t,o.dst=aa t->t<α:=by
 intro t e;unfold uL at h;simp only[e,iW,aC,aD]at h;exact h.1
def Fv{α:Nat}{o:ic}(h:uL P α o=ah): ∀x∈o.op.operands,cM P x=ah:=by
 intro x hx;unfold uL at h;simp only[aC]at h;have:=h.2;rw[Array.all_eq_true']at this;exact this x hx
def vM(w0:W0)(P:az)(Y:Mp)(n:Nat)(α:Nat)(S':ia)(H':St)(Q:Act->ib->Prop):Prop:=
 ∀a' w' Y',AR Y' S' α a'->Sim w0 P Y' H' w'->Ext n Y Y'->n<=H'.next->Q a' w'
def aCV{call:FuncId->Array av->St->f9 (av×St)}(hcall:iV w0 P call){ops:Array ic}{base α n0:Nat}{Q:Exit->Act->ib->Prop}(hn0:n0<=base)(bw: ∀o∈ops.toList,uL P α o=ah):
    ∀(l:au ic) (i:Nat) (S S':ia) (H H':St) (a:Act) (w:ib) (Y Y0:Mp),(∀j,l[j]?=ops[i+j]?)->i+l.length=ops.size->
      AR Y S α a->Sim w0 P Y H w->Ext n0 Y0 Y->base+ops.size<=H.next->(∀j,i<=j->j<ops.size->Y (base+j)=ae)->
      lF P call ops base l i S H=aa (S',H')->vM w0 P Y0 n0 α S' H' (Q .normal)->wpOps P ops Q (List.range' i l.length) a w:=by
 intro l;induction l with
 |nil=>
  intro i S S' H H' a w Y Y0 hl hlen A ρ E mh ca h dq;simp only[lF,aA,aB]at h;obtain⟨rfl,rfl⟩:=h;exact dq a w Y A ρ E (by omega)
 |cons o l ih=>
  intro i S S' H H' a w Y Y0 hl hlen A ρ E mh ca h dq;have sb:ops[i]?=aa o:=by simpa using (hl 0).symm
  have po:o∈ops.toList:=by
   have:ops.toList[i]?=aa o:=by simpa using sb
   exact List.mem_of_getElem? this
  have mg:=bw o po;simp only[aM]at hlen;have fe: ∀j,l[j]?=ops[i+1+j]?:=λj=>by have:=hl (j+1);rw[show i+1+j=i+(j+1) by omega,<-this];simp
  simp only[aM,List.range'_succ,wpOps,sb];unfold lF at h;rw[aCt A ops o]at h;cases hw:Region.wanted o (yielded ops a.tmps)with
  |false=>
   rw[hw]at h;simp only[aJ]at h;simp only[im,bP];exact ih (i+1) _ S' H H' _ w Y Y0 fe (by omega) (A.put (A5 mg) .undef) ρ E mh (λj hj qo=>ca j (by omega) qo) h dq
  |true=>
   rw[hw]at h;simp only[aI]at h;simp only[bQ];split at h<;>try cases h
   rename_i v H1 qb;refine .inl (Oper.wp_mono (λa' w' hL=>?_) (a5o hcall A ρ (Fv mg) (ca i (aS _) (by omega)) (by omega) qb (Q:=Q)))
   obtain⟨Y',v',rfl,hv,hZ,bv,cf,hnx'⟩:=hL;exact ih (i+1) _ S' H1 H' _ w' Y' Y0 fe (by omega) ((A.mono bv).put (A5 mg) hv) hZ
    ⟨λk p hk=>bv k p (E.1 k p hk),λk hk=>(cf k (by omega) (by omega)).trans (E.2 k hk)⟩ (by omega)
    (λj hj qo=>(cf (base+j) (by omega) (by omega)).trans (ca j (by omega) qo)) h dq
end
mutual
def sQ: ∀(a b:av),gC a b=ah->a=b
 | .bool a,b,h=>by cases b<;>simp[gC]at h;rw[h]
 | .int j a,b,h=>by cases b<;>simp[gC]at h;rw[h.1,h.2]
 | .float j a,b,h=>by cases b<;>simp[gC]at h;rw[h.1,h.2]
 | .complex j a c,b,h=>by cases b<;>simp[gC]at h;rw[h.1.1,h.1.2,h.2]
 | .string a,b,h=>by
  cases b with
  |string b=>
   simp only[gC,beq_iff_eq]at h;cases a;cases b;have:=Array.toList_inj.1 h;simp only at this;rw[this]
  |_=>simp[gC]at h
 | .pointer a,b,h=>by cases b<;>simp[gC]at h;rw[h]
 | .slice a l c,b,h=>by cases b<;>simp[gC]at h;rw[h.1.1,h.1.2,h.2]
 | .map a,b,h=>by cases b<;>simp[gC]at h;rw[h]
 | .chan a,b,h=>by cases b<;>simp[gC]at h;rw[h]
 | .func f ⟨xs⟩ ⟨ys⟩,b,h=>by
  cases b with
  |func g us vs=>
   obtain⟨us⟩:=us;obtain⟨vs⟩:=vs;simp[gC]at h;rw[h.1.1,sR xs us h.1.2,sR ys vs h.2]
  |_=>simp[gC]at h
 | .nilFunc,b,h=>by cases b<;>simp[gC]at h;rfl
 | .iface t v,b,h=>by
  cases b with
  |iface u w=>simp[gC]at h;rw[h.1,sQ v w h.2]
  |_=>simp[gC]at h
 | .nilIface,b,h=>by cases b<;>simp[gC]at h;rfl
 | .agg ⟨xs⟩,b,h=>by
  cases b with
  |agg ys=>obtain⟨ys⟩:=ys;simp[gC]at h;rw[sR xs ys h]
  |_=>simp[gC]at h
 | .tuple ⟨xs⟩,b,h=>by
  cases b with
  |tuple ys=>obtain⟨ys⟩:=ys;simp[gC]at h;rw[sR xs ys h]
  |_=>simp[gC]at h
def sR: ∀(a b:au av),sS a b=ah->a=b
 |[],b,h=>by cases b<;>simp[sS]at h;rfl
 |x::xs,b,h=>by
  cases b with
  |nil=>simp[sS]at h
  |cons y ys=>simp[sS]at h;rw[sQ x y h.1,sR xs ys h.2]
end
def QN{m n:wB}(h:wP m n=ah):m=n:=by
 simp only[wP,dZ,aC,beq_iff_eq,aD]at h;cases m;cases n;simp_all
def QO: ∀(a b:au (av×av)),Bw a b=ah->a=b
 |[],b,h=>by cases b<;>simp[Bw]at h;rfl
 |x::xs,b,h=>by
  cases b with
  |nil=>simp[Bw]at h
  |cons y ys=>
   simp only[Bw,aC]at h;rw[Prod.ext (sQ _ _ h.1.1) (sQ _ _ h.1.2),QO xs ys h.2]
def EQ{a b:AObj}(h:rB a b=ah):a=b:=by
 cases a with
 |cells cs m=>cases b with
  |cells ds n=>simp only[rB,aC]at h;rw[sR _ _ h.1,QN h.2]
  |map _=>simp[rB]at h
 |map es=>cases b with
  |cells _ _=>simp[rB]at h
  |map fs=>rw[QO es fs h]
section
variable{P:az}{call:FuncId->Array av->St->f9 (av×St)}{ops:Array ic}{ms:au Nat}{base:Nat}{S':ia}{H':St}
structure DC where
 i:Nat
 o:ic
 S:ia
 v:av
def HG(P:az)(base:Nat)(H:St)(r:jV):Prop:=
 match r.ob with
 |none=>mA P H (ev r.S) r.o=aa r.v
 |some ob=>H.get (base+r.i)=aa ob
def Sj{H:St}{r:jV}(h:check P base H r=ah):HG P base H r:=by
 unfold check at h;unfold HG;cases hr:r.ob with
 |none=>
  simp only[hr]at h⊢;split at h
  .rename_i v hv;rw[hv,sQ _ _ h]
  .cases h
 |some ob=>
  simp only[hr]at h⊢;split at h
  .rename_i v hv;rw[hv,EQ h]
  .cases h
inductive Cert(P:az)(call:FuncId->Array av->St->Option (av×St))(ops:Array ic)(ms:List Nat)(base:Nat)(S':ia)(H':St):List DC->List St->List Nat->List jV->ia->St->Prop where
 |nil (pend:List jV) (h: ∀p∈pend,HG P base H' p):Cert P call ops ms base S' H' [] [H'] [] pend S' H'
 |skip (r:DC) (rs:List DC) (Cs:List St) (Es:List Nat) (pend:List jV) (H:St) (ho:ops[r.i]?=aa r.o) (hw:wanted ops r.S r.o=aj) (hv:r.v=undef)
      (h:Cert P call ops ms base S' H' rs Cs Es pend (r.S.store r.o.dst r.v) H):Cert P call ops ms base S' H' (r::rs) Cs Es pend r.S H
 |pure (r:DC) (rs:List DC) (Cs:List St) (Es:List Nat) (pend:List jV) (H:St) (ho:ops[r.i]?=aa r.o) (hw:wanted ops r.S r.o=ah) (hk:cY r.o= .pure) (hv:gN P (ev r.S) r.o=aa r.v)
      (h:Cert P call ops ms base S' H' rs Cs Es pend (r.S.store r.o.dst r.v) H):Cert P call ops ms base S' H' (r::rs) Cs Es pend r.S H
 |read (r:DC) (rs:List DC) (Cs:List St) (Es:List Nat) (pend:List jV) (H:St) (ho:ops[r.i]?=aa r.o) (hw:wanted ops r.S r.o=ah) (hk:cY r.o= .read)
      (h:Cert P call ops ms base S' H' rs Cs Es (⟨r.i,r.o,r.S,r.v,ae⟩::pend) (r.S.store r.o.dst r.v) H):Cert P call ops ms base S' H' (r::rs) Cs Es pend r.S H
 |alloc (r:DC) (rs:List DC) (Cs:List St) (Es:List Nat) (pend:List jV) (H:St) (ob:AObj) (ho:ops[r.i]?=aa r.o) (hw:wanted ops r.S r.o=ah) (hk:cY r.o= .alloc) (hv:gK P (ev r.S) r.o (base+r.i)=aa (r.v,ob))
      (h:Cert P call ops ms base S' H' rs Cs Es (⟨r.i,r.o,r.S,r.v,aa ob⟩::pend) (r.S.store r.o.dst r.v) (H.put (base+r.i) ob)):Cert P call ops ms base S' H' (r::rs) Cs Es pend r.S H
 |eff (r:DC) (rs:List DC) (Cs:List St) (Es:List Nat) (pend:List jV) (H H1:St) (ho:ops[r.i]?=aa r.o) (hw:wanted ops r.S r.o=ah) (hk:cY r.o= .eff) (hc: ∀p∈pend,HG P base H p)
      (hv:yL P call H (ev r.S) r.o (base+r.i)=aa (r.v,H1)) (h:Cert P call ops ms base S' H' rs Cs Es (pend.filter λp=> !mP (ms.getD r.i 0) p.i) (r.S.store r.o.dst r.v) H1):
      Cert P call ops ms base S' H' (r::rs) (H::Cs) (r.i::Es) pend r.S H
def Sl: ∀(order:au Nat) (pend:au jV) (S:ia) (H:St),iQ P call ops ms base order pend S H=aa (S',H')->
    ∃rs Cs Es,rs.map (·.i)=order/\Cert P call ops ms base S' H' rs Cs Es pend S H:=by
 intro order;induction order with
 |nil=>
  intro pend S H h;simp only[iQ]at h;cases hc:pend.all (check P base H)with
  |false=>rw[hc]at h;cases h
  |true=>
   rw[hc]at h;simp only[aI,aA,aB]at h;obtain⟨rfl,rfl⟩:=h;exact⟨[],_,[],rfl,.nil pend λp hp=>Sj (bK.1 hc p hp)⟩
 |cons i rest ih=>
  intro pend S H h;simp only[iQ]at h;split at h<;>try cases h
  rename_i o ho;cases hw:wanted ops S o with
  |false=>
   rw[hw]at h;simp only[aJ]at h;obtain⟨rs,Cs,Es,hm,hC⟩:=ih _ _ _ h;exact⟨⟨i,o,S,undef⟩::rs,Cs,Es,by simp[hm],.skip ⟨i,o,S,undef⟩ rs Cs Es pend H ho hw rfl hC⟩
  |true=>
   rw[hw]at h;simp only[aI]at h;split at h
   .rename_i hk;split at h<;>try cases h
    rename_i v hv;obtain⟨rs,Cs,Es,hm,hC⟩:=ih _ _ _ h;exact⟨⟨i,o,S,v⟩::rs,Cs,Es,by simp[hm],.pure ⟨i,o,S,v⟩ rs Cs Es pend H ho hw hk hv hC⟩
   .rename_i hk;split at h<;>try cases h
    rename_i v hv;obtain⟨rs,Cs,Es,hm,hC⟩:=ih _ _ _ h;exact⟨⟨i,o,S,v⟩::rs,Cs,Es,by simp[hm],.read ⟨i,o,S,v⟩ rs Cs Es pend H ho hw hk hC⟩
   .rename_i hk;split at h<;>try cases h
    rename_i v ob hv;obtain⟨rs,Cs,Es,hm,hC⟩:=ih _ _ _ h;exact⟨⟨i,o,S,v⟩::rs,Cs,Es,by simp[hm],.alloc ⟨i,o,S,v⟩ rs Cs Es pend H ob ho hw hk hv hC⟩
   .rename_i hk;cases hc:pend.all (check P base H)with
    |false=>rw[hc]at h;cases h
    |true=>
     rw[hc]at h;simp only[aI]at h;split at h<;>try cases h
     rename_i v H1 hv;obtain⟨rs,Cs,Es,hm,hC⟩:=ih _ _ _ h;exact⟨⟨i,o,S,v⟩::rs,H::Cs,i::Es,by simp[hm],.eff ⟨i,o,S,v⟩ rs Cs Es pend H H1 ho hw hk (λp hp=>Sj (bK.1 hc p hp)) hv hC⟩
def Cert.lens{rs:au DC}{Cs:au St}{Es:au Nat}{pend:au jV}{S:ia}{H:St}(h:Cert P call ops ms base S' H' rs Cs Es pend S H):Cs.length=Es.length+1/\Cs[Es.length]?=aa H':=by
 induction h with
 |nil=>exact⟨rfl,rfl⟩
 |skip=>assumption
 |pure=>assumption
 |read=>assumption
 |alloc=>assumption
 |eff r rs Cs Es pend H H1 ho hw hk hc hv h ih=>exact⟨by simp[ih.1],by simpa using ih.2⟩
def Cert.pending{rs:au DC}{Cs:au St}{Es:au Nat}{pend:au jV}{S:ia}{H:St}(h:Cert P call ops ms base S' H' rs Cs Es pend S H):
    ∀p∈pend,∀(j:Nat) (s:St),Cs[j]?=aa s->(∀(q e:Nat),q<j->Es[q]?=aa e->mP (ms.getD e 0) p.i=aj)->HG P base s p:=by
 induction h with
 |nil pend h=>
  intro p hp j s hj _;cases j with
  |zero=>simp at hj;subst hj;exact h p hp
  |succ j=>simp at hj
 |skip r rs Cs Es pend H ho hw hv h ih=>exact ih
 |pure r rs Cs Es pend H ho hw hk hv h ih=>exact ih
 |read r rs Cs Es pend H ho hw hk h ih=>exact λp hp=>ih p (aG _ hp)
 |alloc r rs Cs Es pend H ob ho hw hk hv h ih=>exact λp hp=>ih p (aG _ hp)
 |eff r rs Cs Es pend H H1 ho hw hk hc hv h ih=>
  intro p hp j s hj hq;cases j with
  |zero=>simp at hj;subst hj;exact hc p hp
  |succ j=>
   have hb:=hq 0 r.i (by omega) (by simp)
   exact ih p (List.mem_filter.2 ⟨hp,by simp only[hb,Bool.not_false]⟩) j s (by simpa using hj) (λq e hqj he=>hq (q+1) e (by omega) (by simpa using he))
variable{w0:W0}
def Cert.first{rs:au DC}{Cs:au St}{Es:au Nat}{pend:au jV}{S:ia}{H:St}(h:Cert P call ops ms base S' H' rs Cs Es pend S H):
    ∃s,Cs[0]?=aa s/\s.next=H.next/\∀(Y:Mp) (w:ib),(∀r∈rs,Y (base+r.i)=ae)->Sim w0 P Y H w->Sim w0 P Y s w:=by
 induction h with
 |nil pend h=>exact⟨_,rfl,rfl,λ_ _ _ h=>h⟩
 |skip r rs Cs Es pend H ho hw hv h ih=>obtain⟨s,h1,h2,h3⟩:=ih;exact⟨s,h1,h2,λY w hn hS=>h3 Y w (λr hr=>hn r (aG _ hr)) hS⟩
 |pure r rs Cs Es pend H ho hw hk hv h ih=>obtain⟨s,h1,h2,h3⟩:=ih;exact⟨s,h1,h2,λY w hn hS=>h3 Y w (λr hr=>hn r (aG _ hr)) hS⟩
 |read r rs Cs Es pend H ho hw hk h ih=>obtain⟨s,h1,h2,h3⟩:=ih;exact⟨s,h1,h2,λY w hn hS=>h3 Y w (λr hr=>hn r (aG _ hr)) hS⟩
 |alloc r rs Cs Es pend H ob ho hw hk hv h ih=>
  obtain⟨s,h1,h2,h3⟩:=ih;exact⟨s,h1,h2,λY w hn hS=>h3 Y w (λr hr=>hn r (aG _ hr)) (hS.put_new (hn r (by simp)) (λcs m g u e1 e2=>by have:=GH hv cs m g u e1 e2;omega))⟩
 |eff r rs Cs Es pend H H1 ho hw hk hc hv h ih=>exact⟨H,rfl,rfl,λ_ _ _ h=>h⟩
def Cert.at_eff{rs:au DC}{Cs:au St}{Es:au Nat}{pend:au jV}{S:ia}{H:St}(h:Cert P call ops ms base S' H' rs Cs Es pend S H){q e:Nat}(he:Es[q]?=aa e):
    e<ops.size/\∃r∈rs,r.i=e/\ops[e]?=aa r.o/\cY r.o= .eff/\wanted ops r.S r.o=ah:=by
 induction h generalizing q with
 |nil=>simp at he
 |skip r rs Cs Es pend H ho hw hv h ih=>obtain⟨h1,r',h2,h3⟩:=ih he;exact⟨h1,r',aG _ h2,h3⟩
 |pure r rs Cs Es pend H ho hw hk hv h ih=>obtain⟨h1,r',h2,h3⟩:=ih he;exact⟨h1,r',aG _ h2,h3⟩
 |read r rs Cs Es pend H ho hw hk h ih=>obtain⟨h1,r',h2,h3⟩:=ih he;exact⟨h1,r',aG _ h2,h3⟩
 |alloc r rs Cs Es pend H ob ho hw hk hv h ih=>obtain⟨h1,r',h2,h3⟩:=ih he;exact⟨h1,r',aG _ h2,h3⟩
 |eff r rs Cs Es pend H H1 ho hw hk hc hv h ih=>
  cases q with
  |zero=>simp at he;subst he;exact⟨(oq.1 ho).1,r,by simp,rfl,ho,hk,hw⟩
  |succ q=>obtain⟨h1,r',h2,h3⟩:=ih (q:=q) (by simpa using he);exact⟨h1,r',aG _ h2,h3⟩
def Cert.effs_nodup{rs:au DC}{Cs:au St}{Es:au Nat}{pend:au jV}{S:ia}{H:St}(h:Cert P call ops ms base S' H' rs Cs Es pend S H)(hn:(rs.map (·.i)).Nodup):Es.Nodup:=by
 induction h with
 |nil=>exact List.nodup_nil
 |skip r rs Cs Es pend H ho hw hv h ih=>exact ih (List.nodup_cons.1 hn).2
 |pure r rs Cs Es pend H ho hw hk hv h ih=>exact ih (List.nodup_cons.1 hn).2
 |read r rs Cs Es pend H ho hw hk h ih=>exact ih (List.nodup_cons.1 hn).2
 |alloc r rs Cs Es pend H ob ho hw hk hv h ih=>exact ih (List.nodup_cons.1 hn).2
 |eff r rs Cs Es pend H H1 ho hw hk hc hv h ih=>
  have mi:=List.nodup_cons.1 hn;refine List.nodup_cons.2 ⟨λhm=>mi.1 ?_,ih mi.2⟩
  obtain⟨q,hq⟩:=List.getElem?_of_mem hm;obtain⟨_,r',h2,h3,_⟩:=h.at_eff hq;exact ix.2 ⟨r',h2,h3⟩
def FD{N:Type}: ∀(l:au N),(∀l1 i l2,l=l1++i::l2->i∉l1)->l.Nodup:=by
 intro l;induction l with
 |nil=>intro _;exact List.nodup_nil
 |cons a t ih=>
  intro h;refine List.nodup_cons.2 ⟨λhm=>?_,ih λl1 i l2 e=>λhi=>h (a::l1) i l2 (by rw[e];rfl) (aG _ hi)⟩
  obtain⟨m1,m2,e⟩:=List.append_of_mem hm;exact h (a::m1) a m2 (by rw[e];rfl) (by simp)
def jA(w0:W0)(P:az)(call:FuncId->Array av->St->f9 (av×St))(ops:Array ic)(ms:au Nat)(base:Nat)(Cs:au St)(Es:au Nat)(later:au DC)(r:DC)(je:Nat):Prop:=
 (wanted ops r.S r.o=aj/\r.v=undef)∨
 (wanted ops r.S r.o=ah/\cY r.o= .pure/\gN P (ev r.S) r.o=aa r.v)∨
 (wanted ops r.S r.o=ah/\cY r.o= .read/\∀(j:Nat) (s:St),je<=j->Cs[j]?=aa s->(∀(q e:Nat),je<=q->q<j->Es[q]?=aa e->mP (ms.getD e 0) r.i=aj)->mA P s (ev r.S) r.o=aa r.v)∨
 (wanted ops r.S r.o=ah/\cY r.o= .alloc/\∃ob,gK P (ev r.S) r.o (base+r.i)=aa (r.v,ob)/\
  ∀(j:Nat) (s:St),je<=j->Cs[j]?=aa s->(∀(q e:Nat),je<=q->q<j->Es[q]?=aa e->mP (ms.getD e 0) r.i=aj)->s.get (base+r.i)=aa ob)∨
 (wanted ops r.S r.o=ah/\cY r.o= .eff/\Es[je]?=aa r.i/\∃s H1 s',Cs[je]?=aa s/\yL P call s (ev r.S) r.o (base+r.i)=aa (r.v,H1)/\Cs[je+1]?=aa s'/\s'.next=H1.next/\
  ∀(Y:Mp) (w:ib),(∀r∈later,Y (base+r.i)=ae)->Sim w0 P Y H1 w->Sim w0 P Y s' w)
def Cert.at: ∀(l1:au DC) (r:DC) (l2:au DC) (Cs:au St) (Es:au Nat) (pend:au jV) (S:ia) (H:St),Cert P call ops ms base S' H' (l1++r::l2) Cs Es pend S H->
    ops[r.i]?=aa r.o/\∃je,je<=Es.length/\(∀q e,q<je->Es[q]?=aa e->∃r'∈l1,r'.i=e/\lW r'.o=ah/\ops[r'.i]?=aa r'.o)/\jA w0 P call ops ms base Cs Es l2 r je:=by
 intro l1;induction l1 with
 |nil=>
  intro r l2 Cs Es pend S H h;simp only[aW]at h;cases h with
  |skip _ _ _ _ _ _ ho hw hv h=>exact⟨ho,0,b7 _,λq e hq=>by omega,.inl ⟨hw,hv⟩⟩
  |pure _ _ _ _ _ _ ho hw hk hv h=>exact⟨ho,0,b7 _,λq e hq=>by omega,.inr (.inl ⟨hw,hk,hv⟩)⟩
  |read _ _ _ _ _ _ ho hw hk h=>
   refine⟨ho,0,b7 _,λq e hq=>by omega,.inr (.inr (.inl ⟨hw,hk,λj s _ hj hq=>?_⟩))⟩
   exact h.pending _ (aH) j s hj (λq e hqj he=>hq q e (by omega) hqj he)
  |alloc _ _ _ _ _ _ ob ho hw hk hv h=>
   refine⟨ho,0,b7 _,λq e hq=>by omega,.inr (.inr (.inr (.inl ⟨hw,hk,ob,hv,λj s _ hj hq=>?_⟩)))⟩
   exact h.pending _ (aH) j s hj (λq e hqj he=>hq q e (by omega) hqj he)
  |eff _ _ Cs' Es' _ _ H1 ho hw hk hc hv h=>
   obtain⟨s',h1,h2,h3⟩:=h.first (w0:=w0)
   exact⟨ho,0,b7 _,λq e hq=>by omega,.inr (.inr (.inr (.inr ⟨hw,hk,rfl,H,H1,s',rfl,hv,by simpa using h1,h2,h3⟩)))⟩
 |cons r0 l1 ih=>
  intro r l2 Cs Es pend S H h;simp only[aY]at h;have lift: ∀{Cs Es pend S H},Cert P call ops ms base S' H' (l1++r::l2) Cs Es pend S H->ops[r.i]?=aa r.o/\∃je,je<=Es.length/\(∀q e,q<je->Es[q]?=aa e->∃r'∈r0::l1,r'.i=e/\lW r'.o=ah/\ops[r'.i]?=aa r'.o)/\jA w0 P call ops ms base Cs Es l2 r je:=by
   intro Cs Es pend S H h;obtain⟨h1,je,h0,h2,h3⟩:=ih r l2 Cs Es pend S H h;exact⟨h1,je,h0,λq e hq he=>let ⟨r',bz,hh⟩:=h2 q e hq he;⟨r',aG _ bz,hh⟩,h3⟩
  cases h with
  |skip _ _ _ _ _ _ ho hw hv h=>exact lift h
  |pure _ _ _ _ _ _ ho hw hk hv h=>exact lift h
  |read _ _ _ _ _ _ ho hw hk h=>exact lift h
  |alloc _ _ _ _ _ _ ob ho hw hk hv h=>exact lift h
  |eff _ _ Cs' Es' _ _ H1 ho hw hk hc hv h=>
   obtain⟨h1,je,h0,h2,h3⟩:=ih r l2 Cs' Es' _ _ _ h;refine⟨h1,je+1,by simp;omega,λq e hq he=>?_,?_⟩
   .cases q with
    |zero=>simp at he;subst he;exact⟨r0,by simp,rfl,by simp[lW,hk],ho⟩
    |succ q=>obtain⟨r',bz,hh⟩:=h2 q e (by omega) (by simpa using he);exact⟨r',aG _ bz,hh⟩
   .rcases h3 with h3|h3|⟨a,b,c⟩|⟨a,b,ob,c,d⟩|⟨a,b,c,s,H2,s',d⟩
    .exact .inl h3
    .exact .inr (.inl h3)
    .refine .inr (.inr (.inl ⟨a,b,λj s hj hs hq=>?_⟩))
     cases j with
     |zero=>omega
     |succ j=>exact c j s (by omega) (by simpa using hs) (λq e h1 h2 he=>hq (q+1) e (by omega) (by omega) (by simpa using he))
    .refine .inr (.inr (.inr (.inl ⟨a,b,ob,c,λj s hj hs hq=>?_⟩)))
     cases j with
     |zero=>omega
     |succ j=>exact d j s (by omega) (by simpa using hs) (λq e h1 h2 he=>hq (q+1) e (by omega) (by omega) (by simpa using he))
    .exact .inr (.inr (.inr (.inr ⟨a,b,by simpa using c,s,H2,s',by simpa using d⟩)))
def Cert.slots: ∀(l1:au DC) (l2:au DC) (Cs:au St) (Es:au Nat) (pend:au jV) (S:ia) (H:St) (T:ia),Cert P call ops ms base S' H' (l1++l2) Cs Es pend S H->
    (∀r l3,l2=r::l3->r.S=T)->(l2=[]->S'=T)->∀x,((∀r∈l1,r.o.dst≠aa x)->T.at x=S.at x)/\
      (∀p1 r p2,l1=p1++r::p2->r.o.dst=aa x->(∀r'∈p2,r'.o.dst≠aa x)->T.at x=r.v):=by
 intro l1;induction l1 with
 |nil=>
  intro l2 Cs Es pend S H T h hT hT' x;simp only[aW]at h;have:T=S:=by
   cases l2 with
   |nil=>rw[<-hT' rfl];cases h;rfl
   |cons r l3=>rw[<-hT r l3 rfl];cases h<;>rfl
  subst this;exact⟨λ_=>rfl,λp1 r p2 e=>by simp at e⟩
 |cons r0 l1 ih=>
  intro l2 Cs Es pend S H T h hT hT' x;simp only[aY]at h;have main: ∀{Cs Es pend H},Cert P call ops ms base S' H' (l1++l2) Cs Es pend (S.store r0.o.dst r0.v) H->((∀r∈r0::l1,r.o.dst≠aa x)->T.at x=S.at x)/\
   (∀p1 r p2,r0::l1=p1++r::p2->r.o.dst=aa x->(∀r'∈p2,r'.o.dst≠aa x)->T.at x=r.v):=by
   intro Cs Es pend H h;obtain⟨h1,h2⟩:=ih l2 Cs Es pend _ H T h hT hT' x;refine⟨λhn=>?_,λp1 r p2 e hd hn=>?_⟩
   .rw[h1 (λr hr=>hn r (aG _ hr)),Slots.at_store,bI (hn r0 (by simp))]
   .cases p1 with
    |nil=>
     simp only[aW,List.cons.injEq]at e;obtain⟨rfl,rfl⟩:=e;rw[h1 hn,Slots.at_store,bJ hd]
    |cons p p1=>
     simp only[aY,List.cons.injEq]at e;exact h2 p1 r p2 e.2 hd hn
  cases h with
  |skip _ _ _ _ _ _ ho hw hv h=>exact main h
  |pure _ _ _ _ _ _ ho hw hk hv h=>exact main h
  |read _ _ _ _ _ _ ho hw hk h=>exact main h
  |alloc _ _ _ _ _ _ ob ho hw hk hv h=>exact main h
  |eff _ _ Cs' Es' _ _ H1 ho hw hk hc hv h=>exact main h
def a47(a b i:Nat):mP (a|||b) i=(mP a i||mP b i):=by
 have h: ∀m,mP m i=m.testBit i:=by
  intro m;unfold mP;rw[dZ,Nat.testBit_eq_decide_div_mod_eq,Nat.shiftRight_eq_div_pow]
 rw[h,h,h,Nat.testBit_or]
def aDC(j i:Nat):mP (1<<<j) i=ak (i=j):=by
 unfold mP;have:(1<<<j>>>i)%2=if i=j then 1 else 0:=by
  have h:=Nat.testBit_eq_decide_div_mod_eq (x:=1<<<j) (i:=i);rw[<-Nat.shiftRight_eq_div_pow]at h;have h2:(1<<<j).testBit i=ak (i=j):=by
   rw[Nat.one_shiftLeft,Nat.testBit_two_pow];by_cases e:j=i
   .subst e;simp
   .simp[e,Ne.symm e]
  rw[h2]at h;by_cases e:i=j
  .rw[bJ e];simp only[e,bN]at h;have:=bL h.symm;rw[e];exact this
  .rw[bI e];simp only[e,decide_false]at h;have:=bM h.symm;omega
 rw[this,dZ];by_cases e:i=j<;>simp[e]
def Sx(i:Nat):mP 0 i=aj:=by simp[mP,dZ]
def RC(ps:au Nat)(o:ic)(j:Nat)(h:mP (uU ps o) j=ah): ∃e∈o.after,Region.binds .any e=ah/\(e.on=j∨(e.on<ps.length/\mP (ps.getD e.on 0) j=ah)):=by
 unfold uU at h;have main: ∀(l:au Edge) (m:Nat),mP (l.foldl (λm e=>bif Region.binds .any e then(m|||(1<<<e.on))|||ps.getD e.on 0 else m) m) j=ah->mP m j=ah∨∃e∈l,Region.binds .any e=ah/\(e.on=j∨(e.on<ps.length/\mP (ps.getD e.on 0) j=ah)):=by
  intro l;induction l with
  |nil=>intro m h;exact .inl h
  |cons e l ih=>
   intro m h;simp only[List.foldl_cons]at h;rcases ih _ h with h|⟨e',gf,h⟩
   .cases hb:Region.binds .any e with
    |false=>rw[hb]at h;exact .inl h
    |true=>
     rw[hb]at h;simp only[aI,a47,aDC,d7,aD]at h;rcases h with(h|h)|h
     .exact .inl h
     .exact .inr ⟨e,by simp,hb,.inl h.symm⟩
     .refine .inr ⟨e,by simp,hb,.inr ⟨?_,h⟩⟩
      rcases b8 e.on ps.length with hl|hl
      .exact hl
      .rw[List.getD_eq_getElem?_getD,ed hl]at h;simp[Sx]at h
   .exact .inr ⟨e',aG _ gf,h⟩
 rcases main _ _ h with h|⟨e,he,h⟩
 .rw[Sx]at h;cases h
 .exact⟨e,Array.mem_toList_iff.1 he,h⟩
def aDe: ∀(l:au ic) (ps:au Nat) (i:Nat),(∀(h:i<ps.length),(iE l ps).getD i 0=ps.getD i 0)/\(∀(k:Nat) (o:ic),i=ps.length+k->l[k]?=aa o->∃qs,(iE l ps).getD i 0=uU qs o/\qs.length=i/\∀j,j<i->qs.getD j 0=(iE l ps).getD j 0):=by
 intro l;induction l with
 |nil=>intro ps i;exact⟨λ_=>rfl,λk o _ h=>by simp at h⟩
 |cons o l ih=>
  intro ps i;simp only[iE];have hpre: ∀j,j<ps.length->(ps++ [uU ps o]).getD j 0=ps.getD j 0:=λj hj=>by
   simp only[List.getD_eq_getElem?_getD,List.getElem?_append_left hj]
  refine⟨λh=>?_,λk o' hi hk=>?_⟩
  .rw[(ih (ps++ [uU ps o]) i).1 (by simp;omega),hpre i h]
  .cases k with
   |zero=>
    simp only[aU,aA]at hk;subst hk;refine⟨ps,?_,by omega,λj hj=>?_⟩
    .rw[(ih (ps++ [uU ps o]) i).1 (by simp;omega)]
     simp[List.getD_eq_getElem?_getD,hi]
    .rw[(ih (ps++ [uU ps o]) j).1 (by simp;omega),hpre j (by omega)]
   |succ k=>exact(ih (ps++ [uU ps o]) i).2 k o' (by simp;omega) (by simpa using hk)
structure HD(ops:Array ic)(ms:List Nat)(order:List Nat):Prop where
 edge: ∃rk:Nat->Nat,∀i o e,ops[i]?=aa o->e∈o.after->Region.binds .any e=ah->rk e.on<rk i/\e.on<ops.size
 mask: ∀i o j,ops[i]?=aa o->mP (ms.getD i 0) j=ah->∃e∈o.after,Region.binds .any e=ah/\(e.on=j∨(e.on<i/\mP (ms.getD e.on 0) j=ah))
 guard: ∀i o j b,ops[i]?=aa o->o.guard=aa (j,b)->mP (ms.getD i 0) j=ah/\j<ops.size
 haz: ∀(i j:Nat) (o o':ic) (d:Tmp),i≠j->ops[i]?=aa o->ops[j]?=aa o'->o'.dst=aa d->d∈o.looksAt ops->mP (ms.getD i 0) j=ah∨mP (ms.getD j 0) i=ah
 dsts: ∀(i j:Nat) (o o':ic) (d:Tmp),i≠j->ops[i]?=aa o->ops[j]?=aa o'->o.dst=aa d->o'.dst=aa d->False
 split: ∀l1 i l2,order=l1++i::l2->i<ops.size/\i∉l1/\(∀j,j<ops.size->mP (ms.getD i 0) j=ah->j∈l1)/\(∀e o,e∈l1->ops[e]?=aa o->lW o=ah->mP (ms.getD i 0) e=ah)
 all: ∀i,i<ops.size->i∈order
def aCF: ∀(order done:au Nat),QC ops ms order done=ah->
    (∀l1 i l2,order=l1++i::l2->i<ops.size/\i∉l1/\i∉done/\(∀j,j<ops.size->mP (ms.getD i 0) j=ah->j∈l1∨j∈done)/\(∀e o,(e∈l1∨e∈done)->ops[e]?=aa o->lW o=ah->mP (ms.getD i 0) e=ah))/\
    (∀i,i<ops.size->i∈order∨i∈done):=by
 intro order;induction order with
 |nil=>
  intro done h;simp only[QC,bK,List.mem_range,List.contains_iff_mem]at h;exact⟨λl1 i l2 e=>by simp at e,λi hi=> .inr (h i hi)⟩
 |cons a rest ih=>
  intro done h;simp only[QC,aC,iW,aD,bK,List.mem_range,d7,io,List.contains_iff_mem]at h;obtain⟨⟨⟨⟨h1,h2⟩,h3⟩,h4⟩,h5⟩:=h;obtain⟨g1,g2⟩:=ih _ h5;have gp:a∉done:=by intro hm;rw[List.contains_iff_mem.2 hm]at h2;cases h2
  refine⟨λl1 i l2 e=>?_,λi hi=>?_⟩
  .cases l1 with
   |nil=>
    simp only[aW,List.cons.injEq]at e;obtain⟨rfl,rfl⟩:=e;refine⟨h1,by simp,gp,λj hj hb=>?_,λe o he ho hef=>?_⟩
    .rcases h3 j hj with hh|hh
     .rw[hb]at hh;cases hh
     .exact .inr hh
    .rcases he with he|he
     .cases he
     .rcases h4 e he with hh|hh
      .simp[aTB,ho,hef]at hh
      .exact hh
   |cons b l1=>
    simp only[aY,List.cons.injEq]at e;obtain⟨rfl,e⟩:=e;obtain⟨k1,k2,k3,k4,k5⟩:=g1 l1 i l2 e;simp only[ik,not_or]at k3;refine⟨k1,by simp only[ik,not_or];exact⟨k3.1,k2⟩,k3.2,λj hj hb=>?_,λe o he=>k5 e o ?_⟩
    .rcases k4 j hj hb with h|h
     .exact .inl (aG _ h)
     .rcases ik.1 h with h|h
      .exact .inl (by simp[h])
      .exact .inr h
    .rcases he with he|he
     .rcases ik.1 he with h|h
      .exact .inr (by simp[h])
      .exact .inl h
     .exact .inr (aG _ he)
  .rcases g2 i hi with h|h
   .exact .inl (aG _ h)
   .rcases ik.1 h with h|h
    .exact .inl (by simp[h])
    .exact .inr h
def aPN{rk:Nat->Nat}{order:au Nat}(h:Ee rk ops order=ah):HD ops (iE ops.toList []) order:=by
 unfold Ee at h;simp only[aC,bK]at h;obtain⟨ht,hl⟩:=h;obtain⟨t1,t2⟩:=aCF _ _ ht;have mem: ∀{i o},ops[i]?=aa o->(o,i)∈ops.toList.zipIdx:=by
  intro i o ho;rw[List.mem_zipIdx_iff_getElem?];simpa using ho
 refine⟨?_,?_,?_,?_,?_,?_,?_⟩
 .refine⟨rk,?_⟩;intro i o e ho he hb;have:=(hl _ (mem ho)).1.1;have:=this e (Array.mem_toList_iff.2 he);simp only[hb,bE,n9,iW,aC,aD]at this;exact this
 .intro i o j ho hb;have hlo:ops.toList[i]?=aa o:=by simpa using ho
  obtain⟨qs,h1,h2,h3⟩:=(aDe ops.toList [] i).2 i o (by simp) hlo
  rw[h1]at hb;obtain⟨e,he,lz,hor⟩:=RC qs o j hb;refine⟨e,he,lz,hor.imp id λ⟨hlt,qv⟩=>⟨by omega,?_⟩⟩
  rw[h3 e.on (by omega)]at qv;exact qv
 .intro i o j b ho hg;have:=(hl _ (mem ho)).1.2;simp only[hg,aC,iW,aD]at this;exact this
 .intro i j o o' d bp ho gk hd lp;have:=(hl _ (mem ho)).2 _ (mem gk);simp only[L9,dZ,bp,decide_false,n9,hd,aC,d7]at this;rcases this.1 with(h|h)|h
  .exact .inl h
  .exact .inr h
  .rw[List.contains_iff_mem.2 lp]at h;cases h
 .intro i j o o' d bp ho gk hd kz;have:=(hl _ (mem ho)).2 _ (mem gk);simp only[L9,dZ,bp,decide_false,n9,hd,kz,aC,bN,bE]at this;exact absurd this.2 (by simp)
 .intro l1 i l2 e;obtain⟨h1,h2,h3,h4,h5⟩:=t1 l1 i l2 e;exact⟨h1,h2,λj hj hb=>(h4 j hj hb).resolve_right (by simp),λe o he=>h5 e o (.inl he)⟩
 .intro i hi;exact(t2 i hi).resolve_right (by simp)
def aGH(h:Fw ops=ah):Ee (λi=>i) ops (AF ops (iE ops.toList []))=ah:=by
 unfold Fw at h;unfold Ee;simp only[aC,bK]at h⊢;obtain⟨ht,hl⟩:=h;refine⟨ht,λx hx=>?_⟩
 obtain⟨⟨h1,h2⟩,h3⟩:=hl x hx;refine⟨⟨λe he=>?_,h2⟩,h3⟩
 have h4:=h1 e he;cases hb:Region.binds .any e with
 |false=>rfl
 |true=>
  rw[hb]at h4;simp only[bE,n9,iW,aD,aC]at h4⊢;have lg:ops.toList[x.2]?=aa x.1:=by
   have:=List.mem_zipIdx_iff_getElem?.1 (show(x.1,x.2)∈ops.toList.zipIdx from hx)
   exact this
  have hi:=(List.getElem?_eq_some_iff.1 lg).1;exact⟨h4,by have:ops.toList.length=ops.size:=Array.length_toList;omega⟩
def a4v(h:Fw ops=ah):HD ops (iE ops.toList []) (AF ops (iE ops.toList [])):=aPN (aGH h)
structure KG(w0:W0)(P:az)(ops:Array ic)(base α n0:Nat)(S0:ia)(rs:List DC)(Cs:List St)(Es:List Nat)(Y0:Mp)(listed:Array Bool)(a:Act)(w:ib)(Y:Mp)(k:Nat)(s:St):Prop where
 size:listed.size=ops.size
 closed: ∀(i:Nat) (o:ic) (e:Edge),ops[i]?=aa o->listed.getD i aj=ah->e∈o.after->Region.binds .any e=ah->listed.getD e.on aj=ah
 count: ∀(q e:Nat),Es[q]?=aa e->(listed.getD e aj=ah↔q<k)
 state:Cs[k]?=aa s
 sim:Sim w0 P Y s w
 next:base+ops.size<=s.next
 none: ∀i,i<ops.size->listed.getD i aj=aj->Y (base+i)=ae
 ext:Ext n0 Y0 Y
 tsize:α<=a.tmps.size
 defers:a.defers=[]
 here: ∀r∈rs,listed.getD r.i aj=ah->∀x,r.o.dst=aa x->VR Y r.v (a.tmps.getD x undef)
 there: ∀x,(∀r∈rs,listed.getD r.i aj=ah->r.o.dst≠aa x)->VR Y (S0.at x) (a.tmps.getD x undef)
def dB(listed:Array Bool)(i j:Nat)(h:i<listed.size):(listed.setIfInBounds i ah).getD j aj=if j=i then ah else listed.getD j aj:=by
 by_cases e:j=i
 .subst e;rw[bJ rfl];simp[iz,h]
 .rw[bI e,getD_set_ne aj (Ne.symm e)]
def rE{order:au Nat}(D:HD ops ms order){listed:Array Bool}
    (closed: ∀(i:Nat) (o:ic) (e:Edge),ops[i]?=aa o->listed.getD i aj=ah->e∈o.after->Region.binds .any e=ah->listed.getD e.on aj=ah):
    ∀(i j:Nat) (o:ic),ops[i]?=aa o->(∀e∈o.after,Region.binds .any e=ah->listed.getD e.on aj=ah)->mP (ms.getD i 0) j=ah->listed.getD j aj=ah:=by
 intro i;induction i using Nat.strongRecOn with
 |_ i ih=>
  intro j o ho dj hb;obtain⟨e,he,lz,hor⟩:=D.mask i o j ho hb;have hl:=dj e he lz;rcases hor with rfl|⟨hlt,qv⟩
  .exact hl
  .have hio:i<ops.size:=(oq.1 ho).1;have hoe:ops[e.on]?=aa (ops[e.on]'(by omega)):=m5 _
   exact ih e.on hlt j _ hoe (λe' gf bm=>closed e.on _ e' hoe hl gf bm) qv
def lK{listed:Array Bool}{i:Nat}(h:listed.getD i ah=aj):listed.getD i aj=aj/\i<listed.size:=by
 rw[iz]at h⊢;cases hc:listed[i]? with
 |none=>simp[hc]at h
 |some b=>simp[hc]at h⊢;exact⟨h,(oq.1 hc).1⟩
def aWw(listed:Array Bool):Nat:=(listed.toList.filter λb=> !b).length
def YX{listed:Array Bool}{i:Nat}(h:listed.getD i ah=aj):aWw (listed.setIfInBounds i ah)+1=aWw listed:=by
 obtain⟨_,hi⟩:=lK h;have hv:listed[i]=aj:=by rw[iz,m5 hi]at h;simpa using h
 unfold aWw;rw[Array.toList_setIfInBounds];have main: ∀(l:au Bool) (i:Nat) (hi:i<l.length),l[i]=aj->((l.set i ah).filter λb=> !b).length+1=(l.filter λb=> !b).length:=by
  intro l;induction l with
  |nil=>intro i hi;simp at hi
  |cons b l ih=>
   intro i hi hv;cases i with
   |zero=>simp at hv;subst hv;simp
   |succ i=>
    have:=ih i (by simpa using hi) (by simpa using hv)
    cases b<;>simp[List.filter_cons]<;>omega
 exact main listed.toList i (by simpa using hi) (by simpa using hv)
def fU{N:Type}{l:au N}{x:N}(h:x∈l): ∃l1 l2,l=l1++x::l2:=List.append_of_mem h
def UG(hcall:iV w0 P call){order:au Nat}(D:HD ops ms order){α n0:Nat}(bw: ∀o∈ops.toList,uL P α o=ah){rs:au DC}{Cs:au St}{Es:au Nat}{S0:ia}{H0:St}{Y0:Mp}(hn0:n0<=base)
    (C:Cert P call ops ms base S' H' rs Cs Es [] S0 H0) (pi:rs.map (·.i)=order) {Q:Exit->Act->ib->Prop} (dq:vM w0 P Y0 n0 α S' H' (Q .normal)):
    (∀(listed:Array Bool) (a:Act) (w:ib) (Y:Mp) (k:Nat) (s:St),KG w0 P ops base α n0 S0 rs Cs Es Y0 listed a w Y k s->(∀i,i<ops.size->listed.getD i aj=ah)->Q .normal a w)/\
    ∀(listed:Array Bool) (a:Act) (w:ib) (Y:Mp) (k:Nat) (s:St),KG w0 P ops base α n0 S0 rs Cs Es Y0 listed a w Y k s->∀i∈Region.ready .any ops listed,
      wpOp P ops Q i (λa' w'=> ∃Y' k' s',KG w0 P ops base α n0 S0 rs Cs Es Y0 (listed.setIfInBounds i ah) a' w' Y' k' s') a w:=by
 have hrec: ∀i,i<ops.size->∃l1 r l2,rs=l1++r::l2/\r.i=i:=by
  intro i hi;have:=D.all i hi;rw[<-pi]at this;obtain⟨r,hr,rfl⟩:=ix.1 this;obtain⟨l1,l2,e⟩:=fU hr;exact⟨l1,r,l2,e,rfl⟩
 have js: ∀{l1 r l2},rs=l1++r::l2->r.i<ops.size/\(∀r'∈l1,r'.i≠r.i)/\(∀j,j<ops.size->mP (ms.getD r.i 0) j=ah->∃r'∈l1,r'.i=j)/\(∀r' o,r'∈l1->ops[r'.i]?=aa o->lW o=ah->mP (ms.getD r.i 0) r'.i=ah):=by
  intro l1 r l2 e;obtain⟨h1,h2,h3,h4⟩:=D.split (l1.map (·.i)) r.i (l2.map (·.i)) (by rw[<-pi,e];simp)
  refine⟨h1,λr' bz e'=>h2 (ix.2 ⟨r',bz,e'⟩),λj hj hb=>?_,λr' o bz ho he=>h4 r'.i o (ix.2 ⟨r',bz,rfl⟩) ho he⟩
  obtain⟨r',bz,e'⟩:=ix.1 (h3 j hj hb);exact⟨r',bz,e'⟩
 have my: ∀r∈rs,ops[r.i]?=aa r.o:=by
  intro r hr;obtain⟨l1,l2,e⟩:=fU hr;rw[e]at C;exact(C.at (w0:=w0) l1 r l2).1
 have jr: ∀r1∈rs,∀r2∈rs,r1.i=r2.i->r1=r2:=by
  intro r1 h1 r2 h2 e;obtain⟨l1,l2,e1⟩:=fU h1;rw[e1]at h2;rcases oa.1 h2 with h|h
  .exact absurd e.symm ((js e1).2.1 r2 h)
  .rcases ik.1 h with h|h
   .exact h.symm
   .obtain⟨m1,m2,e2⟩:=fU h;exact absurd e ((js (l1:=l1++r1::m1) (r:=r2) (l2:=m2) (by rw[e1,e2];simp)).2.1 r1 (by simp))
 have fin: ∀(listed:Array Bool) (a:Act) (w:ib) (Y:Mp) (k:Nat) (s:St),KG w0 P ops base α n0 S0 rs Cs Es Y0 listed a w Y k s->(∀i,i<ops.size->listed.getD i aj=ah)->Q .normal a w:=by
  intro listed a w Y k s G dj;have hk:k=Es.length:=by
   obtain⟨hl,_⟩:=C.lens;have h1:k<Cs.length:=by
    rcases b8 k Cs.length with h|h
    .exact h
    .have:=G.state;rw[ed h]at this;cases this
   rcases b8 k Es.length with h|h
   .have he:=aV h;have hlt:Es[k]<ops.size:=by
     rcases b8 Es[k] ops.size with h'|h'
     .exact h'
     .have:listed.getD Es[k] aj=aj:=by rw[iz,Array.getElem?_eq_none (by rw[G.size];exact h')];rfl
      exact absurd ((C.at_eff he).1) (by omega)
    have:=(G.count k _ he).1 (dj _ hlt);omega
   .omega
  subst hk;have hs:s=H':=by have:=G.state;rw[C.lens.2]at this;cases this;rfl
  subst hs;refine dq a w Y ⟨G.tsize,G.defers,λx=>?_⟩ G.sim G.ext (by have:=G.next;omega)
  have hs:=Cert.slots rs [] Cs Es [] S0 H0 S' (by simpa using C) (λr l3 e=>by cases e) (λ_=>rfl) x
  by_cases hx: ∃r∈rs,r.o.dst=aa x
  .obtain⟨r,hr,hd⟩:=hx;obtain⟨l1,l2,e⟩:=fU hr;rw[hs.2 l1 r l2 e hd (λr' bz kz=>by
    have bi:r.i≠r'.i:=by
     obtain⟨m1,m2,e2⟩:=fU bz;exact(js (l1:=l1++r::m1) (r:=r') (l2:=m2) (by rw[e,e2];simp)).2.1 r (by simp)
    exact D.dsts r.i r'.i r.o r'.o x bi (my r hr) (my r' (by rw[e];simp[bz])) hd kz)]
   exact G.here r hr (dj _ (js e).1) x hd
  .have lg: ∀r∈rs,r.o.dst≠aa x:=λr hr hd=>hx ⟨r,hr,hd⟩
   rw[hs.1 lg];exact G.there x (λr hr _=>lg r hr)
 refine⟨fin,?_⟩;intro listed a w Y k s G i hi;obtain⟨h1,o,ho,dj⟩:=mem_ready.1 hi;obtain⟨h2,h3⟩:=lK h1;have hio:i<ops.size:=by rw[<-G.size];exact h3
 obtain⟨l1,r,l2,bg,hri⟩:=hrec i hio;subst hri;have jv:r∈rs:=by rw[bg];simp
 have hor:r.o=o:=by have:=my r jv;rw[ho]at this;cases this;rfl
 subst hor;have mg:=bw r.o (by have:ops.toList[r.i]?=aa r.o:=(by simpa using ho);exact List.mem_of_getElem? this)
 obtain⟨sp1,sp2,sp3,sp4⟩:=js bg;have hml:=rE D G.closed r.i;have co:=Cert.slots l1 (r::l2) Cs Es [] S0 H0 r.S (by rw[<-bg];exact C) (λr' l3 e=>by cases e;rfl) (λe=>by cases e)
 have lp: ∀x,x∈r.o.looksAt ops->VR Y (r.S.at x) (a.tmps.getD x undef):=by
  intro x hx;by_cases hex: ∃r'∈rs,r'.o.dst=aa x
  .obtain⟨r',bz,kz⟩:=hex;have only: ∀r''∈rs,r''.o.dst=aa x->r''=r':=by
    intro r'' dh jj;by_cases e:r''.i=r'.i
    .exact jr _ dh _ bz e
    .exact(D.dsts _ _ _ _ x e (my _ dh) (my _ bz) jj kz).elim
   by_cases e:r'.i=r.i
   .have:r'=r:=jr _ bz _ jv e;subst this;rw[(co x).1 (λr'' dh jj=>by
     have:=only r'' (by rw[bg];simp[dh]) jj
     subst this;exact sp2 r'' dh rfl)]
    exact G.there x (λr'' dh hl jj=>by
     have:=only r'' dh jj;subst this;rw[h2]at hl;cases hl)
   .rcases D.haz r.i r'.i r.o r'.o x (Ne.symm e) ho (my _ bz) kz hx with hb|hb
    ·
     have hlst:=hml r'.i r.o ho dj hb;have hlt:r'.i<ops.size:=(oq.1 (my _ bz)).1;obtain⟨r'',dh,e''⟩:=sp3 r'.i hlt hb;have:r''=r':=jr _ (by rw[bg];simp[dh]) _ bz e''
     subst this;obtain⟨p1,p2,ep⟩:=fU dh;rw[(co x).2 p1 r'' p2 ep kz (λq hq hdq=>by
      have hqr:q∈rs:=by rw[bg,ep];simp[hq]
      have:=only q hqr hdq;subst this;obtain⟨m1,m2,e2⟩:=fU hq;exact(js (l1:=p1++q::m1) (r:=q) (l2:=m2++r::l2) (by rw[bg,ep,e2];simp)).2.1 q (by simp) rfl)]
     exact G.here r'' bz hlst x kz
    ·
     have kx:listed.getD r'.i aj=aj:=by
      cases hc:listed.getD r'.i aj with
      |false=>rfl
      |true=>
       have:=rE D G.closed r'.i r.i r'.o (my _ bz) (λe he lz=>G.closed r'.i r'.o e (my _ bz) hc he lz) hb
       rw[h2]at this;cases this
     have ql:r'∉l1:=by
      intro hm;obtain⟨p1,p2,ep⟩:=fU hm;obtain⟨q,hq,eq⟩:=(js (l1:=p1) (r:=r') (l2:=p2++r::l2) (by rw[bg,ep];simp)).2.2.1 r.i hio hb
      exact sp2 q (by rw[ep];simp[hq]) eq
     rw[(co x).1 (λr'' dh jj=>by
      have:=only r'' (by rw[bg];simp[dh]) jj
      subst this;exact ql dh)]
     exact G.there x (λr'' dh hl jj=>by
      have:=only r'' dh jj;subst this;rw[kx]at hl;cases hl)
  .have hex': ∀r'∈rs,r'.o.dst≠aa x:=λr' bz kz=>hex ⟨r',bz,kz⟩
   rw[(co x).1 (λr' bz=>hex' r' (by rw[bg];simp[bz]))]
   exact G.there x (λr' bz _=>hex' r' bz)
 have hρ: ∀x∈r.o.op.operands,VR Y (ev r.S x) (a.eval x):=by
  intro x hx;have vj:=Fv mg x hx;cases x with
  |tmp t=>
   refine lp t ?_;unfold Oper.looksAt;exact oa.2 (.inl (List.mem_filterMap.2 ⟨.tmp t,Array.mem_toList_iff.2 hx,rfl⟩))
  |const v=>exact .same1 vj
  |global g=>
   simp only[cM,iW,aD]at vj;obtain⟨p,hp,hb,gk⟩:=G.sim.glob g vj;have:=VR.ptr (Y:=Y) g 0 p hp;rw[hb,gk]at this;exact this
  |func f=>exact .fn _ _ _ _ _ rfl (λi x u h=>by simp at h) rfl (λi x u h=>by simp at h)
 have hwant:wanted ops r.S r.o=Region.wanted r.o (yielded ops a.tmps):=by
  refine Ey (Y:=Y) ops r.o (λj want d hg hd=>lp d ?_)
  unfold Oper.looksAt;rw[hg];exact oa.2 (.inr (by simp[hd]))
 have fm: ∀j,(listed.setIfInBounds r.i ah).getD j aj=if j=r.i then ah else listed.getD j aj:=λj=>dB listed r.i j h3
 have step: ∀(a':Act) (w':ib) (Y':Mp) (k':Nat) (s':St) (v':av),a'=a.put r.o.dst v'->VR Y' r.v v'->Cs[k']?=aa s'->Sim w0 P Y' s' w'->base+ops.size<=s'.next->
      (∀k p,Y k=aa p->Y' k=aa p)->(∀j,j<base+ops.size->j≠base+r.i->Y' j=Y j)->
      (∀(q e:Nat),Es[q]?=aa e->((e=r.i∨listed.getD e aj=ah)↔q<k'))->KG w0 P ops base α n0 S0 rs Cs Es Y0 (listed.setIfInBounds r.i ah) a' w' Y' k' s':=by
  intro a' w' Y' k' s' v' cp fh cb hsim mh bv cf hcnt;have hdst:=A5 mg;refine⟨by simp[G.size],?_,?_,cb,hsim,mh,?_,?_,?_,?_,?_,?_⟩
  .intro j oj e hoj hl he lz;rw[fm]at hl⊢;split
   .rfl
   .split at hl
    .rename_i ej;subst ej;rw[ho]at hoj;cases hoj;exact dj e he lz
    .exact G.closed j oj e hoj hl he lz
  .intro q e hq;rw[fm];rw[<-hcnt q e hq];by_cases he:e=r.i
   .simp[he]
   .simp[he]
  .intro j hj hl;rw[fm]at hl;split at hl
   .cases hl
   .rename_i bi;rw[cf (base+j) (by omega) (by omega)]
    exact G.none j hj hl
  .exact⟨λk p hk=>bv k p (G.ext.1 k p hk),λk hk=>(cf k (by omega) (by omega)).trans (G.ext.2 k hk)⟩
  .subst cp;have:=G.tsize;cases r.o.dst<;>simp[Act.put,this]
  .subst cp;cases r.o.dst<;>simp[Act.put,G.defers]
  .intro q hq hl x hd;subst cp;rw[FX _ _ _ _ (λt e=>Nat.lt_of_lt_of_le (hdst t e) G.tsize)]
   rw[fm]at hl;by_cases e:q.i=r.i
   .have:q=r:=jr _ hq _ jv e;subst this;rw[bJ hd];exact fh
   .rw[bI e]at hl;have gp:r.o.dst≠aa x:=λkz=>D.dsts q.i r.i q.o r.o x e (my _ hq) ho hd kz
    rw[bI gp];exact(G.here q hq hl x hd).mono' bv
  .intro x hx;subst cp;rw[FX _ _ _ _ (λt e=>Nat.lt_of_lt_of_le (hdst t e) G.tsize)]
   have gp:r.o.dst≠aa x:=hx r jv (by rw[fm,bJ rfl])
   rw[bI gp];refine(G.there x λq hq hl=>hx q hq ?_).mono' bv
   rw[fm];split
   .rfl
   .exact hl
 obtain⟨_,je,hjl,hje,hR⟩:=Cert.at (w0:=w0) l1 r l2 Cs Es [] S0 H0 (by rw[<-bg];exact C)
 have hjek: ∀q,q<je->∀e,Es[q]?=aa e->q<k:=by
  intro q hq e he;obtain⟨r',bz,e',hef,gk⟩:=hje q e hq he;have hb:=sp4 r' r'.o bz gk hef;have:=hml r'.i r.o ho dj hb;rw[e']at this;exact(G.count q e he).1 this
 have hkl:k<=Es.length:=by
  have h1:k<Cs.length:=by
   rcases b8 k Cs.length with h|h
   .exact h
   .have:=G.state;rw[ed h]at this;cases this
  have:=C.lens.1;omega
 have hjk:je<=k:=by
  rcases b8 k je with h|h
  .have hlt:k<Es.length:=by omega
   have:=hjek k h _ (aV hlt);omega
  .exact h
 have lb:(wanted ops r.S r.o=aj∨cY r.o≠ .eff)->∀(q e:Nat),Es[q]?=aa e->((e=r.i∨listed.getD e aj=ah)↔q<k):=by
  intro bi q e he;have:e≠r.i:=by
   intro ee;obtain⟨_,r',h1',h2',h3',h4',h5'⟩:=C.at_eff he;have:r'=r:=jr _ h1' _ jv (by rw[h2',ee])
   subst this;rcases bi with h|h
   .rw[h]at h5';cases h5'
   .exact h h4'
  simp only[this,false_or];exact G.count q e he
 have sm: ∀(q e:Nat),je<=q->q<k->Es[q]?=aa e->mP (ms.getD e 0) r.i=aj:=by
  intro q e _ hqk he;cases hb:mP (ms.getD e 0) r.i with
  |false=>rfl
  |true=>
   obtain⟨_,r',h1',h2',h3',_⟩:=C.at_eff he;have hle:=(G.count q e he).2 hqk;have:=rE D G.closed e r.i r'.o h3' (λe' gf lz=>G.closed e r'.o e' h3' hle gf lz) hb
   rw[h2]at this;cases this
 have ca:=G.none r.i hio h2;have hltn:base+r.i<s.next:=by have:=G.next;omega
 unfold wpOp;rw[ho];simp only;rw[<-hwant];rcases hR with⟨hw,hv⟩|⟨hw,hk,hv⟩|⟨hw,hk,hv⟩|⟨hw,hk,ob,hv,fj⟩|⟨hw,hk,hEs,s0,H1,s',hCs,hv,hCs',hnx',htr⟩
 .rw[hw];simp only[im,bP];exact⟨Y,k,s,step _ w Y k s undef rfl (by rw[hv];exact .undef) G.state G.sim G.next (λ_ _ h=>h) (λ_ _ _=>rfl) (lb (.inl hw))⟩
 .rw[hw];simp only[bQ];refine .inl (Oper.wp_mono (λa' w' hL=>?_) (aAB (base+r.i) G.sim hρ hv (Q:=Q)))
  obtain⟨Y',v',cp,fh,hZ,bv,cf,mh⟩:=hL;exact⟨Y',k,s,step a' w' Y' k s v' cp fh G.state hZ G.next bv (λj hj bi=>cf j (by have:=G.next;omega) bi) (lb (.inr (by rw[hk];simp)))⟩
 .rw[hw];simp only[bQ];refine .inl (Oper.wp_mono (λa' w' hL=>?_) (aAh (base+r.i) G.sim hρ (hv k s hjk G.state sm) (Q:=Q)))
  obtain⟨Y',v',cp,fh,hZ,bv,cf,mh⟩:=hL;exact⟨Y',k,s,step a' w' Y' k s v' cp fh G.state hZ G.next bv (λj hj bi=>cf j (by have:=G.next;omega) bi) (lb (.inr (by rw[hk];simp)))⟩
 .rw[hw];simp only[bQ];refine .inl (Oper.wp_mono (λa' w' hL=>?_) (SB G.sim hρ ca hltn hv (fj k s hjk G.state sm) (Q:=Q)))
  obtain⟨Y',v',cp,fh,hZ,bv,cf,mh⟩:=hL;exact⟨Y',k,s,step a' w' Y' k s v' cp fh G.state hZ G.next bv (λj hj bi=>cf j (by have:=G.next;omega) bi) (lb (.inr (by rw[hk];simp)))⟩
 .rw[hw];simp only[bQ];have hje':je=k:=by
   rcases b8 je k with h|h
   .have:=(G.count je r.i hEs).2 h;rw[h2]at this;cases this
   .omega
  subst hje';have hs0:s0=s:=by have:=G.state;rw[hCs]at this;cases this;rfl
  subst hs0;refine .inl (Oper.wp_mono (λa' w' hL=>?_) (aId hcall G.sim hρ ca hltn hv (Q:=Q)))
  obtain⟨Y',v',cp,fh,hZ,bv,cf,mh⟩:=hL;have vm: ∀r'∈l2,Y' (base+r'.i)=ae:=by
   intro r' bz;obtain⟨m1,m2,e2⟩:=fU bz;obtain⟨q1,q2,q3,q4⟩:=js (l1:=l1++r::m1) (r:=r') (l2:=m2) (by rw[bg,e2];simp)
   have hb:=q4 r r.o (by simp) ho (by simp[lW,hk])
   have bi:r.i≠r'.i:=q2 r (by simp)
   have kx:listed.getD r'.i aj=aj:=by
    cases hc:listed.getD r'.i aj with
    |false=>rfl
    |true=>
     have hr'm:r'∈rs:=by rw[bg];simp[bz]
     have:=rE D G.closed r'.i r.i r'.o (my _ hr'm) (λe he lz=>G.closed r'.i r'.o e (my _ hr'm) hc he lz) hb
     rw[h2]at this;cases this
   rw[cf (base+r'.i) (by have:=G.next;omega) (by omega)]
   exact G.none r'.i q1 kx
  have gp:Es.Nodup:=C.effs_nodup (by rw[pi];exact FD _ (λl1 i l2 e=>(D.split l1 i l2 e).2.1))
  refine⟨Y',je+1,s',step a' w' Y' (je+1) s' v' cp fh hCs' (htr Y' w' vm hZ) (by have:=G.next;omega) bv (λj hj bi=>cf j (by have:=G.next;omega) bi) (λq e he=>?_)⟩
  constructor
  .rintro(h|h)
   .subst h;have hq:q<Es.length:=(List.getElem?_eq_some_iff.1 he).1;have hj:je<Es.length:=(List.getElem?_eq_some_iff.1 hEs).1;have e1:Es[q]=r.i:=(List.getElem?_eq_some_iff.1 he).2;have e2:Es[je]=r.i:=(List.getElem?_eq_some_iff.1 hEs).2;rcases b8 q je with h'|h'
    .omega
    .rcases Nat.eq_or_lt_of_le h' with h'|h'
     .omega
     .exact absurd (e2.trans e1.symm) (List.pairwise_iff_getElem.1 gp je q hj hq h')
   .have:=(G.count q e he).1 h;omega
  .intro h;rcases b8 q je with h'|h'
   .exact .inr ((G.count q e he).2 h')
   .have:q=je:=by omega
    subst this;rw[hEs]at he;cases he;exact .inl rfl
def aPM(hcall:iV w0 P call){order:au Nat}(D:HD ops ms order){α n0:Nat}(bw: ∀o∈ops.toList,uL P α o=ah){rs:au DC}{Cs:au St}{Es:au Nat}{S0:ia}{H0:St}{Y0:Mp}(hn0:n0<=base)
    (C:Cert P call ops ms base S' H' rs Cs Es [] S0 H0) (pi:rs.map (·.i)=order) {Q:Exit->Act->ib->Prop} (dq:vM w0 P Y0 n0 α S' H' (Q .normal)):
    ∀(fuel:Nat) (listed:Array Bool) (a:Act) (w:ib) (Y:Mp) (k:Nat) (s:St),aWw listed<=fuel->KG w0 P ops base α n0 S0 rs Cs Es Y0 listed a w Y k s->wpAny P .any ops Q fuel listed a w:=by
 obtain⟨fin,step⟩:=UG hcall D bw hn0 C pi dq;intro fuel;induction fuel with
 |zero=>
  intro listed a w Y k s hu G;have dj: ∀i,i<ops.size->listed.getD i aj=ah:=by
   intro i hi;cases hb:listed.getD i aj with
   |true=>rfl
   |false=>
    have h1:listed.getD i ah=aj:=by
     rw[iz,m5 (by rw[G.size];exact hi)]at hb⊢;simpa using hb
    have:=YX h1;omega
  refine⟨?_,fin listed a w Y k s G dj⟩;cases hr:Region.ready .any ops listed with
  |nil=>rfl
  |cons i l=>
   have hm:i∈Region.ready .any ops listed:=by rw[hr];simp
   obtain⟨h1,o,ho,_⟩:=mem_ready.1 hm;obtain⟨h2,h3⟩:=lK h1;rw[dj i (by rw[<-G.size];exact h3)]at h2;cases h2
 |succ fuel ih=>
  intro listed a w Y k s hu G;refine⟨λhr=>?_,λi hi=>?_⟩
  ·
   refine fin listed a w Y k s G ?_;obtain⟨rk,hrk⟩:=D.edge;have main: ∀(m i:Nat),rk i=m->i<ops.size->listed.getD i aj=ah:=by
    intro m;induction m using Nat.strongRecOn with
    |_ m ihi=>
     intro i hm hi;cases hb:listed.getD i aj with
     |true=>rfl
     |false=>
      exfalso;have h1:listed.getD i ah=aj:=by
       rw[iz,m5 (by rw[G.size];exact hi)]at hb⊢;simpa using hb
      have ho:ops[i]?=aa ops[i]:=m5 hi;have:i∈Region.ready .any ops listed:=mem_ready.2 ⟨h1,ops[i],ho,λe he lz=>by
       obtain⟨g1,g2⟩:=hrk i _ e ho he lz;exact ihi (rk e.on) (by omega) e.on rfl g2⟩
      rw[hr]at this;cases this
   exact λi hi=>main _ i rfl hi
  .have ki:aWw (listed.setIfInBounds i ah)<=fuel:=by have:=YX (mem_ready.1 hi).1;omega
   exact wpOp_mono (λa' w' ⟨Y',k',s',G'⟩=>ih _ a' w' Y' k' s' ki G') (step listed a w Y k s G i hi)
end
end Go.AI
namespace Go.PI
open Go.AI
section
variable{P:az}{J J':Nu}{I I1 I':Ga}{H H':St}{S:PS}{A:ia}
def vC{z:Nat}: ∀(n:Nat) (l:au PV),l.length=n*z->fM (qN z n l)=l/\(qN z n l).length=n/\∀e∈qN z n l,e.cells.length=z/\(l.all PV.pur=ah->e.cells.all PV.pur=ah):=by
 intro n;induction n with
 |zero=>intro l h;simp at h;subst h;exact⟨rfl,rfl,λe he=>by simp[qN]at he⟩
 |succ n ih=>
  intro l h;rw[Nat.succ_mul]at h;obtain⟨h1,h2,h3⟩:=ih (l.drop z) (by simp;omega)
  refine⟨?_,by simp[qN,h2],λe he=>?_⟩
  .simp only[qN,fM,aN,PV.cells];have:List.flatMap PV.cells (qN z n (l.drop z))=l.drop z:=h1;rw[this,List.take_append_drop]
  .simp only[qN,ik]at he;rcases he with rfl|he
   .refine⟨by simp[PV.cells];omega,λhp=>?_⟩
    simp only[PV.cells,bK]at hp⊢;exact λx hx=>hp x (List.mem_of_mem_take hx)
   .refine⟨(h3 e he).1,λhp=>(h3 e he).2 ?_⟩
    rw[bK]at hp⊢;exact λx hx=>hp x (List.mem_of_mem_drop hx)
def aEX(S:PS)(t:Nat):S.set t (S.at t)=S:=by
 cases S with|mk f=>simp only[PS.set,PS.at,PS.mk.injEq];funext k;rw[dZ,Bool.cond_decide];split<;>simp_all
def AZ{p p':PSt}(M:Mem J I p H)(F:FR J I H S A){t:Nat}{S':PS}(h:lA p S t=aa (S',p')):
    ∃J',Mem J' I p' H/\FR J' I H S' A/\Adv J I p H J' I p' H:=by
 have ku:S'=S->p'=p->∃J',Mem J' I p' H/\FR J' I H S' A/\Adv J I p H J' I p' H:=by
  rintro rfl rfl;exact⟨J,M,F,.refl J I p' H⟩
 have hF:=F t;unfold lA at h;split at h<;>try cases h
 rename_i rr pj;unfold aNj at pj;split at pj
 .rename_i id off len b hS;split at pj
  .rename_i z a cs hg;cases hc:aq (off+len*z) cs.length&&aq 1 z&&(a||ao z 1)&&cs.all PV.pur with
   |false=>rw[hc,aJ]at pj;cases pj
   |true=>
    rw[hc,aI]at pj;simp only[aA]at pj;subst pj;simp only[aC]at hc;obtain⟨⟨⟨hc1,hc2⟩,hc3⟩,hc4⟩:=hc;have hlen:=bR hc1;have hl:((cs.drop off).take (len*z)).length=len*z:=by simp;omega
    have hz:=bR hc2;have hid:=jR hg;obtain⟨ai,us,h1,h2,h3,h5,h4⟩:=M.get id _ hg;rw[hS]at hF;have gq:Mon H J (λk=>if k=id then aa ae else J k):=by
     refine⟨λk x hk=>?_,λk a' hk=>?_⟩
     .by_cases e:k=id
      .right;show(if k=id then aa ae else J k)=aa ae;rw[bJ e]
      .left;show(if k=id then aa ae else J k)=aa x;rw[bI e];exact hk
     .by_cases e:k=id
      .simp only[e,bQ]at hk;cases hk
      .simp only[e,bP]at hk;exact .inl hk
    have hkp:Keep J lQ H H:= .refl J lQ H;have nc:Fz (λk=>if k=id then aa ae else J k) H ai us (eY z):=by
     refine⟨row_of_get h2 rfl,λk hk=>?_⟩
     by_cases e:k=id
     .simp only[e,bQ]at hk;cases hk
     .simp only[e,bP]at hk;exact e (M.inj k id ai hk h1)
    refine⟨λk=>if k=id then aa ae else J k,⟨λk x hk=>?_,λk a' hk=>?_,λi j a' hi hj=>?_,λk a' hk=>?_,λk o hk=>?_,M.free,M.ver⟩,λk=>?_,⟨.refl J I H,gq,.refl H I,.upd p id .gone,λa cs m h=>⟨cs,m.tip,h⟩,λk a' hk hd=>⟨rfl,by
     have bi:k≠id:=λe=>hd (by subst e;exact LY)
     show(if k=id then aa ae else J k)=_
     rw[bI bi];exact hk⟩⟩⟩
    .show k<p.next
     by_cases e:k=id
     .omega
     .simp only[e,bP]at hk;exact M.le _ _ hk
    .by_cases e:k=id
     .simp only[e,bQ]at hk;cases hk
     .simp only[e,bP]at hk;exact M.lt _ _ hk
    .by_cases e:i=id
     .simp only[e,bQ]at hi;cases hi
     .by_cases e':j=id
      .simp only[e',bQ]at hj;cases hj
      .simp only[e,e',bP]at hi hj;exact M.inj _ _ _ hi hj
    .by_cases e:k=id
     .simp only[e,bQ]at hk;cases hk
     .simp only[e,bP]at hk;rw[mM hid,bI e];exact M.live _ _ hk
    .rw[mM hid]at hk;by_cases e:k=id
     .simp only[e,bQ,aA]at hk;subst hk;subst e;show(if k=k then aa ae else J k)=aa ae;simp
     .simp only[e,bP]at hk;exact(M.get k o hk).keep hkp gq (by simp[e]) (λ_ _=>rfl) λi fu hi _=>⟨rfl,hi⟩
    .rw[sE];by_cases e:k=t
     .subst e;rw[bJ rfl];refine⟨?_,λh=>by cases h⟩
      have hr:=hF.1;generalize A.at k=w at hr;cases hr with
      |rs0 _ _ _ c a' hν=>rw[h1]at hν;cases hν
      |rs _ _ _ c a' hν=>
       rw[h1]at hν;simp only[aA]at hν;subst hν;have dm:((cs.drop off).take (len*z)).all PV.pur=ah:=by
        rw[bK]at hc4⊢;exact λx hx=>hc4 x (List.mem_of_mem_drop (List.mem_of_mem_take hx))
       have tm: ∀(i:Nat) (x:PV) (u:av),((cs.drop off).take (len*z))[i]?=aa x->us[off+i]?=aa u->R (λk=>if k=id then aa ae else J k) H x u:=by
        intro i x u hx hu;rw[m6]at hx;split at hx
        .rw[m7]at hx;exact(h4 _ x u hx hu).keep hkp gq
        .cases hx
       cases a with
       |true=>
        obtain⟨k1,k2,k3⟩:=vC (z:=z) len _ hl;simp only[aI];have:=R.sl (J:=λk=>if k=id then aa ae else J k) (H:=H) z (qN z len ((cs.drop off).take (len*z))) ai off c us (eY z) hz (λe he=>⟨(k3 e he).1,(k3 e he).2 dm⟩) nc rfl (by rw[k2,h3];exact hlen) (by rw[k1];exact tm)
        rw[k2]at this;have h6:=LQ (es:=qN z len ((cs.drop off).take (len*z))) (by rw[k2];exact this)
        rw[k2]at h6;exact h6
       |false=>
        simp only[n9]at hc3;have hz1:=aE hc3;subst hz1;simp only[aJ];rw[Nat.mul_one]at hl tm hlen dm⊢;have gl: ∀l:au PV,l.all PV.pur=ah->fM l=l:=by
         intro l;induction l with
         |nil=>intro _;rfl
         |cons x l ih=>
          intro hp;simp only[aP,aC]at hp;have:=ih hp.2;simp only[fM,aN]at this⊢;rw[this,CW (Ea hp.1)];rfl
        have:=R.sl (J:=λk=>if k=id then aa ae else J k) (H:=H) 1 ((cs.drop off).take len) ai off c us (eY 1) hz (λe he=>by
         have:=(bK.1 dm) e he;rw[CW (Ea this)];exact⟨rfl,by simpa using this⟩) nc rfl (by rw[hl,h3];omega) (by rw[gl _ dm];exact tm)
        have h6:=LQ this;rw[hl]at h6;exact h6
     .rw[bI e];exact⟨(F k).1.keep hkp gq,λhb=>((F k).2 hb).keep hkp gq λi hi _=>⟨rfl,hi⟩⟩
  .cases pj
 .simp only[aA]at pj;subst pj;exact ku (aEX S t) rfl
def uG(F:FR J I H S A){ops:Array ic}{o:ic}{b:Bool}(h:oJ ops S o=aa b):wanted ops A o=b:=by
 unfold oJ at h;unfold wanted;split at h
 .simp only[aA]at h;subst h;rename_i e;rw[e]
 .rename_i j want e;rw[e];simp only;cases hd:ops[j]?.bind (·.dst)with
  |none=>rw[hd]at h;simp at h
  |some d=>
   rw[hd]at h;simp only[aK]at h;split at h
   .rename_i b' hb;simp only[aA]at h hb;subst h;have:=(F d).1;rw[hb]at this;simp only[aK];generalize A.at d=w at this;cases this;rfl
   .rename_i hb;simp only[aA]at h hb;subst h;have:=(F d).1;rw[hb]at this;simp only[aK];obtain⟨us,hu,hl⟩:=this.tup_inv;rw[hu]
   .cases h
def ZO{pc:jZ}{ac:FuncId->Array av->St->f9 (av×St)}(hcall:pX pc ac){p p':PSt}{base i:Nat}(M:Mem J I p H)(F:FR J I H S A)(hf:H.get (base+i)=ae)(hlt:base+i<H.next)
    {o:ic} (ho:o.op.operands.all (cM P)=ah) {sq take own:Bool} {v:PV} {S':PS} (h:JL P pc sq o take S p=aa (v,own,S',p')):
    ∃u H' J' I',vZ P ac base i o A H=aa (u,H')/\R J' H' v u/\Mem J' I' p' H'/\FR J' I' H' (S'.put o.dst v own) (A.store o.dst u)/\Adv J I p H J' I' p' H'/\
      (∀j,j<H.next->j≠base+i->H.get j=ae->H'.get j=ae):=by
 obtain⟨u,H',J',I',h1,h2,h3,h4,h5,h6,h7⟩:=a1d hcall M F hf hlt ho h;obtain⟨I'',F'',g⟩:=h4.put h2 h5 o.dst;exact⟨u,H',J',I'',h1,h2,h3.g2 g,F'',h6.trans (.g g.out),h7⟩
def ZT{p:PSt}(M:Mem J I p H)(F:FR J I H S A)(d:f9 Tmp): ∃I',Mem J I' p H/\FR J I' H (S.put d (.tup []) aj) (A.store d undef)/\Adv J I p H J I' p H:=by
 obtain⟨I',F',g⟩:=F.put (v:= .tup []) (u:=undef) (own:=aj) (.tup [] #[] rfl (λi x u h=>by simp at h)) (λh=>by cases h) d
 exact⟨I',M.g2 g,F',.g g.out⟩
def iD:au Co->au Nat
 |[]=>[]
 | .op i _::r=>i::iD r
 | .app a i s::r=>a::i::s::iD r
 | .freeze _::r=>iD r
def aN9{pc:jZ}{ac:FuncId->Array av->St->f9 (av×St)}(hcall:pX pc ac){ops:Array ic}{base:Nat}(dw: ∀o∈ops.toList,o.op.operands.all (cM P)=ah):
    ∀(sc:au Co) (i:Nat) (J:Nu) (I:Ga) (S:PS) (p:PSt) (A:ia) (H:St) (S':PS) (p':PSt),iD sc=List.range' i (ops.size-i)->i<=ops.size->base+ops.size<=H.next->
      (∀j,i<=j->j<ops.size->H.get (base+j)=ae)->Mem J I p H->FR J I H S A->Aj P pc ops sc S p=aa (S',p')->
      ∃A' H' J' I',lF P ac ops base (ops.toList.drop i) i A H=aa (A',H')/\Mem J' I' p' H'/\FR J' I' H' S' A'/\Adv J I p H J' I' p' H'/\(∀j,j<base->H.get j=ae->H'.get j=ae):=by
 intro sc;induction sc with
 |nil=>
  intro i J I S p A H S' p' fc hi hb ci M F h;simp only[iD]at fc;have:ops.size-i=0:=by
   cases hh:ops.size-i with
   |zero=>rfl
   |succ n=>rw[hh]at fc;simp[List.range']at fc
  simp only[Aj,aA,aB]at h;obtain⟨rfl,rfl⟩:=h;rw[List.drop_eq_nil_of_le (by simp;omega)]
  exact⟨A,H,J,I,rfl,M,F,.refl J I p H,λj _ hj=>hj⟩
 |cons s sc ih=>
  intro i J I S p A H S' p' fc hi hb ci M F h;cases s with
  |freeze t=>
   simp only[Aj]at h;split at h
   .rename_i S1 p1 h1;obtain⟨J1,M1,F1,A1⟩:=AZ M F h1;obtain⟨A',H',J',I',k1,k2,k3,k4,k5⟩:=ih i J1 I S1 p1 A H S' p' fc hi hb ci M1 F1 h;exact⟨A',H',J',I',k1,k2,k3,A1.trans k4,k5⟩
   .cases h
  |app a k s=>
   simp only[iD]at fc;have hn3:i+2<ops.size:=by
    have:=congrArg List.length fc;simp only[aM,List.length_range']at this;omega
   rw[show ops.size-i=(ops.size-(i+3))+1+1+1 by omega,List.range'_succ,List.range'_succ,List.range'_succ]at fc
   simp only[List.cons.injEq]at fc;obtain⟨rfl,rfl,rfl,fc⟩:=fc;simp only[Aj]at h;have hopA:ops[a]?=aa ops[a]:=m5 (by omega)
   have hopI:ops[a+1]?=aa ops[a+1]:=m5 (by omega)
   have hopS:ops[a+1+1]?=aa ops[a+1+1]:=m5 (by omega)
   rw[hopA,hopI,hopS]at h;simp only at h;split at h
   .rename_i S1 h1;obtain⟨u1,u2,H1,H2,I2,q1,q2,q3,q4,q5,q6,q7,q8,q9,q10,q11,M2,F2,A2,_,_,q12,q13⟩:=Rd (ac:=ac) (base:=base) (iA:=a) (iI:=a+1) (iS:=a+1+1) M F (ci a (aS _) (by omega)) (by omega) (dw _ (by simp)) (dw _ (by simp)) (dw _ (by simp)) h1
    have gh:ops.toList.drop a=ops[a]::ops[a+1]::ops[a+1+1]::ops.toList.drop (a+1+1+1):=by
     rw[List.drop_eq_getElem_cons (by simp;omega),List.drop_eq_getElem_cons (by simp;omega),List.drop_eq_getElem_cons (by simp;omega)];simp
    rw[gh];obtain⟨A',H',J',I',j1,j2,j3,j4,j5⟩:=ih (a+1+1+1) J I2 _ p _ H2 S' p' (by simpa using fc) (by omega) (oi hb A2.keep.next) (λj hj qo=>(q13 _ (by omega) (ci j (by omega) qo)).2) M2 F2 h
    refine⟨A',H',J',I',?_,j2,j3,A2.trans j4,λj hj hn=>j5 j hj (q13 j (by omega) hn).2⟩
    have hw: ∀{o:ic} {A0:ia},o.guard=ae->wanted ops A0 o=ah:=λhg=>by simp only[wanted,hg]
    simp only[lF,hw q7,hw q8,hw q9,aI,vZ,q4,q5,q6,q1,oF,q2,aK];simp only[q3];rw[q10];exact j1
   .cases h
  |op k take=>
   simp only[iD]at fc;have hlt:i<ops.size:=by
    rcases b8 i ops.size with h'|h'
    .exact h'
    .rw[show ops.size-i=0 by omega]at fc;simp at fc
   rw[show ops.size-i=(ops.size-(i+1))+1 by omega,List.range'_succ]at fc
   simp only[List.cons.injEq]at fc;obtain⟨rfl,fc⟩:=fc;simp only[Aj]at h;have qb:ops[k]?=aa ops[k]:=m5 hlt;rw[qb]at h;simp only at h;have gh:ops.toList.drop k=ops[k]::ops.toList.drop (k+1):=by
    rw[List.drop_eq_getElem_cons (by simpa using hlt)];simp
   rw[gh];simp only[lF];split at h
   .rename_i hw;rw[uG F hw,aI];split at h
    .rename_i v own S1 p1 h1;obtain⟨u,H1,J1,I1,k1,k2,k3,k4,k5,k6⟩:=ZO hcall M F (ci k (aS _) hlt) (by omega) (dw _ (by simp)) h1
     simp only[k1];obtain⟨A',H',J',I',j1,j2,j3,j4,j5⟩:=ih (k+1) J1 I1 _ p1 _ H1 S' p' fc hlt (oi hb k5.keep.next) (λj hj qo=>k6 _ (by omega) (by omega) (ci j (by omega) qo)) k3 k4 h
     exact⟨A',H',J',I',j1,j2,j3,k5.trans j4,λj hj hn=>j5 j hj (k6 j (by omega) (by omega) hn)⟩
    .cases h
   .rename_i hw;rw[uG F hw,aJ];obtain⟨I1,M1,F1,A1⟩:=ZT M F ops[k].dst;obtain⟨A',H',J',I',j1,j2,j3,j4,j5⟩:=ih (k+1) J I1 _ p _ H S' p' fc hlt hb (λj hj qo=>ci j (by omega) qo) M1 F1 h
    exact⟨A',H',J',I',j1,j2,j3,A1.trans j4,j5⟩
   .cases h
end
end Go.PI
namespace Go.AI
section
variable{w0:W0}{P:az}{call:FuncId->Array av->St->f9 (av×St)}
def aCX(hcall:iV w0 P call)(jz:P.toTables.follows .mixedOrders=ah){α id:Nat}{ops:Array ic}{draw:Bool}{S S':ia}{H H':St}{a:Act}{w:ib}{Y:Mp}{Q:Exit->Act->ib->Prop}
    (h:sT P call ops draw S H=aa (S',H')) (bw:fJ P α (.region id ops draw)=ah) (A:AR Y S α a) (ρ:Sim w0 P Y H w) (dq:vM w0 P Y H.next α S' H' (Q .normal)):
    (Code.region id ops draw).wp P Q a w:=by
 simp only[fJ,aC,bK,d7,io]at bw;obtain⟨dw,hdr⟩:=bw;unfold sT at h;have ca: ∀j,Y (H.next+j)=ae:=λj=>ρ.dom _ (by omega)
 cases draw with
 |false=>
  simp only[aJ]at h;refine wp_region ?_;rw[List.range_eq_range'];have:=aCV (Q:=Q) (w0:=w0) hcall (ops:=ops) (base:=H.next) (α:=α) (n0:=H.next) (aS _) dw ops.toList 0 S S' {H with next:=H.next+ops.size} H' a w Y Y (by simp) (by simp) A (ρ.next (iq _ _))
   (Ext.refl _ _) (aS _) (λj _ _=>ca j) h dq
  simpa using this
 |true=>
  simp only[aI]at h;have hD:=hdr.resolve_left (by simp)
  have ρ':Sim w0 P Y {H with next:=H.next+ops.size} {w with drawn:=w.drawn+1}:=(ρ.next (iq _ _)).drawn _
  have ve: ∀i,(Array.replicate ops.size aj).getD i aj=aj:=λi=>by
   rw[iz];by_cases hi:i<ops.size
   .simp[hi]
   .simp[hi]
  have hunl:aWw (Array.replicate ops.size aj)<=ops.size:=by
   unfold aWw;simp only[Array.toList_replicate];exact oi (List.length_filter_le _ _) (by simp)
  unfold Ed at hD;cases ht:aCC ops with
  |none=>
   rw[ht]at hD;simp only at hD;have h':iQ P call ops (iE ops.toList []) H.next (AF ops (iE ops.toList [])) [] S {H with next:=H.next+ops.size}=aa (S',H'):=by
    cases hr:iQ P call ops (iE ops.toList []) H.next (AF ops (iE ops.toList [])) [] S {H with next:=H.next+ops.size}with
    |none=>rw[hr]at h;cases h
    |some r=>
     rw[hr]at h;simp only[aHW,aOE,ht,aI]at h;exact h
   obtain⟨rs,Cs,Es,pi,C⟩:=Sl _ _ _ _ h';obtain⟨s,hs0,hsn,htr⟩:=C.first (w0:=w0)
   refine wp_region_any jz (aPM hcall (a4v hD) dw (aS _) C pi dq ops.size (Array.replicate ops.size aj) a _ Y 0 s hunl ?_);refine⟨by simp,λi o e _ hl=>?_,λq e _=>?_,hs0,htr Y _ (λr _=>ca r.i) ρ',?_,λi _ _=>ca i,Ext.refl _ _,A.size,A.defers,λr _ hl=>?_,λx _=>A.slot x⟩
   .rw[ve]at hl;cases hl
   .rw[ve];simp
   .rw[hsn];exact aS _
   .rw[ve]at hl;cases hl
  |some ab=>rw[ht]at hD;simp at hD
def Fl.out:Fl->Exit
 | .normal=> .normal
 | .exit n=> .exit n
 | .ret=> .ret
def Post(w0:W0)(P:az)(Y:Mp)(n α:Nat)(S':ia)(H':St)(K:Act->ib->Prop):Prop:=
 ∀a' w' Y',AR Y' S' α a'->Sim w0 P Y' H' w'->Ext n Y Y'->n<=H'.next->K a' w'
def Post.later{Y Y':Mp}{n n' α:Nat}{S':ia}{H':St}{K:Act->ib->Prop}(h:Post w0 P Y n α S' H' K)(hE:Ext n Y Y')(hn:n<=n'):Post w0 P Y' n' α S' H' K:=
 λa' w' Y'' A ρ E hl=>h a' w' Y'' A ρ (hE.trans E hn) (by omega)
def rL(hcall:iV w0 P call)(jz:P.toTables.follows .mixedOrders=ah)(L α:Nat): ∀(c:Code) (S:ia) (H:St) (fl:Fl) (S':ia) (H':St) (a:Act) (w:ib) (Y:Mp) (Q:Exit->Act->ib->Prop),
    eJ P call L c S H=aa (fl,S',H')->fJ P α c=ah->AR Y S α a->Sim w0 P Y H w->Post w0 P Y H.next α S' H' (Q fl.out)->c.wp P Q a w:=by
 intro c;induction c with
 |skip=>
  intro S H fl S' H' a w Y Q h _ A ρ hp;simp only[eJ,aA,aB]at h;obtain⟨rfl,rfl,rfl⟩:=h;exact wp_skip (hp a w Y A ρ (Ext.refl _ _) (aS _))
 |label l=>
  intro S H fl S' H' a w Y Q h _ A ρ hp;simp only[eJ,aA,aB]at h;obtain⟨rfl,rfl,rfl⟩:=h;exact wp_label (hp a w Y A ρ (Ext.refl _ _) (aS _))
 |region id ops draw=>
  intro S H fl S' H' a w Y Q h bw A ρ hp;simp only[eJ,aF]at h;obtain⟨⟨S1,H1⟩,h,e⟩:=h;cases e;exact aCX hcall jz h bw A ρ hp
 |seq x y nq qh=>
  intro S H fl S' H' a w Y Q h bw A ρ hp;simp only[fJ,aC]at bw;simp only[eJ]at h;refine wp_seq ?_;cases hx:eJ P call L x S H with
  |none=>simp[hx]at h
  |some r=>
   obtain⟨f1,S1,H1⟩:=r;simp only[hx]at h;cases f1 with
   |normal=>
    simp only at h;exact nq S H .normal S1 H1 a w Y _ hx bw.1 A ρ (λa' w' Y' A' ρ' E hn=>qh S1 H1 fl S' H' a' w' Y' Q h bw.2 A' ρ' (hp.later E hn))
   |exit n=>
    simp only[aA,aB]at h;obtain⟨rfl,rfl,rfl⟩:=h;exact nq S H (.exit n) S1 H1 a w Y _ hx bw.1 A ρ hp
   |ret=>
    simp only[aA,aB]at h;obtain⟨rfl,rfl,rfl⟩:=h;exact nq S H .ret S1 H1 a w Y _ hx bw.1 A ρ hp
 |cond c x y nq qh=>
  intro S H fl S' H' a w Y Q h bw A ρ hp;simp only[fJ,aC]at bw;simp only[eJ]at h;have hv:=Kb A ρ bw.1.1;split at h<;>try cases h
  .rename_i hc;rw[hc]at hv;exact wp_cond_true hv.bool_inv (nq S H fl S' H' a w Y Q h bw.1.2 A ρ hp)
  .rename_i hc;rw[hc]at hv;exact wp_cond_false hv.bool_inv (qh S H fl S' H' a w Y Q h bw.2 A ρ hp)
 |block id c ih=>
  intro S H fl S' H' a w Y Q h bw A ρ hp;simp only[fJ]at bw;simp only[eJ]at h;refine wp_block ?_;cases hx:eJ P call L c S H with
  |none=>simp[hx]at h
  |some r=>
   obtain⟨f1,S1,H1⟩:=r;simp only[hx]at h;cases f1 with
   |normal=>
    simp only[aA,aB]at h;obtain⟨rfl,rfl,rfl⟩:=h;exact ih S H .normal S1 H1 a w Y _ hx bw A ρ hp
   |ret=>
    simp only[aA,aB]at h;obtain⟨rfl,rfl,rfl⟩:=h;exact ih S H .ret S1 H1 a w Y _ hx bw A ρ hp
   |exit n=>
    simp only[dZ,Bool.cond_decide]at h;split at h
    .rename_i hn;simp only[aA,aB]at h;obtain⟨rfl,rfl,rfl⟩:=h;exact ih S H (.exit n) S1 H1 a w Y _ hx bw A ρ (λa' w' Y' A' ρ' E hl=>by
      show Exit.inBlock id Q (.exit n) a' w';simp only[Exit.inBlock,bJ hn];exact hp a' w' Y' A' ρ' E hl)
    .rename_i hn;simp only[aA,aB]at h;obtain⟨rfl,rfl,rfl⟩:=h;exact ih S H (.exit n) S1 H1 a w Y _ hx bw A ρ (λa' w' Y' A' ρ' E hl=>by
      show Exit.inBlock id Q (.exit n) a' w';simp only[Exit.inBlock,bI hn];exact hp a' w' Y' A' ρ' E hl)
 |loop c ih=>
  intro S H fl S' H' a w Y Q h bw A ρ hp;simp only[fJ]at bw;simp only[eJ]at h;refine wp_loop_rounds L ?_;have main: ∀(n:Nat) (S:ia) (H:St) (a:Act) (w:ib) (Y:Mp),DS (λS H=>eJ P call L c S H) n S H=aa (fl,S',H')->AR Y S α a->Sim w0 P Y H w->Post w0 P Y H.next α S' H' (Q fl.out)->Code.rounds P c Q n a w:=by
   intro n;induction n with
   |zero=>intro S H a w Y h;simp[DS]at h
   |succ n ihn=>
    intro S H a w Y h A ρ hp;rw[rounds_succ];simp only[DS]at h;cases hx:eJ P call L c S H with
    |none=>simp[hx]at h
    |some r=>
     obtain⟨f1,S1,H1⟩:=r;simp only[hx]at h;cases f1 with
     |normal=>
      simp only at h;exact ih S H .normal S1 H1 a w Y _ hx bw A ρ (λa' w' Y' A' ρ' E hl=>ihn S1 H1 a' w' Y' h A' ρ' (hp.later E hl))
     |exit n=>
      simp only[aA,aB]at h;obtain⟨rfl,rfl,rfl⟩:=h;exact ih S H (.exit n) S1 H1 a w Y _ hx bw A ρ hp
     |ret=>
      simp only[aA,aB]at h;obtain⟨rfl,rfl,rfl⟩:=h;exact ih S H .ret S1 H1 a w Y _ hx bw A ρ hp
  exact main L S H a w Y h A ρ hp
 |exit n=>
  intro S H fl S' H' a w Y Q h _ A ρ hp;simp only[eJ,aA,aB]at h;obtain⟨rfl,rfl,rfl⟩:=h;exact wp_exit (hp a w Y A ρ (Ext.refl _ _) (aS _))
 |ret=>
  intro S H fl S' H' a w Y Q h _ A ρ hp;simp only[eJ,aA,aB]at h;obtain⟨rfl,rfl,rfl⟩:=h;exact wp_ret (hp a w Y A ρ (Ext.refl _ _) (aS _))
 |scope c ih=>
  intro S H fl S' H' a w Y Q h bw A ρ hp;simp only[fJ]at bw;simp only[eJ]at h;refine wp_scope_straight (ih S H fl S' H' a w Y _ h bw A ρ ?_);cases fl<;>exact hp
 |goto l=>intro S H fl S' H' a w Y Q h;simp[eJ]at h
 |refuse s=>intro S H fl S' H' a w Y Q h;simp[eJ]at h
 |rangeFunc x ts c d _ _=>intro S H fl S' H' a w Y Q h;simp[eJ]at h
def Gf: ∀(l:au av) (i:Nat) (S:ia) (k:Nat),(qK l i S).at k=if i<=k/\k<i+l.length then(l[k-i]?).getD undef else S.at k:=by
 intro l;induction l with
 |nil=>intro i S k;rw[qK,bI (by simp)]
 |cons v l ih=>
  intro i S k;rw[qK,ih];simp only[aM];by_cases h1:i+1<=k/\k<i+1+l.length
  .rw[bJ h1,bJ (by omega),show k-i=(k-(i+1))+1 by omega];simp
  .rw[bI h1];by_cases h2:k=i
   .subst h2;rw[bJ (by omega)]
    simp[Slots.at,Tr.get_set]
   .rw[bI (by omega)]
    simp[Slots.at,Tr.get_set,h2]
def aCW{S:ia}{α:Nat}{a:Act}{H:St}{w:ib}{Y:Mp}(A:AR Y S α a)(ρ:Sim w0 P Y H w){r:ResultVar}{v:av}(h:uF P S H r=aa v):
    ∃v',(match r with| .tmp t=>(pure (a.tmps.getD t undef):Sem av)| .cell x t=>do loadVar t (<-asAddr (a.tmps.getD x undef))).run P w= .ok v' w/\VR Y v v':=by
 cases r with
 |tmp t=>simp only[uF,aA]at h;subst h;exact⟨_,rfl,A.slot t⟩
 |cell x t=>
  simp only[uF]at h;have hx:=A.slot x;obtain⟨v',h1,h2⟩:=yJ ρ hx h;refine⟨v',?_,h2⟩;unfold iM at h;split at h<;>try cases h
  rename_i id off hS;rw[hS]at hx;obtain⟨p,hp,hu⟩:=hx.ptr_inv;rw[hu]at h1;simp only;rw[hu];simpa [Instr.loadAt,Instr.sureAddr,asAddr]using h1
def TE{S:ia}{α:Nat}{a:Act}{H:St}{w:ib}{Y:Mp}(A:AR Y S α a)(ρ:Sim w0 P Y H w): ∀(l:au ResultVar) (vs:au av),fP P S H l=aa vs->
    ∃us,(l.mapM (λ(r:ResultVar)=>(match r with| .tmp t=>(pure (a.tmps.getD t undef):Sem av)| .cell x t=>do loadVar t (<-asAddr (a.tmps.getD x undef))))).run P w= .ok us w/\VRL Y vs us:=by
 intro l;induction l with
 |nil=>intro vs h;simp only[fP,aA]at h;subst h;exact⟨[],rfl,.nil⟩
 |cons r l ih=>
  intro vs h;simp only[fP]at h;split at h<;>try cases h
  rename_i v py hv kg;obtain⟨u,h1,h2⟩:=aCW A ρ hv;obtain⟨us,h3,h4⟩:=ih py kg;refine⟨u::us,?_,.cons h2 h4⟩;rw[List.mapM_cons];simp only[Sem.run_bind,h1,Result.andThen_ok,h3,Sem.run_pure]
def aDJ{fn:Func}{S:ia}{α:Nat}{a:Act}{H:St}{w:ib}{Y:Mp}(A:AR Y S α a)(ρ:Sim w0 P Y H w){vs:au av}(h:fP P S H fn.results.toList=aa vs):
    ∃v',(results fn a.tmps).run P w= .ok v' w/\VR Y (vH vs) v':=by
 obtain⟨us,h1,h2⟩:=TE A ρ _ _ h;unfold results;rw[Array.mapM_eq_mapM_toList];simp only[Sem.run_bind,Sem.run_map];have h1':(List.mapM (λ(r:ResultVar)=>(match r with| .tmp t=>(pure (a.tmps.getD t undef):Sem av)| .cell x t=>do let __do_lift<-asAddr (a.tmps.getD x undef);loadVar t __do_lift)) fn.results.toList).run P w= .ok us w:=h1
 erw[h1'];simp only[Result.andThen_ok,Sem.run_pure];refine⟨_,rfl,?_⟩
 match vs,us,h2 with
 |[],us,h2=>rw[h2.nil_inv];exact .mkTuple .nil
 |[v],us,h2=>
  obtain⟨u,jp,rfl,h3,h4⟩:=h2.cons_inv;rw[h4.nil_inv];exact h3
 |v1::v2::vs,us,h2=>
  have hl:=h2.1;rw[dif_neg (by simp only[List.size_toArray,<-hl,aM];omega)]
  exact .mkTuple h2
end
section
variable{w0:W0}{P:az}{call:FuncId->Array av->St->f9 (av×St)}
def Kept.trans{a b c:ib}(h:Kept a b)(k:Kept b c):Kept a c:=by
 refine⟨k.os.trans h.os,k.output.trans h.output,oi h.size k.size,λi hi=>?_⟩
 have:=h.size;rw[k.old i (by omega),h.old i hi]
def zJ{w:ib}{b:Nat}{o:Obj}(h:w.heap[b]?=aa o):b<w.heap.size:=by
 by_cases hb:b<w.heap.size
 .exact hb
 .rw[Array.getElem?_eq_none (by omega)]at h;cases h
def Sim.keep{Y:Mp}{H:St}{w w':ib}(S:Sim w0 P Y H w)(K:Kept w w'):Sim w0 P Y H w':=by
 refine⟨⟨S.kept.toKept.trans K,λk o hk=>⟨by have h1:=(S.kept.oth k o hk).1;rw[K.old k (zJ h1)];exact h1,(S.kept.oth k o hk).2⟩,λid p h=>Nat.lt_of_lt_of_le (S.kept.bnd id p h) K.size⟩,S.dom,S.glob,λid p cs m h1 h2 h3=>?_,λid p es h1 h2=>?_,S.off,S.tip,S.maps,S.vers,S.lim⟩
 .obtain⟨⟨C,t,fr,r1,r2,r3⟩,r4,r5,r6,r7⟩:=S.row id p cs m h1 h2 h3;exact⟨⟨C,t,fr,by rw[K.old _ (zJ r1)];exact r1,r2,r3⟩,r4,r5,r6,λhw C1 t1 fr1 e1=>r7 hw C1 t1 fr1 (by rw[<-K.old _ (zJ r1)];exact e1)⟩
 .obtain⟨⟨ES,clock,r1,r2⟩,r3⟩:=S.map id p es h1 h2;exact⟨⟨ES,clock,by rw[K.old _ (zJ r1)];exact r1,r2⟩,r3⟩
structure HU where
 n:Nat
 s:Int->Int->Option (List UInt8)
 m:Nat
 w:Option (Nat×Nat)
inductive OV where
 |s (l:List UInt8)
 |t
def OV.v:OV->av
 | .s l=> .string ⟨l.toArray⟩
 | .t=> .bool ah
def bBn(O:HU)(f:FuncId)(args:Array av):f9 av:=
 bif ao f O.n then(match args.toList with
 |[.int .i64 a,.int .i64 b]=>((O.s a b).map OV.s).map OV.v
 |_=>ae)else bif ao f O.m then(match args.toList with
 |[]=>aa (.bool ah)
 |_=>ae)else ae
def aTb:wB:={eY 1 with wr:=aj}
def bGU(O:HU)(f:FuncId)(args:Array av)(H:St):f9 (av×St):=match O.w with
 |none=>ae
 |some (g,k)=>bif ao f g then(match args.toList with
  |[.int .u32 n]=>bif ak (n=0)then aa (.slice (aa ⟨H.next,0,ae⟩) k (k+1),({H with next:=H.next+1}:St).put H.next (.cells [] aTb))else ae
  |_=>ae)else ae
def Sim.opq{Y:Mp}{H:St}{w:ib}(S:Sim w0 P Y H w){p:Place}{C:Array av}{t:aw}{fr:Nat×Nat}(hb:w.heap[p.b]?=aa (.cells C t fr))(ho: ∀k o,w0.O k=aa o->p.b≠k)(hz:p.z=1):
    Sim w0 P (upd Y H.next p) (({H with next:=H.next+1}:St).put H.next (.cells [] aTb)) w:=by
 have hid:Y H.next=ae:=S.dom _ (aS _)
 have bg: ∀{k q},upd Y H.next p k=aa q->(k=H.next/\q=p)∨(k≠H.next/\Y k=aa q):=by
  intro k q hk;by_cases e:k=H.next
  .subst e;rw[kV]at hk;cases hk;exact .inl ⟨rfl,rfl⟩
  .rw[jM e]at hk;exact .inr ⟨e,hk⟩
 have jy:(({H with next:=H.next+1}:St).put H.next (.cells [] aTb)).get H.next=aa (.cells [] aTb):=by rw[St.get_put,bJ rfl]
 have hold: ∀{k},k≠H.next->(({H with next:=H.next+1}:St).put H.next (.cells [] aTb)).get k=H.get k:=by
  intro k hk;rw[St.get_put,bI hk];rfl
 have bf: ∀m,(({H with next:=H.next+1}:St).put H.next (.cells [] aTb)).good m=H.good m:=λ_=>rfl
 have bv:=mC p hid;have isn: ∀{cs m},(({H with next:=H.next+1}:St).put H.next (.cells [] aTb)).get H.next=aa (.cells cs m)->cs=[]/\m=aTb:=by
  intro cs m h;rw[jy]at h;cases h;exact⟨rfl,rfl⟩
 refine⟨S.kept.upd ho (zJ hb),λid hi=>?_,λg hg=>?_,?_,?_,?_,?_,?_,?_,?_⟩
 .have:H.next+1<=id:=hi
  rw[jM (by omega)];exact S.dom id (by omega)
 .obtain⟨q,h1,h2⟩:=S.glob g hg;exact⟨q,bv _ _ h1,h2⟩
 .intro k q cs m hq hg hm;rcases bg hq with⟨rfl,rfl⟩|⟨hk,ge⟩
  .obtain⟨rfl,rfl⟩:=isn hg;exact⟨⟨C,t,fr,hb,(λi v h=>by simp at h),(λh=>by cases h)⟩,(λh=>by cases h),(λh=>by cases h),hz,λh=>by cases h⟩
  .rw[hold hk]at hg;rw[bf]at hm;obtain⟨⟨C',t',fr',r1,r2,r3⟩,r4,r5,r6,r7⟩:=S.row k q cs m ge hg hm;exact⟨⟨C',t',fr',r1,λi v h=>by obtain⟨u,h1,h2⟩:=r2 i v h;exact⟨u,h1,h2.mono' bv⟩,r3⟩,r4,r5,r6,r7⟩
 .intro k q es hq hg;rcases bg hq with⟨rfl,rfl⟩|⟨hk,ge⟩
  .rw[jy]at hg;cases hg
  .rw[hold hk]at hg;obtain⟨⟨ES,cl,r1,r2,r3⟩,r4⟩:=S.map k q es ge hg;exact⟨⟨ES,cl,r1,r2.mono' bv,r3.mono' bv⟩,r4⟩
 .intro i j q r cs ds m n bp hq hr hg bj hm hn hw hs;rcases bg hq with⟨rfl,rfl⟩|⟨hi,ge⟩
  .obtain⟨rfl,rfl⟩:=isn hg;cases hw
  .rcases bg hr with⟨rfl,rfl⟩|⟨hj,bz⟩
   .obtain⟨rfl,rfl⟩:=isn bj;exact λ_ x _ _ h3 h4=>by simp at h4;omega
   .rw[hold hi]at hg;rw[hold hj]at bj;exact S.off i j q r cs ds m n bp ge bz hg bj hm hn hw hs
 .intro i j q r cs ds m n bp hq hr hg bj hm hn hw;rcases bg hq with⟨rfl,rfl⟩|⟨hi,ge⟩
  .obtain⟨rfl,rfl⟩:=isn hg;cases hw
  .rcases bg hr with⟨rfl,rfl⟩|⟨hj,bz⟩
   .obtain⟨rfl,rfl⟩:=isn bj;exact⟨λ_ x _ _ h3 h4=>by simp at h4;omega,λh=>by cases h⟩
   .rw[hold hi]at hg;rw[hold hj]at bj;exact S.tip i j q r cs ds m n bp ge bz hg bj hm hn hw
 .intro i j q r es fs bp hq hr hg bj;rcases bg hq with⟨rfl,rfl⟩|⟨hi,ge⟩
  .rw[jy]at hg;cases hg
  .rcases bg hr with⟨rfl,rfl⟩|⟨hj,bz⟩
   .rw[jy]at bj;cases bj
   .rw[hold hi]at hg;rw[hold hj]at bj;exact S.maps i j q r es fs bp ge bz hg bj
 .intro k cs m g v hg gr;by_cases hk:k=H.next
  .subst hk;obtain⟨rfl,rfl⟩:=isn hg;cases gr
  .rw[hold hk]at hg;exact S.vers k cs m g v hg gr
 .intro i j q r cs ds m n bp hq hr hg bj hm hn hw;rcases bg hq with⟨rfl,rfl⟩|⟨hi,ge⟩
  .obtain⟨rfl,rfl⟩:=isn hg;cases hw
  .rcases bg hr with⟨rfl,rfl⟩|⟨hj,bz⟩
   .obtain⟨rfl,rfl⟩:=isn bj;exact λ_ x _ _ h3 h4=>by simp at h4;omega
   .rw[hold hi]at hg;rw[hold hj]at bj;exact S.lim i j q r cs ds m n bp ge bz hg bj hm hn hw
def OC(P:az)(f:FuncId)(n:Nat):Bool:=match P.funcs[f]? with
 |some fn=>ao (fn.params.size+fn.nfree) n
 |none=>aj
def oZ(P:az)(fn:Func):f9 (Fl×ia×St)->f9 (av×St)
 |some (.exit _,_,_)=>ae
 |some (_,S,H')=>(fP P S H' fn.results.toList).map λvs=>(vH vs,H')
 |none=>ae
def Dw(P C:az)(O:HU)(L:Nat):Nat->FuncId->Array av->St->f9 (av×St)
 |0,_,_,_=>ae
 |n+1,f,args,H=>match bBn O f args with
  |some v=>aa (v,H)
  |none=>match bGU O f args H with
   |some x=>aa x
   |none=>bif OC P f args.size then(match C.funcs[f]? with
    |some fn=>match fn.body with
     |some c=>oZ P fn (eJ P (Dw P C O L n) L c (qK args.toList 0 .nil) H)
     |none=>ae
    |none=>ae)else ae
def aUx(w0:W0)(P:az)(f:FuncId)(fn:Func)(c:Code):Prop:=
 (∃fn c,P.funcs[f]?=aa fn/\fn.body=aa c/\(fn.name== "runtime.NumGoroutine")=aj)/\
 ∀(call:FuncId->Array av->St->f9 (av×St)) (L:Nat),(∀w1:W0,w1.toWorld=w0.toWorld->iV w1 P call)->∀(args args':Array av) (H H':St) (w:ib) (Y:Mp) (r:av),
  oZ P fn (eJ P call L c (qK args.toList 0 .nil) H)=aa (r,H')->Sim w0 P Y H w->VRL Y args.toList args'.toList->OC P f args.size=ah->
  Calls P f args' w λe w'=> ∃Y' r',e= .returned r'/\VR Y' r r'/\Sim w0 P Y' H' w'/\Ext H.next Y Y'/\H.next<=H'.next
def aLF(w0:W0)(P C:az):Prop:= ∀f fn c,C.funcs[f]?=aa fn->fn.body=aa c->(P.funcs[f]?=aa fn/\rX P fn=ah)∨aUx w0 P f fn c
def aKS(P:az)(w0:ib)(O:HU):Prop:=(∀a b s,O.s a b=aa s->∀w,Kept w0 w->
 (∃fn c,P.funcs[O.n]?=aa fn/\fn.body=aa c/\(fn.name== "runtime.NumGoroutine")=aj)/\Calls P O.n #[.int .i64 a,.int .i64 b] w λe w'=>e= .returned (.string ⟨s.toArray⟩)/\Kept w w')/\
 (O.m=O.n∨∀w,Kept w0 w->(∃fn c,P.funcs[O.m]?=aa fn/\fn.body=aa c/\(fn.name== "runtime.NumGoroutine")=aj)/\Calls P O.m #[] w λe w'=>e= .returned (.bool ah)/\Kept w w')/\
 ∀g k,O.w=aa (g,k)->∀w,Kept w0 w->(∃fn c,P.funcs[g]?=aa fn/\fn.body=aa c/\(fn.name== "runtime.NumGoroutine")=aj)/\Calls P g #[.int .u32 0] w λe w'=>
  (∃b off cap C t fr,e= .returned (.slice (aa ⟨b,off,ae⟩) k cap)/\k<=cap/\w'.heap[b]?=aa (.cells C t fr)/\(b<P.globals.size∨w.heap.size<=b))/\Kept w w'
def aCU(jz:P.toTables.follows .mixedOrders=ah){L:Nat}{f:FuncId}{fn:Func}{c:Code}(hf:P.funcs[f]?=aa fn)(hb:fn.body=aa c)(gt:rX P fn=ah)(ih1:iV w0 P call)
    {args args':Array av} {H H':St} {w:ib} {Y:Mp} {r:av} (h:oZ P fn (eJ P call L c (qK args.toList 0 .nil) H)=aa (r,H')) (ρ:Sim w0 P Y H w) (hargs:VRL Y args.toList args'.toList):
    (∃fn c,P.funcs[f]?=aa fn/\fn.body=aa c/\(fn.name== "runtime.NumGoroutine")=aj)/\
    Calls P f args' w λe w'=> ∃Y' r',e= .returned r'/\VR Y' r r'/\Sim w0 P Y' H' w'/\Ext H.next Y Y'/\H.next<=H'.next:=by
 simp only[rX,hb,aC,io]at gt;refine⟨⟨fn,c,hf,hb,gt.2⟩,?_⟩;cases hx:eJ P call L c (qK args.toList 0 .nil) H with
 |none=>simp[hx,oZ]at h
 |some x=>
  obtain⟨fl,S',H1⟩:=x;have A0:AR Y (qK args.toList 0 .nil) fn.ntmps {tmps:=args'++Array.replicate (fn.ntmps-args'.size) undef,defers:=[]}:=by
   have bu:=hargs.size;refine⟨by simp;omega,rfl,λi=>?_⟩
   rw[Gf];simp only[b7,true_and,Nat.zero_add,Nat.sub_zero,Array.length_toList];rw[iz];by_cases hi:i<args.size
   .rw[bJ hi,Array.getElem?_append_left (by omega)]
    have h1:args.toList[i]?=aa args[i]:=by simp[hi]
    obtain⟨u,hu,hr⟩:=hargs.get h1;have ki:args'[i]?=aa u:=by simpa using hu
    rw[h1,ki];exact hr
   .rw[bI hi,Array.getElem?_append_right (by omega)]
    have:((Array.replicate (fn.ntmps-args'.size) undef)[i-args'.size]?).getD undef=undef:=by
     by_cases h2:i-args'.size<fn.ntmps-args'.size
     .simp[h2]
     .simp[h2]
    rw[this];exact .undef
  have fin: ∀(R:Exit),R= .normal∨R= .ret->(fP P S' H1 fn.results.toList).map (λvs=>(vH vs,H1))=aa (r,H')->
        Post w0 P Y H.next fn.ntmps S' H1 (bodyPost P fn (λe w'=> ∃Y' r',e= .returned r'/\VR Y' r r'/\Sim w0 P Y' H' w'/\Ext H.next Y Y'/\H.next<=H'.next) R):=by
   intro R hR gc a' w' Y' A' ρ' E hl;rw[aF]at gc;obtain⟨vs,kg,he⟩:=gc;cases he;obtain⟨v',h1,h2⟩:=aDJ A' ρ' kg;rcases hR with rfl|rfl
   .exact⟨A'.defers,v',h1,Y',v',rfl,h2,ρ',E,hl⟩
   .exact⟨A'.defers,v',h1,Y',v',rfl,h2,ρ',E,hl⟩
  refine calls_of_wp hf hb ?_;cases fl with
  |exit k=>simp[hx,oZ]at h
  |normal=>simp only[hx,oZ]at h;exact rL ih1 jz L fn.ntmps c _ H .normal S' H1 _ w Y _ hx gt.1 A0 ρ (fin .normal (.inl rfl) h)
  |ret=>simp only[hx,oZ]at h;exact rL ih1 jz L fn.ntmps c _ H .ret S' H1 _ w Y _ hx gt.1 A0 ρ (fin .ret (.inr rfl) h)
def Ss{C:az}(jz:P.toTables.follows .mixedOrders=ah){β:ib}(hC: ∀w0:W0,w0.toWorld=β->aLF w0 P C){O:HU}(hO:aKS P β O)(L:Nat): ∀n (w0:W0),w0.toWorld=β->iV w0 P (Dw P C O L n):=by
 intro n;induction n with
 |zero=>intro w0 hw f args args' H H' w Y r h;simp[Dw]at h
 |succ n ih=>
  intro w0 hw;have hC1:=hC w0 hw;have ih1:=ih w0 hw;subst hw;intro f args args' H H' w Y r h ρ hargs;simp only[Dw]at h;split at h
  .rename_i v hv;simp only[aA,aB]at h;obtain⟨rfl,rfl⟩:=h;unfold bBn at hv;cases hf:ao f O.n with
   |false=>
    rw[hf,aJ]at hv;cases hm:ao f O.m with
    |false=>rw[hm]at hv;cases hv
    |true=>
    rw[hm,aI]at hv;have hfm:=aE hm;subst hfm;split at hv
    .rename_i he;cases hv;rw[he]at hargs;have q3:args'= #[]:=by rw[<-Array.toArray_toList (xs:=args'),hargs.nil_inv]
     subst q3;rcases hO.2.1 with h7|h7
     .rw[h7,Nat.beq_refl]at hf;cases hf
     .obtain⟨g1,g2⟩:=h7 w ρ.kept.toKept;exact⟨g1,g2.mono λe w' ⟨h5,h6⟩=>⟨Y,_,h5,.same _ rfl,ρ.keep h6,.refl _ _,aS _⟩⟩
    .cases hv
   |true=>
   rw[hf,aI]at hv;rw[aE hf];split at hv
   .rename_i a b he;rw[aF]at hv;obtain⟨x,hx,rfl⟩:=hv;rw[aF]at hx;obtain⟨s,hs,rfl⟩:=hx;rw[he]at hargs;obtain⟨u,us,e1,r1,h3⟩:=hargs.cons_inv;obtain⟨u2,us2,rfl,r2,h4⟩:=h3.cons_inv;rw[h4.nil_inv]at e1;have q1:u= .int .i64 a:=by cases r1;rfl
    have q2:u2= .int .i64 b:=by cases r2;rfl
    subst q1;subst q2;have q3:args'= #[.int .i64 a,.int .i64 b]:=by rw[<-Array.toArray_toList (xs:=args'),e1]
    subst q3;obtain⟨g1,g2⟩:=hO.1 a b s hs w ρ.kept.toKept;exact⟨g1,g2.mono λe w' ⟨h5,h6⟩=>⟨Y,_,h5,.same _ rfl,ρ.keep h6,.refl _ _,aS _⟩⟩
   .cases hv
  split at h
  .rename_i x hx;simp only[aA]at h;subst h;unfold bGU at hx;split at hx
   .cases hx
   .rename_i g k hg;cases vz:ao f g with
    |false=>rw[vz]at hx;cases hx
    |true=>
     rw[vz,aI]at hx;rw[aE vz];split at hx
     .rename_i n0 he;cases hn0:ak (n0=(0:Int))with
      |false=>rw[hn0]at hx;cases hx
      |true=>
      rw[hn0]at hx;simp only[aI,aA,aB]at hx;obtain⟨rfl,rfl⟩:=hx;rw[bL hn0]at he;rw[he]at hargs;obtain⟨u,us,e1,r1,h3⟩:=hargs.cons_inv;rw[h3.nil_inv]at e1;have q1:u= .int .u32 0:=by cases r1;rfl
      subst q1;have q3:args'= #[.int .u32 0]:=by rw[<-Array.toArray_toList (xs:=args'),e1]
      subst q3;obtain⟨g1,g2⟩:=hO.2.2 g k hg w ρ.kept.toKept;refine⟨g1,g2.mono ?_⟩;rintro e w' ⟨⟨b,off,cap,C,t,fr,rfl,hk,hb,hbg⟩,h6⟩;have ρ':=ρ.keep h6;have hO': ∀j o,w0.O j=aa o->(⟨b,off,off+cap,1⟩:Place).b≠j:=λj o hj=>by
       show b≠j;have h7:=ρ.kept.oth j o hj;rcases hbg with h8|h8
       .obtain⟨q,h9,h10,_⟩:=ρ.glob b h8;have:=h7.2 b q h9;omega
       .have:=zJ h7.1;omega
      refine⟨_,.slice (aa ⟨b,off,ae⟩) k cap,rfl,?_,ρ'.opq (p:=⟨b,off,off+cap,1⟩) hb hO' rfl,⟨mC _ (ρ.dom _ (aS _)),λid hi=>jM (by omega)⟩,Nat.le_succ _⟩
      exact .slc H.next 0 k (k+1) cap ⟨b,off,off+cap,1⟩ (kV _ _ _) (λe=>by omega) hk (.inl (by simp))
     .cases hx
  cases px:OC P f args.size with
  |false=>rw[px]at h;cases h
  |true=>
  rw[px,aI]at h;split at h<;>try cases h
  rename_i fn hf;split at h<;>try cases h
  rename_i c hb;rcases hC1 f fn c hf hb with⟨hf,gt⟩|⟨g1,g2⟩
  rotate_left
  .exact⟨g1,g2 _ L ih _ _ _ _ _ _ _ h ρ hargs px⟩
  exact aCU jz hf hb gt ih1 h ρ hargs
end
section
variable{P:az}{ops:Array ic}{base i:Nat}{l:au ic}{S:ia}{H:St}{Q:ia->St->Prop}{d:f9 Tmp}{ty:aw}{pos:String}{af:Array Edge}
def iX(P:az)(op:BinOp)(t:aw)(x y:a8)(a b:av):f9 av:=
 bif dP a&&dP b then dU P (do eqGuard op t x y a b;binOp op t a b)
 else match P.underlying t with
  |some (.slice _)=>aIY op a b
  |_=>ae
def aI2(P:az)(s t:aw)(a:av):f9 av:=bif bZ a then dU P (convert s t a)else ae
end
section
variable{P:az}{S:ia}{H:St}{Q:Fl->ia->St->Prop}
section
variable{t:aw}{x y:a8}{k:IntKind}{a b:Int}
def bB9:iX P .lss t x y (.int k a) (.int k b)=aa (.bool (ak (a<b))):=by cases k<;>rfl
def bCa:iX P .leq t x y (.int k a) (.int k b)=aa (.bool (ak (a<=b))):=by cases k<;>rfl
def bCb:iX P .gtr t x y (.int k a) (.int k b)=aa (.bool (ak (b<a))):=by cases k<;>rfl
def bCc:iX P .geq t x y (.int k a) (.int k b)=aa (.bool (ak (b<=a))):=by cases k<;>rfl
def bCd:iX P .eql t x y (.int k a) (.int k b)=aa (.bool (a==b)):=by cases k<;>rfl
def bB6:iX P .neq t x y (.int k a) (.int k b)=aa (.bool (a !=b)):=by cases k<;>rfl
def bCg:iX P .add t x y (.int k a) (.int k b)=aa (.int k (k.wrap (a+b))):=by cases k<;>rfl
def bB1:iX P .sub t x y (.int k a) (.int k b)=aa (.int k (k.wrap (a-b))):=by cases k<;>rfl
def bB8:iX P .mul t x y (.int k a) (.int k b)=aa (.int k (k.wrap (a*b))):=by cases k<;>rfl
def bB5(h:b≠0):iX P .quo t x y (.int k a) (.int k b)=aa (.int k (k.wrap (a.tdiv b))):=by
 cases k<;>simp[iX,dP,bZ,dU,bT,eqGuard,binOp,Op.intDiv,h,cB]
def bB4(h:b≠0):iX P .rem t x y (.int k a) (.int k b)=aa (.int k (a.tmod b)):=by
 cases k<;>simp[iX,dP,bZ,dU,bT,eqGuard,binOp,Op.intDiv,h,cB]
def bB3{k':IntKind}(h:0<=b):iX P .shl t x y (.int k a) (.int k' b)=aa (.int k (k.wrap (a*2^(min b.toNat k.bits)))):=by
 have: ¬b<0:=by omega
 cases k<;>simp[iX,dP,bZ,dU,bT,eqGuard,binOp,Op.shift,this,cB]
def bB2{k':IntKind}(h:0<=b):iX P .shr t x y (.int k a) (.int k' b)=aa (.int k (a.fdiv (2^(min b.toNat k.bits)))):=by
 have: ¬b<0:=by omega
 cases k<;>simp[iX,dP,bZ,dU,bT,eqGuard,binOp,Op.shift,this,cB]
def bCf:iX P .and t x y (.int k a) (.int k b)=aa (.int k (k.wrap ((BitVec.ofInt k.bits a&&&BitVec.ofInt k.bits b).toNat:Int))):=by cases k<;>rfl
def bJV:iX P .or t x y (.int k a) (.int k b)=aa (.int k (k.wrap ((BitVec.ofInt k.bits a|||BitVec.ofInt k.bits b).toNat:Int))):=by cases k<;>rfl
def bB0:iX P .xor t x y (.int k a) (.int k b)=aa (.int k (k.wrap ((BitVec.ofInt k.bits a^^^BitVec.ofInt k.bits b).toNat:Int))):=by cases k<;>rfl
def aG3:iX P .andNot t x y (.int k a) (.int k b)=aa (.int k (k.wrap ((BitVec.ofInt k.bits a&&& ~~~ BitVec.ofInt k.bits b).toNat:Int))):=by cases k<;>rfl
def aBj{c e:Bool}(ht:P.underlying t=aa .bool):cU P (Op.equal t (.bool c) (.bool e))=aa (c==e):=by
 unfold Op.equal;rw[show Op.maxDepth=Nat.succ 9999 from rfl,Op.equalIn.eq_2,bT,cC,ht];rfl
def bCe{c e:Bool}(ht:P.underlying t=aa .bool):iX P .eql t x y (.bool c) (.bool e)=aa (.bool (c==e)):=by
 simp only[iX,dP,bZ,Bool.and_self,aI,dU,bT,eqGuard,bE,im,bP,cB,aL,binOp,aBj ht]
def bB7{c e:Bool}(ht:P.underlying t=aa .bool):iX P .neq t x y (.bool c) (.bool e)=aa (.bool (!(c==e))):=by
 simp only[iX,dP,bZ,Bool.and_self,aI,dU,bT,eqGuard,bE,im,bP,cB,aL,binOp,aBj ht]
def a1I{s:aw}{d:TypeDesc}{k':IntKind}(hs:P.underlying s=aa d)(ht:P.underlying t=aa (.int k')):aI2 P s t (.int k a)=aa (.int k' (k'.wrap a)):=by
 unfold aI2;simp only[bZ,aI,dU,convert,bT,cC,hs,ht,aL,Conv.intToInt,cB,dP]
end
end
mutual
def nZ: ∀(a:av),gC a a=ah
 | .bool a| .int j a| .float j a| .complex j a c| .pointer a| .slice a l c| .map a| .chan a| .nilFunc| .nilIface=>by simp[gC]
 | .string a=>by simp[gC]
 | .func f ⟨xs⟩ ⟨ys⟩=>by simp[gC,oC xs,oC ys]
 | .iface t v=>by simp[gC,nZ v]
 | .agg ⟨xs⟩=>by simp[gC,oC xs]
 | .tuple ⟨xs⟩=>by simp[gC,oC xs]
def oC: ∀(a:au av),sS a a=ah
 |[]=>by simp[sS]
 |x::xs=>by simp[sS,nZ x,oC xs]
end
def ER: ∀(a:au (av×av)),Bw a a=ah
 |[]=>by simp[Bw]
 |x::xs=>by simp[Bw,nZ,ER xs]
def HY(m:wB):wP m m=ah:=by simp[wP,dZ]
def Bv(a:AObj):rB a a=ah:=by
 cases a with
 |cells cs m=>simp[rB,oC,HY]
 |map es=>simp[rB,ER]
end Go.AI
namespace Go.PI
open Go.AI
def Rz(H H':St):Prop:= ∀a cs m,H.get a=aa (.cells cs m)->∃cq b,H'.get a=aa (.cells cq {m with tip:=b})
def bEI:Ga:=λ_=>ae
section
variable{P:az}{J J':Nu}{I I1 I':Ga}{H H':St}{S:PS}{A:ia}{base:Nat}
def Qt.put{id:Nat}{o:AObj}(hf:H.get id=ae):Qt H (H.put id o):=
 ⟨rfl,λa ob h=> .inl (by rw[cK,bI (λe=>by rw[e,hf]at h;cases h)];exact h)⟩
def Qt.row(q:Qt H H'){id:Nat}{cs:au av}{m:wB}(h:H.row id=aa (cs,m)): ∃b,H'.row id=aa (cs,{m with tip:=b}):=by
 obtain⟨h1,h2⟩:=fS h;rcases q.get id _ h1 with e|⟨cq,m',b,e1,_,e2⟩
 .exact⟨m.tip,row_of_get e (by rw[pZ q.vers];exact h2)⟩
 .simp only[AObj.cells.injEq]at e1;obtain⟨rfl,rfl⟩:=e1;exact⟨b,row_of_get e2 (by rw[pZ q.vers];exact h2)⟩
def aDK{t:aw}{w u:av}(bh: ∀id cs m,H.row id=aa (cs,m)->∃m',H'.row id=aa (cs,m'))(h:iM P H t w=aa u):iM P H' t w=aa u:=by
 unfold iM at h⊢;split at h
 .split at h
  .rename_i cs m hr;obtain⟨m',bz⟩:=bh _ _ _ hr;simp only[bz];exact h
  .cases h
 .cases h
def Vy{t:aw}{w u:av}{lo hi mx:f9 av}(bh: ∀id cs m,H.row id=aa (cs,m)->∃cq m',H'.row id=aa (cq,m')/\m'.z=m.z)
    (hex: ∀id off n c,w= .slice (aa ⟨id,off,ae⟩) n c->∃cs m,H.row id=aa (cs,m)) (h:yG P H t w lo hi mx=aa u):yG P H' t w lo hi mx=aa u:=by
 unfold yG at h⊢;split at h
 .exact h
 .rename_i e he;split at h
  .rename_i a len c;split at h
   .rename_i z l hh m e1 e2 e3 e4;cases hc:ak (0<=l.getD 0)&&ak (l.getD 0<=hh.getD (len:Int))&&ak (hh.getD (len:Int)<=(len:Int))with
    |false=>simp only[hc,aJ]at h;cases h
    |true=>
     simp only[hc,aI]at h⊢;split at h
     .exact h
     .rename_i id off;obtain⟨cs,mm,hr⟩:=hex id off len c rfl;obtain⟨cq,m',bz,kf⟩:=bh _ _ _ hr;have:rU H' id z=rU H id z:=by simp only[rU,hr,bz,kf]
      rw[this];exact h
     .exact h
   .cases h
  .cases h
 .split at h
  .rename_i id off _ _;cases hz:rU H id 0 with
   |false=>rw[hz]at h;cases h
   |true=>
    have:rU H' id 0=ah:=by
     unfold rU at hz⊢;split at hz
     .rename_i cs m hr;obtain⟨cq,m',bz,kf⟩:=bh _ _ _ hr;simp only[bz,kf];exact hz
     .cases hz
    rw[hz]at h;rw[this];exact h
  .cases h
 .cases h
def aIZ(q:Qt H H'){Z:a8->av}{o:ic}{t:aw}{a:a8}(ho:o.op= .load t a){v:av}(h:mA P H Z o=aa v):mA P H' Z o=aa v:=by
 simp only[mA,ho]at h⊢;refine aDK (λid cs m hr=>?_) h
 obtain⟨b,hb⟩:=q.row hr;exact⟨_,hb⟩
def Gz(q:Qt H H'){r:jV}(hl:r.ob=ae->∃t a,r.o.op= .load t a)(hb: ∀ob,r.ob=aa ob->(∀a,H.get a=aa ob->H'.get a=aa ob))(h:check P base H r=ah):check P base H' r=ah:=by
 unfold check at h⊢;split at h
 .rename_i e;split at h
  .rename_i v hv;obtain⟨t,a,ho⟩:=hl e;simp only[aIZ q ho hv];exact h
  .cases h
 .rename_i ob e;split at h
  .rename_i ob' hg;have:=EQ h;subst this;simp only[hb ob' e _ hg];exact h
  .cases h
def Stab(P:az)(base:Nat)(J:Nu)(H:St)(r:jV):Prop:= ∀J' H',Keep J bEI H H'->Mon H J J'->Rz H H'->check P base H' r=ah
def Stab.adv{p p':PSt}{r:jV}(h:Stab P base J H r)(a:Adv J I p H J' I' p' H'):Stab P base J' H' r:=by
 intro J'' H'' k m z;refine h J'' H'' (Keep.trans (I:=bEI) (I':=bEI) (a.keep.weak λ_ h=>by cases h) a.mon k (.refl H _)) (a.mon.trans m a.keep.dom) λx cs mm hx=>?_
 obtain⟨cq,b,h1⟩:=a.rz x cs mm hx;obtain⟨wn,b',h2⟩:=z x cq _ h1;exact⟨wn,b',h2⟩
def aBR(base:Nat)(r:jV)(a:Nat):Prop:=(r.ob=ae/\∃t x off,r.o.op= .load t x/\ev r.S x= .pointer (aa ⟨a,off,ae⟩))∨(r.ob≠ae/\base+r.i=a)
def Vt{r:jV}{a:Nat}(hl:aBR base r a)(hg:H'.get a=H.get a)(hv:H'.vers=H.vers)(h:check P base H r=ah):check P base H' r=ah:=by
 unfold check at h⊢;rcases hl with⟨h1,t,x,off,h2,h3⟩|⟨h1,h2⟩
 .rw[h1]at h⊢;have bh:H'.row a=H.row a:=by
   simp only[St.row,hg];cases H.get a with
   |none=>rfl
   |some o=>cases o with
    |cells cs m=>simp only[pZ hv]
    |map es=>rfl
  simp only[mA,h2,iM,h3,bh]at h⊢;exact h
 .cases fj:r.ob with
  |none=>exact absurd fj h1
  |some ob=>rw[fj]at h;simp only[h2,hg]at h⊢;exact h
structure Trk(P:az)(base:Nat)(J:Nu)(p:PSt)(H:St)(q:kR)(r:jV):Prop where
 cl: ∀id,aNk q.o q.a q.v=aa id->id∉p.wr->∃a,J id=aa (aa a)/\aBR base r a/\check P base H r=ah
 i:q.i=r.i
 ok:q.stale=aj->check P base H r=ah
 box:mK q.o=aj->∀ob,r.ob=aa ob->∃cs,ob= .cells cs boxMeta
 rd:r.ob=ae->∃t a,r.o.op= .load t a
 ld: ∀t a,q.o.op= .load t a->r.ob=ae/\r.o=q.o/\R J H q.a (ev r.S a)/\R J H q.v r.v
def Inv(P:az)(base:Nat)(J:Nu)(p:PSt)(H:St)(Pl:au kR)(Rl:au jV):Prop:= ∀r∈Rl,Stab P base J H r∨∃q∈Pl,Trk P base J p H q r
def Trk.adv_cl{p p':PSt}{q:kR}{r:jV}(T:Trk P base J p H q r)(a:Adv J I p H J' I' p' H'): ∀id,aNk q.o q.a q.v=aa id->id∉p'.wr->∃a,J' id=aa (aa a)/\aBR base r a/\check P base H' r=ah:=by
 intro id hid hd;obtain⟨b,h1,h2,h3⟩:=T.cl id hid λhh=>hd (a.dp.wr id hh)
 obtain⟨e1,e2⟩:=a.bx id b h1 hd;exact⟨b,e2,h2,Vt h2 e1 a.keep.vers h3⟩
mutual
def QM: ∀{x y:PV},Di x y=ah->x=y
 | .v a,.v b,h=>by rw[sQ a b h]
 | .str a,.str b,h=>by simp only[Di,beq_iff_eq]at h;rw[h]
 | .agg xs,.agg ys,h=>by rw[JE h]
 | .v _,.str _,h| .v _,.agg _,h| .v _,.tup _,h| .v _,.nil,h| .v _,.emp,h| .v _,.sl _ _,h| .v _,.pin _ _ _,h| .v _,.ptr _ _,h| .v _,.rs _ _ _,h| .v _,.mp _,h| .v _,.fn _ _ _,h| .v _,.und,h=>by simp[Di]at h
 | .str _,.v _,h| .str _,.agg _,h| .str _,.tup _,h| .str _,.nil,h| .str _,.emp,h| .str _,.sl _ _,h| .str _,.pin _ _ _,h| .str _,.ptr _ _,h| .str _,.rs _ _ _,h| .str _,.mp _,h| .str _,.fn _ _ _,h| .str _,.und,h=>by simp[Di]at h
 | .agg _,.v _,h| .agg _,.str _,h| .agg _,.tup _,h| .agg _,.nil,h| .agg _,.emp,h| .agg _,.sl _ _,h| .agg _,.pin _ _ _,h| .agg _,.ptr _ _,h| .agg _,.rs _ _ _,h| .agg _,.mp _,h| .agg _,.fn _ _ _,h| .agg _,.und,h=>by simp[Di]at h
 | .tup _,_,h| .nil,_,h| .emp,_,h| .sl _ _,_,h| .pin _ _ _,_,h| .ptr _ _,_,h| .rs _ _ _,_,h| .mp _,_,h| .fn _ _ _,_,h| .und,_,h=>by simp[Di]at h
def JE: ∀{xs ys:au PV},EP xs ys=ah->xs=ys
 |[],[],_=>rfl
 |x::xs,y::ys,h=>by
  simp only[EP,aC]at h;rw[QM h.1,JE h.2]
 |[],_::_,h|_::_,[],h=>by simp[EP]at h
end
def Inv.check{p:PSt}{Pl:au kR}{Rl:au jV}(γ:Inv P base J p H Pl Rl)(M:Mem J I p H)(h:Pl.all (rW P p)=ah):Rl.all (AI.check P base H)=ah:=by
 rw[bK]at h⊢;intro r hr;rcases γ r hr with hs|⟨q,hq,T⟩
 .exact hs J H (.refl J bEI H) (.refl H J) λa cs m h=>⟨cs,m.tip,h⟩
 .have hc:=h q hq;unfold rW at hc;cases cb:q.stale with
  |false=>exact T.ok cb
  |true=>
   rw[cb]at hc;simp only[bE,n9,d7]at hc;rcases hc with hc|hc
   .cases wj:aNk q.o q.a q.v with
    |none=>rw[wj]at hc;cases hc
    |some id=>
     rw[wj]at hc;simp only[aBo,io,List.contains_eq_mem,bD]at hc;obtain⟨_,_,_,h3⟩:=T.cl id wj hc;exact h3
   split at hc
   .rename_i t a ho;simp only[aC]at hc;obtain⟨h1,h2,h3,h4⟩:=T.ld t a ho;cases hv:aEE q.v with
    |none=>rw[hv]at hc;simp at hc
    |some w=>
     split at hc
     .rename_i v' hl;have:=QM hc.2;subst this;obtain⟨u,hu,bz⟩:=Fi M h3 hl;obtain⟨rfl,_⟩:=KX hv bz;obtain⟨e,_⟩:=KX hv h4;unfold AI.check;rw[h1];simp only[mA,h2,ho,hu];rw[e];exact nZ _
     .simp at hc
   .cases hc
def VG{id:Nat}{c:Call}{s x u:av}(hf:H.get id=ae)(h1:oO P H id c s x=aa (u,H')):Qt H H':=by
 unfold oO at h1;split at h1
 .split at h1
  .rename_i e d _ _;cases hc:IM d x with
   |false=>rw[hc,aJ]at h1;cases h1
   |true=>
    rw[hc,aI]at h1;split at h1
    .rename_i info _;split at h1
     .rename_i n xs z _ _;cases hc2:xs.all one&&aq 1 info.size&&aq 1 info.bytes&&ao z.cells.size info.size&&iH s with
      |false=>rw[hc2,aJ]at h1;cases h1
      |true=>
       rw[hc2,aI]at h1;cases hc3:ao n 0 with
       |true=>rw[hc3,aI]at h1;simp only[aA,aB]at h1;obtain⟨_,rfl⟩:=h1;exact .refl H
       |false=>
        rw[hc3,aJ]at h1;unfold nN at h1;split at h1
        .cases hc4:aq (n*info.bytes) 1073741824 with
         |false=>rw[hc4,aJ]at h1;cases h1
         |true=>rw[hc4,aI]at h1;simp only[aA,aB]at h1;obtain⟨_,rfl⟩:=h1;exact .put hf
        .rename_i id0 off len k;cases hc4:aq ((len+n)*info.bytes) 1073741824 with
         |false=>rw[hc4,aJ]at h1;cases h1
         |true=>
          rw[hc4,aI]at h1;split at h1
          .rename_i cs m bh;split at h1
           .rename_i old _;cases hc5:ao k len with
            |true=>rw[hc5,aI]at h1;simp only[aA,aB]at h1;obtain⟨_,rfl⟩:=h1;exact .put hf
            |false=>
             rw[hc5,aJ]at h1;cases hc6:m.tip&&m.wr&&ao m.z info.size&&ao (off+len*info.size) cs.length&&m.grp.isSome with
             |false=>rw[hc6,aJ]at h1;cases h1
             |true=>
              rw[hc6,aI]at h1;simp only[aA,aB]at h1;obtain⟨_,rfl⟩:=h1;simp only[aC]at hc6;refine⟨rfl,λa ob hg=>?_⟩
              rw[cK,bI (λe=>by rw[e,hf]at hg;cases hg),cK]
              by_cases e2:a=id0
              .subst e2;rw[(fS bh).1]at hg;simp only[aA]at hg;subst hg;rw[bJ rfl];exact .inr ⟨cs,m,aj,rfl,hc6.1.1.1.1,rfl⟩
              .rw[bI e2];exact .inl hg
           .cases h1
          .cases h1
        .rename_i b0 o0 s0 l0 k0;cases hc4:ao s0 1&&aq (n*info.bytes) 1073741824 with
         |false=>rw[hc4,aJ]at h1;cases h1
         |true=>rw[hc4,aI]at h1;simp only[aA,aB]at h1;obtain⟨_,rfl⟩:=h1;exact .put hf
        .cases h1
     .cases h1
    .cases h1
  .cases h1
 .cases h1
def Inv.qt{p p':PSt}{Pl:au kR}{Rl:au jV}(γ:Inv P base J p H Pl Rl)(a:Adv J I p H J' I' p' H')(q:Qt H H')(hx: ∀q∈Pl,mK q.o=ah->q.stale=aj->∀a ob,H.get a=aa ob->H'.get a=aa ob):Inv P base J' p' H' Pl Rl:=by
 intro r hr;rcases γ r hr with hs|⟨k,hk,T⟩
 .exact .inl (hs.adv a)
 .refine .inr ⟨k,hk,T.adv_cl a,T.i,λcb=>Gz q T.rd (λob fj b hb=>?_) (T.ok cb),T.box,T.rd,λt x ho=>?_⟩
  .cases hm:mK k.o with
   |true=>exact hx k hk hm cb b ob hb
   |false=>
    obtain⟨cs,rfl⟩:=T.box hm ob fj;rcases q.get b _ hb with e|⟨cq,m',b',e1,e2,_⟩
    .exact e
    .simp only[AObj.cells.injEq]at e1;obtain⟨rfl,rfl⟩:=e1;cases e2
  .obtain⟨h1,h2,h3,h4⟩:=T.ld t x ho;exact⟨h1,h2,h3.keep a.keep a.mon,h4.keep a.keep a.mon⟩
def Inv.filter{p:PSt}{Pl:au kR}{Rl:au jV}(γ:Inv P base J p H Pl Rl)(f:Nat->Bool):Inv P base J p H (Pl.filter λq=>f q.i) (Rl.filter λr=>f r.i):=by
 intro r hr;rw[List.mem_filter]at hr;rcases γ r hr.1 with hs|⟨k,hk,T⟩
 .exact .inl hs
 .exact .inr ⟨k,List.mem_filter.2 ⟨hk,by rw[T.i];exact hr.2⟩,T⟩
def Inv.stale{p p':PSt}{Pl:au kR}{Rl:au jV}(γ:Inv P base J p H Pl Rl)(a:Adv J I p H J' I' p' H'):Inv P base J' p' H' (Pl.map λq=>{q with stale:=ah}) Rl:=by
 intro r hr;rcases γ r hr with hs|⟨k,hk,T⟩
 .exact .inl (hs.adv a)
 .refine .inr ⟨_,ix.2 ⟨k,hk,rfl⟩,T.adv_cl a,T.i,λh=>(by cases h),T.box,T.rd,λt x ho=>?_⟩
  obtain⟨h1,h2,h3,h4⟩:=T.ld t x ho;exact⟨h1,h2,h3.keep a.keep a.mon,h4.keep a.keep a.mon⟩
def Inv.some{p p':PSt}{Pl:au kR}{Rl:au jV}(γ:Inv P base J p H Pl Rl)(a:Adv J I p H J' I' p' H')(q:Qt H H'):Inv P base J' p' H' (Pl.map λq=>bif !mK q.o then q else{q with stale:=ah}) Rl:=by
 intro r hr;rcases γ r hr with hs|⟨k,hk,T⟩
 .exact .inl (hs.adv a)
 .cases hm:mK k.o with
  |true=>
   refine .inr ⟨{k with stale:=ah},ix.2 ⟨k,hk,by simp[hm]⟩,T.adv_cl a,T.i,λh=>(by cases h),T.box,T.rd,λt x ho=>?_⟩
   obtain⟨h1,h2,h3,h4⟩:=T.ld t x ho;exact⟨h1,h2,h3.keep a.keep a.mon,h4.keep a.keep a.mon⟩
  |false=>
   refine .inr ⟨k,ix.2 ⟨k,hk,by simp[hm]⟩,T.adv_cl a,T.i,λcb=>Gz q T.rd (λob fj b hb=>?_) (T.ok cb),T.box,T.rd,λt x ho=>?_⟩
   .obtain⟨cs,rfl⟩:=T.box hm ob fj;rcases q.get b _ hb with e|⟨cq,m',b',e1,e2,_⟩
    .exact e
    .simp only[AObj.cells.injEq]at e1;obtain⟨rfl,rfl⟩:=e1;cases e2
   .obtain⟨h1,h2,h3,h4⟩:=T.ld t x ho;exact⟨h1,h2,h3.keep a.keep a.mon,h4.keep a.keep a.mon⟩
def R.vid{p:PSt}(M:Mem J I p H){v:PV}{u:av}{id:Nat}(r:R J H v u)(hv:PI.vid v=Option.some id)(hg: ∃o,p.get id=Option.some o/\o≠ .gone):
    ∃a,J id=Option.some (Option.some a)/\((∃off,u= .pointer (Option.some ⟨a,off,ae⟩))∨∃off n c,u= .slice (Option.some ⟨a,off,ae⟩) n c):=by
 obtain⟨o,ho,bi⟩:=hg;have hν: ∃a,J id=Option.some (Option.some a):=by
  have:=M.get id o ho;cases o with
  |box cs=>obtain⟨a,us,h1,_⟩:=this;exact⟨a,h1⟩
  |row z ag cs=>obtain⟨a,us,h1,_⟩:=this;exact⟨a,h1⟩
  |map es=>exact this.elim
  |gone=>exact absurd rfl bi
 obtain⟨a,ha⟩:=hν;refine⟨a,ha,?_⟩;cases v<;>simp only[PI.vid,aA]at hv<;>try cases hv
 .cases r with
  |ptr _ fu a' h=>rw[ha]at h;simp only[aA]at h;subst h;exact .inl ⟨_,rfl⟩
  |ptr0 _ off a' h=>rw[ha]at h;cases h
 .cases r with
  |rs _ fu ti c a' h=>rw[ha]at h;simp only[aA]at h;subst h;exact .inr ⟨_,_,_,rfl⟩
  |rs0 _ off len c a' h=>rw[ha]at h;cases h
def pF{N:Type}{c:Bool}{A:f9 N}{x:N}(h:(bif c then A else ae)=Option.some x):A=Option.some x:=by cases c with
 |false=>cases h
 |true=>exact h
def aIP{N:Type}{c:Bool}{A B x:N}(h:(bif c then A else B)=x):A=x∨B=x:=by cases c with
 |false=>exact .inr h
 |true=>exact .inl h
def OH{Z:a8->av}{o:ic}{id a:Nat}{u:av}{ob:AObj}(h:gK P Z o id=Option.some (u,ob))(hu:(∃off,u= .pointer (Option.some ⟨a,off,ae⟩))∨∃off n c,u= .slice (Option.some ⟨a,off,ae⟩) n c):id=a:=by
 have fin: ∀{off n k:Nat},u= .pointer (Option.some ⟨id,off,ae⟩)∨u= .slice (Option.some ⟨id,off,ae⟩) n k∨u= .map (Option.some id)->id=a:=by
  rintro off n k (rfl|rfl|rfl)<;>rcases hu with⟨o2,e⟩|⟨o2,n2,c2,e⟩<;>first|(cases e;rfl)|cases e
 obtain⟨dst,op,ty,pos,af,g⟩:=o;cases op<;>simp only[gK]at h<;>try cases h
 .split at h<;>try cases h
  have h:=pF h;simp only[aA,aB]at h;exact fin (n:=0) (k:=0) (.inl h.1.symm)
 .have h:=pF h;simp only[aA,aB]at h;exact fin (n:=0) (k:=0) (.inl h.1.symm)
 .split at h<;>try cases h
  split at h<;>try cases h
  split at h<;>try cases h
  have h:=pF h;simp only[aF,aB]at h;obtain⟨cs,_,h2,_⟩:=h;exact fin (.inr (.inl h2.symm))
 .split at h<;>try cases h
  split at h<;>try cases h
  split at h<;>try cases h
  have h:=pF h;rcases aIP h with h|h
  .simp only[aA,aB]at h;exact fin (.inr (.inl h.1.symm))
  .simp only[aA,aB]at h;exact fin (.inr (.inl h.1.symm))
def Inv.cons{p:PSt}{Pl:au kR}{Rl:au jV}(γ:Inv P base J p H Pl Rl){r:jV}(h:Stab P base J H r):Inv P base J p H Pl (r::Rl):=by
 intro x hx;rcases ik.1 hx with rfl|hx
 .exact .inl h
 .exact γ x hx
def Inv.cons2{p:PSt}{Pl:au kR}{Rl:au jV}(γ:Inv P base J p H Pl Rl){r:jV}{q:kR}(h:Trk P base J p H q r):Inv P base J p H (q::Pl) (r::Rl):=by
 intro x hx;rcases ik.1 hx with rfl|hx
 .exact .inr ⟨q,aH ..,h⟩
 .rcases γ x hx with h|⟨k,hk,T⟩
  .exact .inl h
  .exact .inr ⟨k,aG _ hk,T⟩
end
section
variable{P:az}{J J':Nu}{I I1 I':Ga}{H H':St}{S:PS}{A:ia}{base:Nat}
def RJ{o:ic}(h:cY o= .pure)(S:PS):lJ o S=aj:=by
 obtain⟨dst,op,ty,pos,af,g⟩:=o;cases op<;>first|rfl|(simp[cY]at h)
def aCK{p p1:PSt}{o:ic}{take own:Bool}{v:PV}{u:av}{i:Nat}(M:Mem J I p H)(F:FR J I H S A)(ho:o.op.operands.all (cM P)=ah)(hp:oW P p S o take=aa (v,own,p1))(hn:lJ o S=aj)
    (hu:mA P H (ev A) o=aa u):Stab P base J H ⟨i,o,A,u,ae⟩:=by
 intro J' H' k m z;have cf:mA P H' (ev A) o=aa u->check P base H' ⟨i,o,A,u,ae⟩=ah:=by
  intro h;simp only[check,h];exact nZ u
 apply cf
 replace ho:=xG ho
 obtain⟨dst,op,ty,pos,af,g⟩:=o;cases op with
 |load t a=>
  simp only[Op.operands,aP,List.all_nil,bF]at ho;have ra:=dL F ho;simp only[mA]at hu⊢;simp only[oW]at hp;split at hp
  .rename_i v' hl;simp only[lJ]at hn;cases vi:dG S a<;>rw[vi]at hl hn ra<;>simp only[kW]at hl<;>(try cases hl)<;>(try cases hn)
   generalize ev A a=w at ra hu⊢;cases ra with
   |pin zz _ _ _ id b rcs mm hs hr hb hh=>
    obtain⟨bb,hf⟩:=hr.keep k m;simp only[iM,hr.1]at hu;simp only[iM,hf.1];exact hu
  .cases hp
 |slice t x lo hi mx=>
  simp only[mA]at hu⊢;simp only[Op.operands,Array.toList_append,List.all_append,aC]at ho;have rx:=dL F (P:=P) (x:=x) (by simpa using ho.1.1.1)
  simp only[oW,aF,aB]at hp;obtain⟨⟨w,fq⟩,hw,_⟩:=hp;refine Vy (λid cs mm hr=>?_) (λid off n c hxx=>?_) hu
  .obtain⟨h1,h2⟩:=fS hr;obtain⟨cq,b,h3⟩:=z id cs mm h1;exact⟨cq,_,row_of_get h3 (by rw[pZ k.vers];exact h2),rfl⟩
  .rw[hxx]at rx;generalize dG S x=xv at rx hw;cases rx with
   |emp1 _ _ _ rcs m hr=>exact⟨_,_,hr.1⟩
   |sl _ _ _ _ _ rcs m hz hs hr hm hb hh=>exact⟨_,_,hr.1⟩
   |rs bn _ _ _ a hν=>
    obtain⟨o',gk⟩:=M.live _ _ hν;have:=M.get _ _ gk;cases o' with
    |box cs=>obtain⟨a',us,h1,h2,_⟩:=this;rw[hν]at h1;simp only[aA]at h1;subst h1;exact⟨_,_,row_of_get h2 rfl⟩
    |row z ag cs=>obtain⟨a',us,h1,h2,_⟩:=this;rw[hν]at h1;simp only[aA]at h1;subst h1;exact⟨_,_,row_of_get h2 rfl⟩
    |map es=>exact this.elim
    |gone=>rw[show J bn=aa ae from this]at hν;cases hν
   |v _ hp=>simp[bZ]at hp
   |und _=>
    unfold mG at hw;split at hw
    .simp at hw
    .split at hw<;>simp at hw
    .cases hw
   |rs0 bn _ _ _ a hν=>
    unfold mG at hw;split at hw
    .simp at hw
    .split at hw
     .split at hw
      .split at hw
       .rename_i hg;obtain⟨a',us,h1,_⟩:=M.get _ _ hg
        simp_all
       .cases hw
      all_goals simp_all
     .cases hw
    .cases hw
 |_=>simp only[oW]at hp;cases hp
def aEU{v:PV}{id off n c:Nat}(r:R J H v (.slice (aa ⟨id,off,ae⟩) n c))(hv:v= .emp∨∃z es,v= .sl z es): ∀k,J k≠aa (aa id):=by
 rcases hv with rfl|⟨z,es,rfl⟩
 .cases r with|emp1 _ _ _ rcs m hr=>exact hr.2
 .cases r with|sl _ _ _ _ _ rcs m hz hs hr hm hb hh=>exact hr.2
def aO4(z:Nat)(es:au PV):eO z es= .emp∨∃z' es',eO z es= .sl z' es':=by
 cases es with
 |nil=>exact .inl rfl
 |cons e es=>exact .inr ⟨z,_,rfl⟩
def aFc{pc:jZ}{ac:FuncId->Array av->St->f9 (av×St)}(hcall:pX pc ac){ops:Array ic}{ms:au Nat}(dw: ∀o∈ops.toList,o.op.operands.all (cM P)=ah):
    ∀(sc:au Co) (Pl:au kR) (Rl:au jV) (J:Nu) (I:Ga) (S:PS) (p:PSt) (A:ia) (H:St) (S':PS) (p':PSt),(iD sc).Nodup->(∀j∈iD sc,j<ops.size/\H.get (base+j)=ae)->base+ops.size<=H.next->
      Inv P base J p H Pl Rl->Mem J I p H->FR J I H S A->lU P pc ops ms sc Pl S p=aa (S',p')->
      ∃A' H' J' I',iQ P ac ops ms base (iD sc) Rl A H=aa (A',H')/\Mem J' I' p' H'/\FR J' I' H' S' A'/\Adv J I p H J' I' p' H'/\(∀j,j<base->H.get j=ae->H'.get j=ae):=by
 intro sc;induction sc with
 |nil=>
  intro Pl Rl J I S p A H S' p' _ _ hb γ M F h;simp only[lU]at h;cases hc:Pl.all (rW P p)with
  |false=>rw[hc,aJ]at h;cases h
  |true=>
   rw[hc,aI]at h;simp only[aA,aB]at h;obtain⟨rfl,rfl⟩:=h;refine⟨A,H,J,I,?_,M,F,.refl J I p H,λj _ hj=>hj⟩
   simp only[iD,iQ,γ.check M hc,aI]
 |cons s sc ih=>
  intro Pl Rl J I S p A H S' p' gp ci hb γ M F h;cases s with
  |freeze t=>
   simp only[lU]at h;split at h
   .rename_i S1 p1 h1;obtain⟨J1,M1,F1,A1⟩:=AZ M F h1;obtain⟨A',H',J',I',k1,k2,k3,k4,k5⟩:=ih Pl Rl J1 I S1 p1 A H S' p' gp ci hb (γ.qt A1 (.refl H) λ_ _ _ _ _ _ h=>h) M1 F1 h
    exact⟨A',H',J',I',k1,k2,k3,A1.trans k4,k5⟩
   .cases h
  |app a i s=>
   simp only[iD]at gp ci⊢;obtain⟨ha,hfa⟩:=ci a (by simp)
   obtain⟨hi,hfi⟩:=ci i (by simp)
   obtain⟨hs,hfs⟩:=ci s (by simp)
   simp only[List.nodup_cons,ik,not_or]at gp;simp only[lU]at h;have hopA:ops[a]?=aa ops[a]:=m5 ha;have hopI:ops[i]?=aa ops[i]:=m5 hi;have hopS:ops[s]?=aa ops[s]:=m5 hs;rw[hopA,hopI,hopS]at h;simp only at h;split at h
   .rename_i S1 h1;cases hc0:Pl.all (rW P p)&&(Pl.filter λr=> !mP (ms.getD a 0) r.i).all (λr=> !mK r.o)with
    |false=>rw[hc0,aJ]at h;cases h
    |true=>
     rw[hc0,aI]at h;simp only[aC]at hc0;obtain⟨hc,mj⟩:=hc0;rw[bK]at mj;obtain⟨u1,u2,H1,H2,I2,q1,q2,q3,q4,q5,q6,q7,q8,q9,q10,q11,M2,F2,A2,qt1,qt2,q12,q13⟩:=Rd (ac:=ac) (base:=base) (iA:=a) (iI:=i) (iS:=s) M F hfa (by omega) (dw _ (by simp)) (dw _ (by simp)) (dw _ (by simp)) h1
     have hw: ∀{o:ic} {A0:ia},o.guard=ae->wanted ops A0 o=ah:=λhg=>by simp only[wanted,hg]
     have ky: ∀j∈iD sc,j<ops.size/\H2.get (base+j)=ae:=λj hj=>by
      obtain⟨h2,h3⟩:=ci j (by simp[hj])
      exact⟨h2,(q13 _ (λe=>gp.1.2.2 (by rw[show a=j by omega];exact hj)) h3).2⟩
     have If:=γ.filter λk=> !mP (ms.getD a 0) k
     have pt:(Rl.filter λr=> !mP (ms.getD a 0) r.i).all (check P base H1)=ah:=by
      rw[bK];intro r hr;have hr0:=List.mem_filter.1 hr;have dj:=γ.check M hc;rw[bK]at dj;have hcr:=dj r hr0.1;rcases If r hr with cb|⟨q,hq,T⟩
      .have hk3:Keep J bEI H H1:=by
        refine⟨qt1.vers,by rw[q12];exact aS _,λx hx=>?_,λx hn cs m hg=>?_⟩
        .cases hxx:H.get x with
         |none=>rfl
         |some ob=>
          rcases qt1.get x ob hxx with e|⟨_,_,_,_,_,e⟩<;>rw[hx]at e<;>cases e
        .rcases qt1.get x _ hg with e|⟨cq,m',b',e1,e2,e3⟩
         .exact⟨m.tip,e,λh=>h,λ_=>rfl⟩
         .simp only[AObj.cells.injEq]at e1;obtain⟨rfl,rfl⟩:=e1;exact⟨b',e3,λh=>(by rw[e2]at h;cases h),λh=>(by cases h)⟩
       exact cb J H1 hk3 (.refl H J) λx cs m hx=>by
        rcases qt1.get x _ hx with e|⟨cq,m',b',e1,e2,e3⟩
        .exact⟨cs,m.tip,e⟩
        .simp only[AObj.cells.injEq]at e1;obtain⟨rfl,rfl⟩:=e1;exact⟨_,b',e3⟩
      .refine Gz qt1 T.rd (λob fj b hb=>?_) hcr
       have hm:mK q.o=aj:=by simpa using mj q hq
       obtain⟨cs,rfl⟩:=T.box hm ob fj;rcases qt1.get b _ hb with e|⟨cq,m',b',e1,e2,_⟩
       .exact e
       .simp only[AObj.cells.injEq]at e1;obtain⟨rfl,rfl⟩:=e1;cases e2
     have γ2:=(If.some A2 qt2).filter λk=> !mP (ms.getD s 0) k
     obtain⟨A',H',J',I',j1,j2,j3,j4,j5⟩:=ih _ _ J I2 _ p _ H2 S' p' gp.2.2.2 ky (oi hb A2.keep.next) γ2 M2 F2 h
     refine⟨A',H',J',I',?_,j2,j3,A2.trans j4,λj hj hn=>j5 j hj (q13 j (by omega) hn).2⟩
     simp only[iQ,hopA,hopI,hopS,hw q7,hw q8,hw q9,aI,q4,q5,q6,γ.check M hc,q1,q2,pt,q3];rw[q10];exact j1
   .cases h
  |op i take=>
   simp only[iD]at gp ci⊢;rw[List.nodup_cons]at gp;obtain⟨hi,hfi⟩:=ci i (aH ..);simp only[lU]at h;have qb:ops[i]?=aa ops[i]:=m5 hi;rw[qb]at h;simp only at h;simp only[iQ,qb];have sb:=dw ops[i] (by simp)
   generalize ops[i]=o at*;split at h
   .rename_i hw;rw[uG F hw,aI];split at h
    .rename_i v own S1 p1 h1;obtain⟨u,H1,J1,I1,k1,k2,k3,k4,k5,k6⟩:=ZO hcall M F hfi (by omega) sb h1
     have ky: ∀j∈iD sc,j<ops.size/\H1.get (base+j)=ae:=λj hj=>by
      obtain⟨h2,h3⟩:=ci j (aG _ hj);exact⟨h2,k6 _ (by omega) (λe=>gp.1 (by rw[show i=j by omega];exact hj)) h3⟩
     have bm:=oi hb k5.keep.next
     have fin: ∀{Pl' Rl'},Inv P base J1 p1 H1 Pl' Rl'->lU P pc ops ms sc Pl' (S1.put o.dst v own) p1=aa (S',p')->
              ∃A' H' J' I',iQ P ac ops ms base (iD sc) Rl' (A.store o.dst u) H1=aa (A',H')/\Mem J' I' p' H'/\FR J' I' H' S' A'/\Adv J I p H J' I' p' H'/\(∀j,j<base->H.get j=ae->H'.get j=ae):=by
      intro Pl' Rl' γ' h';obtain⟨A',H',J',I',j1,j2,j3,j4,j5⟩:=ih Pl' Rl' J1 I1 _ p1 _ H1 S' p' gp.2 ky bm γ' k3 k4 h';exact⟨A',H',J',I',j1,j2,j3,k5.trans j4,λj hj hn=>j5 j hj (k6 j (by omega) (by omega) hn)⟩
     cases hk:cY o with
     |pure=>
      simp only[vZ,hk,aF,aB]at k1;obtain⟨u',ki,rfl,rfl⟩:=k1;have hu:gN P (ev A) o=aa u':=by
       simp only[JL,hk,aF,aB]at h1;obtain⟨⟨v',fq,S''⟩,hp,rfl,rfl,rfl,rfl⟩:=h1;unfold Fg at hp;split at hp
       .rename_i r hpp;obtain⟨r1,r2,r3⟩:=r;obtain⟨u2,_,h2,_⟩:=Q6 F sb hpp;unfold oF at ki;rw[h2]at ki⊢;exact ki
       .cases hp
      simp only[hu];rw[show lW o=aj by simp[lW,hk]]at h
      simp only[aJ,RJ hk S]at h;exact fin (γ.qt k5 (.refl H) λ_ _ _ _ _ _ h=>h) h
     |read=>
      simp only[vZ,hk,aF,aB]at k1;obtain⟨u',hu,rfl,rfl⟩:=k1;simp only[hu];rw[show lW o=aj by simp[lW,hk]]at h
      simp only[aJ]at h;have γ':=γ.qt k5 (.refl H) λ_ _ _ _ _ _ h=>h
      have hpr: ∃fq p'',oW P p S o take=aa (v,fq,p''):=by
       simp only[JL,hk,aF,aB]at h1;obtain⟨⟨v',fq,p''⟩,hp,rfl,rfl,rfl,rfl⟩:=h1;exact⟨_,_,hp⟩
      obtain⟨fq,p'',hpr⟩:=hpr;cases qp:lJ o S with
      |false=>
       rw[qp,aJ]at h;exact fin (γ'.cons ((aCK M F sb hpr qp hu).adv k5)) h
      |true=>
       rw[qp,aI]at h;have pt:check P base H ⟨i,o,A,u',ae⟩=ah:=by simp only[check,hu];exact nZ u'
       refine fin (γ'.cons2 ⟨λid hid hd=>?_,rfl,λ_=>pt,λ_ ob fj=>(by cases fj),λ_=>?_,λt a lk=>?_⟩) h
       .simp only[lJ]at qp;split at qp
        .rename_i t a lk;simp only[aNk,qO,lk]at hid;have bw:cM P a=ah:=by
          have:=xG sb;rw[lk]at this;simpa [Op.operands]using this
         have dm: ∃v2,kW P p t (dG S a)=aa v2:=by
          simp only[oW,lk]at hpr;split at hpr
          .exact⟨_,by assumption⟩
          .cases hpr
         obtain⟨v2,dm⟩:=dm;have hvd:PI.vid (dG S a)=aa id:=by
          cases hh:dG S a<;>rw[hh]at hid<;>simp only[a6M]at hid<;>first|exact hid|cases hid
         obtain⟨b,hb1,hb2⟩:=R.vid M (dL F bw) hvd (by
          cases hh:dG S a<;>rw[hh]at hid dm<;>simp only[a6M]at hid<;>try cases hid
          simp only[kW]at dm;split at dm
          .exact⟨_,by assumption,by simp⟩
          .exact⟨_,by assumption,by simp⟩
          .cases dm)
         have hb3:=(k5.bx id b hb1 hd).2;refine⟨b,hb3,.inl ⟨rfl,t,a,?_⟩,pt⟩;rcases hb2 with⟨off,e⟩|⟨off,n,c,e⟩
         .exact⟨off,lk,e⟩
         .exfalso;have hr:=dL F bw;rw[e]at hr;cases hh:dG S a<;>rw[hh]at hid hr<;>simp only[a6M]at hid<;>try cases hid
          cases hr
        .rename_i e;simp[cY,e]at hk
        .rename_i e;simp[cY,e]at hk
        .rename_i e;simp[cY,e]at hk
        .cases qp
       .simp only[lJ]at qp;split at qp
        .rename_i t a e;exact⟨t,a,e⟩
        .rename_i e;simp[cY,e]at hk
        .rename_i e;simp[cY,e]at hk
        .rename_i e;simp[cY,e]at hk
        .cases qp
       refine⟨rfl,rfl,?_,k2⟩;simp only at lk;simp only[qO,lk];have:cM P a=ah:=by
        have:=xG sb;rw[lk]at this;simpa [Op.operands]using this
       exact(dL F this).keep k5.keep k5.mon
     |alloc=>
      simp only[vZ,hk,aF,aB]at k1;obtain⟨⟨u',ob⟩,hu,rfl,rfl⟩:=k1;simp only[hu];rw[show lW o=aj by simp[lW,hk]]at h
      simp only[aJ]at h;have γ':=γ.qt k5 (.put hfi) λ_ _ _ _ a ob h=>by rw[cK,bI (λe=>by rw[e,hfi]at h;cases h)];exact h
      have pt:check P base (H.put (base+i) ob) ⟨i,o,A,u',aa ob⟩=ah:=by
       simp only[check,cK,bQ];exact Bv ob
      simp only[JL,hk,aF,aB]at h1;obtain⟨⟨v',fq,p''⟩,hp,fh,rfl,rfl,rfl⟩:=h1;simp only at fh;subst fh;have cy:(∃o2,p''.get p.next=aa o2/\o2≠ .gone)->∀id,PI.vid v'=aa id->(PI.vid v'=aa id->id=p.next)->∃a,J1 id=aa (aa a)/\aBR base ⟨i,o,A,u',aa ob⟩ a/\check P base (H.put (base+i) ob) ⟨i,o,A,u',aa ob⟩=ah:=by
       intro hg id hid hid2;have:=hid2 hid;subst this;obtain⟨b,hb1,hb2⟩:=R.vid k3 k2 hid hg;exact⟨b,hb1,.inr ⟨by simp,OH hu hb2⟩,pt⟩
      obtain⟨dst,op,ty,pos,af,g⟩:=o;cases op with
      |alloc t=>
       have wi: ∀id,PI.vid v'=aa id->id∉p''.wr->_:=λid hid _=>cy (by
        simp only[fR]at hp;split at hp<;>try cases hp
        exact⟨_,by rw[mN,bJ rfl],by simp⟩) id hid (λ_=>by
        simp only[fR]at hp;split at hp<;>try cases hp
        simp only[PI.vid,aA]at hid;exact hid.symm)
       refine fin (γ'.cons2 (q:=⟨i,⟨dst,.alloc t,ty,pos,af,g⟩,qO ⟨dst,.alloc t,ty,pos,af,g⟩ S,v',aj⟩) ⟨wi,rfl,λ_=>pt,λ_ ob' fj=>?_,λh=>(by cases h),λt a lk=>by cases lk⟩) h
       simp only[aA]at fj;subst fj;simp only[gK]at hu;split at hu
       .rename_i zz _;cases hc:zz.cells.toList.all bZ with
        |false=>rw[hc,aJ]at hu;cases hu
        |true=>rw[hc,aI]at hu;simp only[aA,aB]at hu;exact⟨_,hu.2.symm⟩
       .cases hu
      |box t x=>
       have wi: ∀id,PI.vid v'=aa id->id∉p''.wr->_:=λid hid _=>cy (by
        simp only[fR]at hp;have hp:=pF hp;simp only[aA,aB]at hp;obtain⟨_,_,rfl⟩:=hp;exact⟨_,by rw[mN,bJ rfl],by simp⟩) id hid (λ_=>by
        simp only[fR]at hp;have hp:=pF hp;simp only[aA,aB]at hp;obtain⟨rfl,_,_⟩:=hp;simp only[PI.vid,aA]at hid;exact hid.symm)
       refine fin (γ'.cons2 (q:=⟨i,⟨dst,.box t x,ty,pos,af,g⟩,qO ⟨dst,.box t x,ty,pos,af,g⟩ S,v',aj⟩) ⟨wi,rfl,λ_=>pt,λ_ ob' fj=>?_,λh=>(by cases h),λt a lk=>by cases lk⟩) h
       simp only[aA]at fj;subst fj;simp only[gK]at hu;cases hc:(ev A x).cells.toList.all one with
       |false=>rw[hc,aJ]at hu;cases hu
       |true=>rw[hc,aI]at hu;simp only[aA,aB]at hu;exact⟨_,hu.2.symm⟩
      |makeSlice t l c=>
       have mj: ∀id,PI.vid v'=aa id->id=p.next/\∃o2,p''.get p.next=aa o2/\o2≠ .gone:=by
        intro id hid;simp only[fR]at hp;split at hp<;>try cases hp
        split at hp<;>try cases hp
        split at hp<;>try cases hp
        have hp:=pF hp;rcases aIP hp with hp|hp
        .simp only[aA,aB]at hp;obtain⟨rfl,_,_⟩:=hp;simp only[PI.vid]at hid;cases hid
        .have hp:=pF hp;simp only[aA,aB]at hp;obtain⟨rfl,_,rfl⟩:=hp;simp only[PI.vid,aA]at hid;exact⟨hid.symm,_,by rw[mN,bJ rfl],by simp⟩
       exact fin (γ'.cons2 (q:=⟨i,⟨dst,.makeSlice t l c,ty,pos,af,g⟩,qO ⟨dst,.makeSlice t l c,ty,pos,af,g⟩ S,v',aj⟩) ⟨λid hid _=>cy (mj id hid).2 id hid (λ_=>(mj id hid).1),rfl,λ_=>pt,λhm=>(by cases hm),λh=>(by cases h),λt a lk=>by cases lk⟩) h
      |buildSlice t len parts=>
       refine fin (γ'.cons ?_) h;have fj: ∃cs s,ob= .cells cs (eY s)/\u'= .slice (aa ⟨base+i,0,ae⟩) len len:=by
        simp only[gK]at hu;split at hu
        .split at hu
         .rename_i s _;split at hu
          .rename_i z _;cases hc:z.cells.toList.all bZ&&aq (len*s) 1000000&&ao z.cells.size s&&aq 1 s with
           |false=>rw[hc,aJ]at hu;cases hu
           |true=>
            rw[hc,aI]at hu;simp only[aF,aB]at hu;obtain⟨cs,_,h2,h3⟩:=hu;exact⟨_,s,h3.symm,h2.symm⟩
          .cases hu
         .cases hu
        .cases hu
       obtain⟨cs,s,rfl,rfl⟩:=fj;have kg:v'= .emp∨∃z es,v'= .sl z es:=by
        simp only[fR]at hp;split at hp
        .split at hp
         .rename_i s a z _ _ _;cases hc:aq (len*s) 1000000&&ao z.length s&&aq 1 s&&(a||ao s 1)with
          |false=>rw[hc,aJ]at hp;cases hp
          |true=>
           rw[hc,aI]at hp;split at hp
           .simp only[aA,aB]at hp;rw[<-hp.1];exact aO4 _ _
           .cases hp
         .cases hp
        .cases hp
       have du:=aEU k2 kg;intro J'' H'' kk mm zz;obtain⟨b,hb1,hb2,_⟩:=kk.row (base+i) du cs (eY s) (by rw[cK,bJ rfl])
       have hbf:=hb2 rfl;subst hbf;simp only[check,hb1];exact Bv _
      |_=>simp only[fR]at hp;cases hp
     |eff=>
      have k1':yL P ac H (ev A) o (base+i)=aa (u,H1):=by simpa only[vZ,hk]using k1
      rw[show lW o=ah by simp[lW,hk]]at h
      simp only[aI]at h;cases hc:Pl.all (rW P p)with
      |false=>rw[hc,aJ]at h;cases h
      |true=>
       rw[hc,aI]at h;simp only[γ.check M hc,aI,k1'];have If:=γ.filter λk=> !mP (ms.getD i 0) k
       cases ha:qG o with
       |false=>
        rw[ha]at h;simp only[Bool.false_and,aJ]at h;exact fin (If.stale k5) h
       |true=>
        rw[ha]at h;simp only[Bool.true_and]at h;have hqt:Qt H H1:=by
         obtain⟨dst,op,ty,pos,af,g⟩:=o;cases op<;>simp only[qG]at ha<;>(try cases ha)
         rename_i c;obtain⟨callee,cargs,ats⟩:=c;cases callee with
         |builtin b=>
          cases b<;>(try cases ha)
          simp only[yL]at k1';split at k1'
          .exact VG hfi k1'
          .cases k1'
         |_=>cases ha
        exact fin (If.some k5 hqt) h
    .cases h
   .rename_i hw;rw[uG F hw,aJ];obtain⟨I1,M1,F1,A1⟩:=ZT M F o.dst;obtain⟨A',H',J',I',j1,j2,j3,j4,j5⟩:=ih Pl Rl J I1 _ p _ H S' p' gp.2 (λj hj=>ci j (aG _ hj)) hb γ M1 F1 h
    exact⟨A',H',J',I',j1,j2,j3,A1.trans j4,j5⟩
   .cases h
end
def gJ{n:Nat}{xs:au PV}:kG n xs=ah↔∀x∈xs,below n x=ah:=by
 induction xs with
 |nil=>simp[kG]
 |cons x xs ih=>simp[kG,ih]
def JK{n:Nat}{x:PV}(h:x.pur=ah):below n x=ah:=by cases x<;>first|rfl|simp[PV.pur]at h
def R0{es:au PV}(h: ∀e∈es,e.cells.all PV.pur=ah){i:Nat}{x:PV}(hx:(fM es)[i]?=aa x):x.pur=ah:=by
 have:=jG hx;simp only[fM,List.mem_flatMap]at this;obtain⟨e,he,hx⟩:=this;exact(bK.1 (h e he)) x hx
section
variable{P:az}{J J' J'':Nu}{I I1 I':Ga}{H H':St}{S:PS}{A:ia}
def xU{N:Type}{us:au N}{xs:au PV}(hl:xs.length=us.length){x:PV}(hx:x∈xs): ∃(i:Nat) (u:N),xs[i]?=aa x/\us[i]?=aa u:=by
 obtain⟨i,hi,rfl⟩:=List.mem_iff_getElem.1 hx;exact⟨i,us[i],aV hi,aV (by omega)⟩
def R.restrict{n:Nat}(hν: ∀k,k<n->J'' k=J' k)(dc: ∀k a,J'' k=aa (aa a)->J' k=aa (aa a)){x:PV}{u:av}(r:R J' H x u):PI.below n x=ah->R J'' H x u:=by
 have nc: ∀{id cs m},Fz J' H id cs m->Fz J'' H id cs m:=λh=>⟨h.1,λk hk=>h.2 k (dc k _ hk)⟩
 induction r with
 |und u=>intro _;exact .und u
 |v x h=>intro _;exact .v x h
 |str s=>intro _;exact .str s
 |agg xs us hl _ ih=>
  intro hb;simp only[PI.below]at hb;rw[gJ]at hb;exact .agg xs us hl λi x u hx hu=>ih i x u hx hu (hb x (jG hx))
 |tup xs us hl _ ih=>
  intro hb;simp only[PI.below]at hb;rw[gJ]at hb;exact .tup xs us hl λi x u hx hu=>ih i x u hx hu (hb x (jG hx))
 |nil=>intro _;exact .nil
 |emp0=>intro _;exact .emp0
 |emp1 id off c rcs m hr=>intro _;exact .emp1 id off c rcs m (nc hr)
 |emp2 b o s c=>intro _;exact .emp2 b o s c
 |sl z es id off c rcs m hz hs hr ln hb _ ih=>
  intro _;exact .sl z es id off c rcs m hz hs (nc hr) ln hb λi x u hx hu=>ih i x u hx hu (JK (R0 (λe he=>(hs e he).2) hx))
 |pin z es i off id base rcs m hs hr hb _ ih=>
  intro _;exact .pin z es i off id base rcs m hs (nc hr) hb λi x u hx hu=>ih i x u hx hu (JK (R0 (λe he=>(hs e he).2) hx))
 |ptr id off a h=>
  intro hb;simp only[PI.below,iW,aD]at hb;exact .ptr id off a (by rw[hν id hb];exact h)
 |ptr0 id off a h=>
  intro hb;simp only[PI.below,iW,aD]at hb;exact .ptr0 id off a (by rw[hν id hb];exact h)
 |rs id off len c a h=>
  intro hb;simp only[PI.below,iW,aD]at hb;exact .rs id off len c a (by rw[hν id hb];exact h)
 |rs0 id off len c a h=>
  intro hb;simp only[PI.below,iW,aD]at hb;exact .rs0 id off len c a (by rw[hν id hb];exact h)
 |fn f xs ys us vs hl _ fe _ ih tj=>
  intro hb;simp only[PI.below,aC]at hb;rw[gJ,gJ]at hb;exact .fn f xs ys us vs hl (λi x u hx hu=>ih i x u hx hu (hb.1 x (jG hx))) fe λi x u hx hu=>tj i x u hx hu (hb.2 x (jG hx))
def R.low{n:Nat}(hν: ∀k y,J k=aa y->k<n){x:PV}{u:av}(r:R J H x u):PI.below n x=ah:=by
 induction r with
 |agg xs us hl _ ih=>
  simp only[PI.below];rw[gJ];intro x hx;obtain⟨i,u,h1,h2⟩:=xU hl hx;exact ih i x u h1 h2
 |tup xs us hl _ ih=>
  simp only[PI.below];rw[gJ];intro x hx;obtain⟨i,u,h1,h2⟩:=xU hl hx;exact ih i x u h1 h2
 |ptr id off a h=>simp only[PI.below,iW,aD];exact hν _ _ h
 |ptr0 id off a h=>simp only[PI.below,iW,aD];exact hν _ _ h
 |rs id off len c a h=>simp only[PI.below,iW,aD];exact hν _ _ h
 |rs0 id off len c a h=>simp only[PI.below,iW,aD];exact hν _ _ h
 |fn f xs ys us vs hl _ fe _ ih tj=>
  simp only[PI.below,aC];rw[gJ,gJ];refine⟨λx hx=>?_,λx hx=>?_⟩
  .obtain⟨i,u,h1,h2⟩:=xU hl hx;exact ih i x u h1 h2
  .obtain⟨i,u,h1,h2⟩:=xU fe hx;exact tj i x u h1 h2
 |_=>rfl
def Ow.restrict{k:K}(dc: ∀k a,J'' k=aa (aa a)->J' k=aa (aa a)){x:PV}{u:av}(o:Ow J' I H k x u):Ow J'' I H k x u:=by
 have nc: ∀{id cs m},Fz J' H id cs m->Fz J'' H id cs m:=λh=>⟨h.1,λk hk=>h.2 k (dc k _ hk)⟩
 induction o with
 |nil x=>exact .nil x
 |exact x id off len rcs m hr=>exact .exact x id off len rcs m (nc hr)
 |zer x b o=>exact .zer x b o
 |tup x xs u us hx _ ih=>exact .tup x xs u us hx ih
 |tip z es id off c rcs m hr ht hw hg hb hk=>exact .tip z es id off c rcs m (nc hr) ht hw hg hb hk
def ObjR.restrict{n id:Nat}(hν: ∀k,k<n->J'' k=J' k)(dc: ∀k a,J'' k=aa (aa a)->J' k=aa (aa a))(hid:id<n){o:lT}(h:ObjR J' I H id o)(hb:vF n o=ah):ObjR J'' I H id o:=by
 cases o with
 |box cs=>
  obtain⟨a,us,h1,h2,h3,h4⟩:=h;simp only[vF,bK]at hb;refine⟨a,us,by rw[hν id hid];exact h1,h2,h3,λi x b u hx hu=>?_⟩
  obtain⟨h5,h6,h7⟩:=h4 i x b u hx hu;exact⟨h5.restrict hν dc (hb _ (jG hx)),h6,λbm=>(h7 bm).restrict dc⟩
 |row z ag cs=>
  obtain⟨a,us,h1,h2,h3,h5,h4⟩:=h;simp only[vF]at hb;rw[gJ]at hb;exact⟨a,us,by rw[hν id hid];exact h1,h2,h3,h5,λi x u hx hu=>(h4 i x u hx hu).restrict hν dc (hb x (jG hx))⟩
 |map es=>exact h
 |gone=>show J'' id=aa ae;rw[hν id hid];exact h
def ObjR.low{n id:Nat}(hν: ∀k y,J k=aa y->k<n){o:lT}(h:ObjR J I H id o):vF n o=ah:=by
 cases o with
 |box cs=>
  obtain⟨a,us,h1,h2,h3,h4⟩:=h;simp only[vF,bK];intro c hc;obtain⟨i,hi,rfl⟩:=List.mem_iff_getElem.1 hc;have hx:cs[i]?=aa (cs[i].1,cs[i].2):=aV hi;have hu:us[i]?=aa (us[i]'(by omega)):=aV _
  exact(h4 i _ _ _ hx hu).1.low hν
 |row z ag cs=>
  obtain⟨a,us,h1,h2,h3,h5,h4⟩:=h;simp only[vF];rw[gJ];intro x hx;obtain⟨i,u,e1,e2⟩:=xU h3.symm hx;exact(h4 i x u e1 e2).low hν
 |map es=>exact h.elim
 |gone=>rfl
def fT{old d:au Nat}{k:Nat}:k∈old.foldr HS d↔k∈old∨k∈d:=by
 induction old with
 |nil=>simp
 |cons x old ih=>simp only[List.foldr_cons,oM,ih,ik,or_assoc]
def CN{mem q:Tr lT}{old:au Nat}(hf: ∀id∈old,q.get id≠ae)(k:Nat):(old.foldr (aIS q) mem).get k=if k∈old then q.get k else mem.get k:=by
 induction old with
 |nil=>simp
 |cons x old ih=>
  simp only[List.foldr_cons];have ih:=ih λid hid=>hf id (aG _ hid)
  cases hx:q.get x with
  |none=>exact absurd hx (hf x (aH ..))
  |some o=>
   simp only[aIS,hx,Tr.get_set];by_cases e:k=x
   .subst e;simp[hx]
   .rw[bI e,ih];by_cases e2:k∈old
    .rw[bJ e2,bJ (aG _ e2)]
    .rw[bI e2,bI (by simp[e,e2])]
def aCO{p p':PSt}(M:Mem J I p H)(M':Mem J' I' p' H')(adv:Adv J I (a6u p) H J' I' p' H'){v:PV}{u:av}{own:Bool}(r:R J' H' v u)(ho:own=ah->Ow J' I' H' .hand v u):
    ∃J'',R J'' H' v u/\(own=ah->Ow J'' I' H' .hand v u)/\Mem J'' I' (settle p v p') H'/\Adv J I p H J'' I' (settle p v p') H':=by
 have hn:p.next<=p'.next:=adv.dp.next
 have po: ∀k,k<p.next->k∉p'.dirty->p'.mem.get k=p.mem.get k:=adv.dp.mem
 unfold settle;cases hc:below p.next v&&(p'.dirty.filter λid=>Nat.blt id p.next).all (yF p.next p'.mem)with
 |false=>
  simp only[aJ];refine⟨J',r,ho,⟨M'.le,M'.lt,M'.inj,M'.live,M'.get,M'.free,M'.ver⟩,⟨adv.keep,adv.mon,adv.out,⟨hn,λid hid=>fT.2 (.inr hid),λid hid=>fT.2 (.inr hid),λk hk hd=>?_⟩,adv.rz,λid a hi hd=>adv.bx id a hi λhh=>hd (fT.2 (.inl (List.mem_filter.2 ⟨hh,by rw[iW];simpa using M.le _ _ hi⟩)))⟩⟩
  refine po k hk λhh=>hd (fT.2 (.inl ?_))
  rw[List.mem_filter];exact⟨hh,by rw[iW];simpa using hk⟩
 |true=>
  simp only[aI];simp only[aC,bK]at hc;obtain⟨hv,hold⟩:=hc;have hmo: ∀{k},k∈(p'.dirty.filter λid=>Nat.blt id p.next)↔k∈p'.dirty/\k<p.next:=by
   intro k;rw[List.mem_filter,iW];simp
  generalize hO:(p'.dirty.filter λid=>Nat.blt id p.next)=old at*
  have hf: ∀id∈old,p'.mem.get id≠ae:=λid hid h=>by
   have:=hold id hid;simp only[yF,h]at this;cases this
  have bc: ∀k,PSt.get ⟨old.foldr (aIS p'.mem) p.mem,p.next,old.foldr HS p.dirty,(p'.wr.filter λid=>Nat.blt id p.next).foldr HS p.wr⟩ k=if k<p.next then p'.mem.get k else ae:=by
   intro k;simp only[PSt.get,iW,Bool.cond_decide];by_cases hk:k<p.next
   .simp only[hk,bQ];rw[CN hf];by_cases e:k∈old
    .rw[bJ e]
    .rw[bI e];exact(po k hk λhh=>e (hmo.2 ⟨hh,hk⟩)).symm
   .simp[hk]
  have qk: ∀k,k<p.next->p'.get k=p'.mem.get k:=by
   intro k hk;simp only[PSt.get,iW,Bool.cond_decide];rw[bJ (by omega)]
  have hνn: ∀k,k<p.next->(λk=>if k<p.next then J' k else ae) k=J' k:=λk hk=>by simp[hk]
  have dc: ∀k a,(λk=>if k<p.next then J' k else ae) k=aa (aa a)->J' k=aa (aa a):=λk a h=>by
   by_cases hk:k<p.next
   .simpa [hk]using h
   .simp[hk]at h
  refine⟨λk=>if k<p.next then J' k else ae,r.restrict hνn dc hv,λh=>(ho h).restrict dc,⟨λk x hk=>?_,λk a hk=>M'.lt k a (dc k a hk),λi j a hi hj=>M'.inj i j a (dc i a hi) (dc j a hj),λk a hk=>?_,λk o hk=>?_,M'.free,M'.ver⟩,
   ⟨adv.keep,⟨λid x hx=>?_,λid a ha=>adv.mon.2 id a (dc id a ha)⟩,adv.out,⟨aS _,λid hid=>fT.2 (.inr hid),λid hid=>fT.2 (.inr hid),λk hk hd=>?_⟩,adv.rz,λid a hi hd=>by
    have hlt:=M.le _ _ hi;obtain⟨e1,e2⟩:=adv.bx id a hi λhh=>hd (fT.2 (.inl (List.mem_filter.2 ⟨hh,by rw[iW];simpa using hlt⟩)))
    exact⟨e1,by show(if id<p.next then J' id else ae)=_;rw[bJ hlt];exact e2⟩⟩⟩
  .by_cases h:k<p.next
   .exact h
   .simp[h]at hk
  .have h1:=dc k a hk;have qd:k<p.next:=by
    by_cases h:k<p.next
    .exact h
    .simp[h]at hk
   obtain⟨o,gk⟩:=M'.live k a h1;rw[qk k qd]at gk;exact⟨o,by rw[bc,bJ qd];exact gk⟩
  .rw[bc]at hk;by_cases qd:k<p.next
   .rw[bJ qd]at hk;have hobj:=M'.get k o (by rw[qk k qd];exact hk)
    refine hobj.restrict hνn dc qd ?_;by_cases e:k∈old
    .have:=hold k e;simp only[yF,hk]at this;exact this
    .have h0:p.mem.get k=aa o:=by rw[<-po k qd λhh=>e (hmo.2 ⟨hh,qd⟩)];exact hk
     have:p.get k=aa o:=by
      simp only[PSt.get,iW,Bool.cond_decide];rw[bJ qd];exact h0
     exact(M.get k o this).low M.le
   .rw[bI qd]at hk;cases hk
  .have hid:=M.le id x hx;rcases adv.mon.1 id x hx with h1|h1
   .left;show(if id<p.next then J' id else ae)=aa x;rw[bJ hid];exact h1
   .right;show(if id<p.next then J' id else ae)=aa ae;rw[bJ hid];exact h1
  .rw[CN hf];rw[bI λe=>hd (fT.2 (.inl e))]
end
def tS:PC->Prop
 | .region _ ops draw ms sc=>if draw then ms=iE ops.toList []/\iD sc=AF ops ms else iD sc=List.range ops.size
 | .seq a b=>tS a/\tS b
 | .cond _ a b=>tS a/\tS b
 | .block _ c=>tS c
 | .loop c=>tS c
 | .scope c=>tS c
 | .drop _ c=>tS c
 | .ice _ c=>tS c
 |_=>True
def Tt{ops:Array ic}{ms:au Nat}: ∀{l done:au Nat},QC ops ms l done=ah->l.Nodup/\(∀i∈l,i<ops.size/\i∉done):=by
 intro l;induction l with
 |nil=>intro done _;exact⟨List.nodup_nil,λi hi=>by simp at hi⟩
 |cons i l ih=>
  intro done h;simp only[QC,aC]at h;obtain⟨⟨⟨⟨h1,h2⟩,h3⟩,h4⟩,h5⟩:=h;obtain⟨h6,h7⟩:=ih h5;have hi:i<ops.size:=by rw[iW]at h1;simpa using h1
  have hd:i∉done:=by simpa using h2
  refine⟨List.nodup_cons.2 ⟨λhh=>(h7 i hh).2 (aH ..),h6⟩,λj hj=>?_⟩
  rcases ik.1 hj with rfl|hj
  .exact⟨hi,hd⟩
  .exact⟨(h7 j hj).1,λhh=>(h7 j hj).2 (aG _ hh)⟩
section
variable{P:az}{J J' J'':Nu}{I I1 I':Ga}{H H':St}{S:PS}{A:ia}
def IH{ops:Array ic}(h:Ed ops=ah):(AF ops (iE ops.toList [])).Nodup/\∀i∈AF ops (iE ops.toList []),i<ops.size/\i∉([]:au Nat):=by
 unfold Ed at h;split at h
 .simp only[Fw,aC]at h;exact Tt h.1
 .cases h
def aDo{ops:Array ic}{o:f9 (PS×PSt)}{r:PS×PSt}(h:aHY ops o=aa r):o=aa r/\Fu ops r.1 r.2=ah:=by
 unfold aHY at h;split at h
 .rename_i r';cases hb:Fu ops r'.1 r'.2 with
  |true=>rw[hb,aI]at h;cases h;exact⟨rfl,hb⟩
  |false=>rw[hb]at h;cases h
 .cases h
def aOD{ops:Array ic}{p:PSt}(M:Mem J I p H)(F:FR J I H S A)(h:Fu ops S p=ah):aOE ops A H=ah:=by
 unfold Fu at h;unfold aOE;split at h
 .rename_i e;rw[e]
 .rename_i s t e;rw[e];simp only;have r1:=(F s).1;have r2:=(F t).1;split at h
  .rename_i es i off id o2 e1 e2;rw[e1]at r1;rw[e2]at r2;split at h
   .rename_i cs hg;obtain⟨a,us,n1,n2,_⟩:=M.get _ _ hg;show(match A.at s,A.at t with
     | .pointer (aa ⟨i,_,ae⟩),.pointer (aa ⟨j,_,ae⟩)=> !Nat.beq i j&&(match H.get j with|some (.cells _ m)=>m.grp.isNone|_=>aj)
     |_,_=>aj)=ah
    generalize A.at s=u1 at*;generalize A.at t=u2 at*;cases r1 with
    |pin z _ _ _ bn base rcs m hs hr hb h=>
     cases r2 with
     |ptr _ _ a' hν=>
      rw[hν]at n1;simp only[aA]at n1;subst n1;have:bn≠a':=λe=>hr.2 _ (e▸hν)
      simp only[dZ,bH this,n2,boxMeta,Option.isNone_none,Bool.not_false,Bool.and_self]
     |ptr0 _ _ a' hν=>rw[hν]at n1;cases n1
   .cases h
  .cases h
 .cases h
def CH(n:Nat):Keep J lQ H {H with next:=H.next+n}:=⟨rfl,iq _ _,λ_ h=>h,λa _ cs m h=>⟨m.tip,h,λh=>h,λ_=>rfl⟩⟩
def Mem.more{p:PSt}(M:Mem J I p H)(n:Nat):Mem J I p {H with next:=H.next+n}:=
 ⟨M.le,λid a h=>Nat.lt_of_lt_of_le (M.lt id a h) (iq _ _),M.inj,M.live,λid o h=>(M.get id o h).keep (I1:=lQ) (CH n) (.refl H J) rfl (λ_ _=>rfl) λi off hi _=>⟨rfl,hi⟩,
  λa ha=>M.free a (oi (iq _ _) ha),M.ver⟩
def FR.more(F:FR J I H S A)(n:Nat):FR J I {H with next:=H.next+n} S A:=F.keep (I1:=lQ) (CH n) (.refl H J) λi t hi _=>⟨rfl,hi⟩
def Adv.more{p:PSt}(n:Nat):Adv J I p H J I p {H with next:=H.next+n}:=⟨(CH n).weak λ_ _=>rfl,.refl H J,.refl H I,.refl p,λa cs m h=>⟨cs,m.tip,h⟩,λ_ _ h _=>⟨rfl,h⟩⟩
def Mem.cln{p:PSt}(M:Mem J I p H):Mem J I (PI.cln p) H:=⟨M.le,M.lt,M.inj,M.live,M.get,M.free,M.ver⟩
def Mem.dty{p':PSt}(M:Mem J I p' H)(p:PSt):Mem J I (PI.dty p p') H:=⟨M.le,M.lt,M.inj,M.live,M.get,M.free,M.ver⟩
def Adv.dty{p p':PSt}(h:Adv J I (PI.cln p) H J' I' p' H'):Adv J I p H J' I' (PI.dty p p') H':=
 ⟨h.keep,h.mon,h.out,⟨h.dp.next,λid hi=>h.dp.dirty id hi,λid hi=>fT.2 (.inr hi),λk hk hd=>h.dp.mem k hk hd⟩,h.rz,λid a hi hd=>h.bx id a hi λhh=>hd (fT.2 (.inl hh))⟩
def TG{pc:jZ}{ac:FuncId->Array av->St->f9 (av×St)}(hcall:pX pc ac){α id:Nat}{ops:Array ic}{draw:Bool}{ms:au Nat}{sc:au Co}{p p':PSt}{S':PS}
    (bw:fJ P α (.region id ops draw)=ah) (fc:tS (.region id ops draw ms sc)) (M:Mem J I p H) (F:FR J I H S A)
    (h:(bif draw then(aHY ops (lU P pc ops ms sc [] S (cln p))).map (λr=>(r.1,dty p r.2))else Aj P pc ops sc S p)=aa (S',p')):
    ∃A' H' J' I',sT P ac ops draw A H=aa (A',H')/\Mem J' I' p' H'/\FR J' I' H' S' A'/\Adv J I p H J' I' p' H'/\(∀j,j<H.next->H.get j=ae->H'.get j=ae):=by
 simp only[fJ,aC,bK,d7,io]at bw;obtain⟨dw,hdr⟩:=bw;have rt: ∀o∈ops.toList,o.op.operands.all (cM P)=ah:=λo ho=>by
  have:=dw o ho;simp only[uL,aC]at this;exact this.2
 unfold sT;cases draw with
 |false=>
  simp only[aJ]at h⊢;simp only[tS]at fc;obtain⟨A',H',J',I',h1,h2,h3,h4,h5⟩:=aN9 hcall (base:=H.next) rt sc 0 J I S p A {H with next:=H.next+ops.size} S' p' (by simpa [List.range_eq_range']using fc) (b7 _) (aS _)
   (λj _ hj=>M.free _ (iq _ _)) (M.more _) (F.more _) h
  exact⟨A',H',J',I',h1,h2,h3,(Adv.more _).trans h4,λj hj hn=>h5 j hj hn⟩
 |true=>
  simp only[aI]at h⊢;simp only[tS,bQ]at fc;obtain⟨rfl,fc⟩:=fc;have hD:=hdr.resolve_left (by simp)
  obtain⟨gp,hlt⟩:=IH hD;simp only[aF,aB]at h;obtain⟨⟨S2,p2⟩,h,rfl,rfl⟩:=h;obtain⟨h,htw⟩:=aDo h;obtain⟨A',H',J',I',h1,h2,h3,h4,h5⟩:=aFc hcall (base:=H.next) rt sc [] [] J I S (cln p) A {H with next:=H.next+ops.size} S2 p2 (by rw[fc];exact gp)
   (λj hj=>⟨(hlt j (by rw[<-fc];exact hj)).1,M.free _ (iq _ _)⟩) (aS _) (λr hr=>by simp at hr) (M.cln.more _) (F.more _) h
  rw[fc]at h1;refine⟨A',H',J',I',?_,h2.dty p,h3,(Adv.more _).trans h4.dty,λj hj hn=>h5 j hj hn⟩
  rw[h1];simp only[aHW,aOD h2 h3 htw,aI]
def a58(P:az)(ac:FuncId->Array av->St->f9 (av×St))(L:Nat)(run:PS->PSt->f9 (Fl×PS×PSt))(qx:ia->St->f9 (Fl×ia×St)):Prop:=
 ∀(J:Nu) (I:Ga) (S:PS) (p:PSt) (A:ia) (H:St) (fl:Fl) (S':PS) (p':PSt),Mem J I p H->FR J I H S A->run S p=aa (fl,S',p')->
  ∃A' H' J' I',qx A H=aa (fl,A',H')/\Mem J' I' p' H'/\FR J' I' H' S' A'/\Adv J I p H J' I' p' H'/\(∀j,j<H.next->H.get j=ae->H'.get j=ae)
def aHg{ac:FuncId->Array av->St->f9 (av×St)}{L:Nat}{run:PS->PSt->f9 (Fl×PS×PSt)}{qx:ia->St->f9 (Fl×ia×St)}(h:a58 P ac L run qx): ∀n,a58 P ac L (BN run n) (DS qx n):=by
 intro n;induction n with
 |zero=>intro J I S p A H fl S' p' M F hr;simp only[BN]at hr;cases hr
 |succ n ih=>
  intro J I S p A H fl S' p' M F hr;simp only[BN]at hr;simp only[DS];cases hb:run S p with
  |none=>rw[hb]at hr;cases hr
  |some r=>
   obtain⟨f1,S1,p1⟩:=r;rw[hb]at hr;obtain⟨A1,H1,J1,I1,k1,k2,k3,k4,k5⟩:=h J I S p A H f1 S1 p1 M F hb;rw[k1];cases f1 with
   |normal=>
    simp only at hr⊢;obtain⟨A',H',J',I',j1,j2,j3,j4,j5⟩:=ih J1 I1 S1 p1 A1 H1 fl S' p' k2 k3 hr;exact⟨A',H',J',I',j1,j2,j3,k4.trans j4,λj hj hn=>j5 j (Nat.lt_of_lt_of_le hj k4.keep.next) (k5 j hj hn)⟩
   |exit m=>
    simp only[aA,aB]at hr;obtain⟨rfl,rfl,rfl⟩:=hr;exact⟨A1,H1,J1,I1,rfl,k2,k3,k4,k5⟩
   |ret=>
    simp only[aA,aB]at hr;obtain⟨rfl,rfl,rfl⟩:=hr;exact⟨A1,H1,J1,I1,rfl,k2,k3,k4,k5⟩
def aH7{pc:jZ}{ac:FuncId->Array av->St->f9 (av×St)}(hcall:pX pc ac)(L α:Nat): ∀(c:PC),tS c->fJ P α (fI c)=ah->a58 P ac L (fL P pc L c) (eJ P ac L (fI c)):=by
 intro c;induction c with
 |skip=>
  intro _ _ J I S p A H fl S' p' M F h;simp only[fL,aA,aB]at h;obtain⟨rfl,rfl,rfl⟩:=h;exact⟨A,H,J,I,rfl,M,F,.refl J I _ H,λj _ h=>h⟩
 |label l=>
  intro _ _ J I S p A H fl S' p' M F h;simp only[fL,aA,aB]at h;obtain⟨rfl,rfl,rfl⟩:=h;exact⟨A,H,J,I,rfl,M,F,.refl J I _ H,λj _ h=>h⟩
 |region id ops draw ms sc=>
  intro hk bw J I S p A H fl S' p' M F h;simp only[fL,aF,aB]at h;obtain⟨⟨S1,p1⟩,hr,rfl,rfl,rfl⟩:=h;obtain⟨A',H',J',I',h1,h2,h3,h4,h5⟩:=TG hcall bw hk M F hr;exact⟨A',H',J',I',by simp only[fI,eJ,h1];rfl,h2,h3,h4,h5⟩
 |seq a b fi jq=>
  intro hk bw J I S p A H fl S' p' M F h;simp only[fI,fJ,aC]at bw;simp only[fL]at h;simp only[fI,eJ];cases hb:fL P pc L a S p with
  |none=>rw[hb]at h;cases h
  |some r=>
   obtain⟨f1,S1,p1⟩:=r;rw[hb]at h;obtain⟨A1,H1,J1,I1,k1,k2,k3,k4,k5⟩:=fi hk.1 bw.1 J I S p A H f1 S1 p1 M F hb;rw[k1];cases f1 with
   |normal=>
    simp only at h⊢;obtain⟨A',H',J',I',j1,j2,j3,j4,j5⟩:=jq hk.2 bw.2 J1 I1 S1 p1 A1 H1 fl S' p' k2 k3 h;exact⟨A',H',J',I',j1,j2,j3,k4.trans j4,λj hj hn=>j5 j (Nat.lt_of_lt_of_le hj k4.keep.next) (k5 j hj hn)⟩
   |exit m=>
    simp only[aA,aB]at h;obtain⟨rfl,rfl,rfl⟩:=h;exact⟨A1,H1,J1,I1,rfl,k2,k3,k4,k5⟩
   |ret=>
    simp only[aA,aB]at h;obtain⟨rfl,rfl,rfl⟩:=h;exact⟨A1,H1,J1,I1,rfl,k2,k3,k4,k5⟩
 |cond x a b fi jq=>
  intro hk bw J I S p A H fl S' p' M F h;simp only[fI,fJ,aC]at bw;simp only[fL]at h;have hx:=dL F bw.1.1;split at h
  .rename_i e;rw[e]at hx;obtain⟨A',H',J',I',k1,k2⟩:=fi hk.1 bw.1.2 J I S p A H fl S' p' M F h;refine⟨A',H',J',I',?_,k2⟩;simp only[fI,eJ];generalize ev A x=w at hx;cases hx;exact k1
  .rename_i e;rw[e]at hx;obtain⟨A',H',J',I',k1,k2⟩:=jq hk.2 bw.2 J I S p A H fl S' p' M F h;refine⟨A',H',J',I',?_,k2⟩;simp only[fI,eJ];generalize ev A x=w at hx;cases hx;exact k1
  .cases h
 |block id c ih=>
  intro hk bw J I S p A H fl S' p' M F h;simp only[fI,fJ]at bw;simp only[fL]at h;simp only[fI,eJ];cases hb:fL P pc L c S p with
  |none=>rw[hb]at h;cases h
  |some r=>
   obtain⟨f1,S1,p1⟩:=r;rw[hb]at h;obtain⟨A1,H1,J1,I1,k1,k2,k3,k4,k5⟩:=ih hk bw J I S p A H f1 S1 p1 M F hb;rw[k1];cases f1 with
   |normal=>
    simp only[aA,aB]at h;obtain⟨rfl,rfl,rfl⟩:=h;exact⟨A1,H1,J1,I1,rfl,k2,k3,k4,k5⟩
   |exit m=>
    simp only at h⊢;cases he:ao m id with
    |true=>
     simp only[he,aI,aA,aB]at h⊢;obtain⟨rfl,rfl,rfl⟩:=h;exact⟨A1,H1,J1,I1,⟨rfl,rfl,rfl⟩,k2,k3,k4,k5⟩
    |false=>
     simp only[he,aJ,aA,aB]at h⊢;obtain⟨rfl,rfl,rfl⟩:=h;exact⟨A1,H1,J1,I1,⟨rfl,rfl,rfl⟩,k2,k3,k4,k5⟩
   |ret=>
    simp only[aA,aB]at h;obtain⟨rfl,rfl,rfl⟩:=h;exact⟨A1,H1,J1,I1,rfl,k2,k3,k4,k5⟩
 |loop c ih=>
  intro hk bw;simp only[fI,fJ]at bw;exact aHg (ih hk bw) L
 |exit id=>
  intro _ _ J I S p A H fl S' p' M F h;simp only[fL,aA,aB]at h;obtain⟨rfl,rfl,rfl⟩:=h;exact⟨A,H,J,I,rfl,M,F,.refl J I _ H,λj _ h=>h⟩
 |ret=>
  intro _ _ J I S p A H fl S' p' M F h;simp only[fL,aA,aB]at h;obtain⟨rfl,rfl,rfl⟩:=h;exact⟨A,H,J,I,rfl,M,F,.refl J I _ H,λj _ h=>h⟩
 |scope c ih=>
  intro hk bw;simp only[fI,fJ]at bw;exact ih hk bw
 |other c=>intro _ _ J I S p A H fl S' p' M F h;simp only[fL]at h;cases h
 |drop ts c ih=>
  intro hk bw J I S p A H fl S' p' M F h;simp only[fL]at h;exact ih hk bw J I _ p A H fl S' p' M (F.keeps ts) h
 |ice t c ih=>
  intro hk bw J I S p A H fl S' p' M F h;simp only[fL]at h;split at h
  .rename_i S1 p1 h1;obtain⟨J1,M1,F1,A1⟩:=AZ M F h1;obtain⟨A',H',J',I',k1,k2,k3,k4,k5⟩:=ih hk bw J1 I S1 p1 A H fl S' p' M1 F1 h;exact⟨A',H',J',I',k1,k2,k3,A1.trans k4,k5⟩
  .cases h
def R6: ∀(l:au (PV×Bool)) (i:Nat) (S:PS) (k:Nat),(B0 l i S).at k=if i<=k/\k<i+l.length then(l[k-i]?).getD (.und,aj)else S.at k:=by
 intro l;induction l with
 |nil=>intro i S k;simp[B0];omega
 |cons x l ih=>
  intro i S k;simp only[B0,ih,sE,aM];by_cases h:k=i
  .subst h;simp;omega
  .by_cases h2:i+1<=k/\k<i+1+l.length
   .rw[bJ h2,bJ (by omega),show k-i=(k-(i+1))+1 by omega,aT]
   .rw[bI h2,bI h,bI (by omega)]
def FR.fill{args:au (PV×Bool)}{us:au av}(r:RL J H (args.map (·.1)) us)(ho: ∀(i:Nat) (x:PV) (w:av),args[i]?=aa (x,ah)->us[i]?=aa w->Ow J I H (.slot i) x w):FR J I H (B0 args 0 .none) (qK us 0 .nil):=by
 intro t;rw[R6,Gf];have hl:args.length=us.length:=by have:=r.1;simpa using this
 by_cases h:0<=t/\t<0+args.length
 .rw[bJ h,bJ (by rw[<-hl];exact h)]
  have h1:args[t]?=aa (args[t]'(by omega)):=aV _
  obtain⟨u,h2,h3⟩:=r.get (i:=t) (x:=(args[t]'(by omega)).1) (by rw[List.getElem?_map,h1];rfl)
  simp only[Nat.sub_zero,h1,h2,Option.getD_some];refine⟨h3,λhb=>ho t _ u ?_ h2⟩
  rw[h1,<-hb]
 .rw[bI h];exact⟨.und _,λh=>(by cases h)⟩
def Q4{p:PSt}(M:Mem J I p H)(F:FR J I H S A): ∀(l:au ResultVar) (vs:au (PV×Bool)),iG P S p l=aa vs->∃us,fP P A H l=aa us/\RL J H (vs.map (·.1)) us:=by
 intro l;induction l with
 |nil=>intro vs h;simp only[iG,aA]at h;subst h;exact⟨[],rfl,.nil⟩
 |cons r l ih=>
  intro vs h;simp only[iG]at h;split at h
  .rename_i v py hv kg;simp only[aA]at h;subst h;obtain⟨us,h1,h2⟩:=ih py kg;have: ∃u,uF P A H r=aa u/\R J H v.1 u:=by
    cases r with
    |tmp t=>simp only[uH,aA]at hv;subst hv;exact⟨_,rfl,(F t).1⟩
    |cell a t=>
     simp only[uH,aF]at hv;obtain⟨v',hl,rfl⟩:=hv;exact Fi M (F a).1 hl
   obtain⟨u,h3,h4⟩:=this;exact⟨u::us,by simp only[fP,h3,h1],.cons h4 h2⟩
  .cases h
def aHZ{p:PSt}(M:Mem J I p H)(F:FR J I H S A){r:ResultVar}{l:au ResultVar}{v:PV×Bool}{vs:au (PV×Bool)}(h:iG P S p (r::l)=aa (v::vs)){u:av}{us:au av}(h1:fP P A H (r::l)=aa (u::us))(h3:R J H v.1 u):
    ∃I',(((v.2||lV v.1)&& !LX v.1)=ah->Ow J I' H .hand (wk v.1) u)/\G2 I I':=by
 cases r with
 |tmp t=>
  have hv:v=S.at t:=by
   simp only[iG,uH]at h;split at h
   .rename_i v' py e1 e2;simp only[aA,List.cons.injEq]at h e1;rw[<-h.1,<-e1]
   .cases h
  have hu:u=A.at t:=by
   simp only[fP,uF]at h1;split at h1
   .rename_i v' py e1 e2;simp only[aA,List.cons.injEq]at h1 e1;rw[<-h1.1,<-e1]
   .cases h1
  refine⟨PI.mv (.slot t) .hand I,λho=>?_,.mv (by simp) (by simp)⟩
  simp only[aC]at ho;subst hv;subst hu;have how:Ow J (PI.mv (.slot t) .hand I) H .hand (S.at t).1 (A.at t):=by
   cases hs:(S.at t).2 with
   |true=>exact((F t).2 hs).mv (k':= .hand)
   |false=>
    rw[hs,n9]at ho;have h5:=(F t).1;cases hx:(S.at t).1 with
    |nil=>rw[hx]at h5;generalize A.at t=w at h5⊢;cases h5;exact .nil _
    |_=>rw[hx]at ho;cases ho.1
  exact how.wk (by simpa using ho.2)
 |cell a t=>
  refine⟨I,λho=>?_,.refl I⟩
  simp only[iG,uH]at h;split at h
  .rename_i v' py e1 e2;simp only[aA,List.cons.injEq]at h;simp only[aF]at e1;obtain⟨v2,_,rfl⟩:=e1;simp only[<-h.1,n9,aC]at ho⊢;rw[<-h.1]at h3;cases v2 with
   |nil=>cases h3;exact .nil _
   |_=>cases ho.1
  .cases h
def VC{p:PSt}(M:Mem J I p H)(F:FR J I H S A){l:au ResultVar}{vs:au (PV×Bool)}(h:iG P S p l=aa vs):
    ∃us I',fP P A H l=aa us/\R J H (eS vs).1 (vH us)/\((eS vs).2=ah->Ow J I' H .hand (eS vs).1 (vH us))/\G2 I I':=by
 obtain⟨us,h1,h2⟩:=Q4 M F l vs h;cases vs with
 |nil=>
  have:=h2.nil_inv;subst this;exact⟨[],I,h1,.mkTup .nil,λh=>(by cases h),.refl I⟩
 |cons v vs=>
  cases l with
  |nil=>simp[iG]at h
  |cons r l=>
   obtain⟨u,jp,rfl,h3,h4⟩:=h2.cons_inv;obtain⟨I',g1,g2⟩:=aHZ M F h h1 h3;cases vs with
   |nil=>
    have:=h4.nil_inv;subst this;exact⟨[u],I',h1,h3.wk,g1,g2⟩
   |cons v2 vs=>
    obtain⟨u2,us'',rfl,h5,h6⟩:=h4.cons_inv;refine⟨_,I',h1,.mkTup h2.wks,λh=>?_,g2⟩
    simp only[eS]at h;rw[aC]at h;refine .tup _ _ u _ ?_ (g1 h.1);have h5:=h.2;show(wk v.1).one=ah;generalize v.1=x at h5⊢;cases x with
    |sl z es=>cases es<;>rfl
    |emp=>rfl
    |nil=>rfl
    |_=>cases h5
end
def a7I:au Nat->au Nat->au Nat
 |[],l=>l
 |x::xs,l=>bif l.contains x then a7I xs l else x::a7I xs l
def del(l:au Nat)(k:au Nat):au Nat:=l.filter λx=> !k.contains x
def aSD:a8->au Nat
 | .tmp t=>[t]
 |_=>[]
def aWu(ops:Array ic)(o:ic):au Nat:=
 o.op.operands.toList.flatMap aSD++(match o.guard with|some (j,_)=>(match ops[j]? with|some q=>q.dst.toList|none=>[])|none=>[])
def aAW(ops:Array ic):au ic->au Nat->au Nat
 |[],out=>out
 |o::os,out=>a7I (aWu ops o) (del (aAW ops os out) o.dst.toList)
def lv(rs:au Nat):Code->au Nat->au (Nat×au Nat)->au Nat
 | .region _ ops _,out,_=>aAW ops ops.toList out
 | .seq a b,out,ex=>lv rs a (lv rs b out ex) ex
 | .cond c a b,out,ex=>a7I (aSD c) (a7I (lv rs a out ex) (lv rs b out ex))
 | .block id c,out,ex=>lv rs c out ((id,out)::ex)
 | .loop c,_,ex=>lv rs c [] ex
 | .exit id,_,ex=>match ex.find? λe=>ao e.1 id with|some e=>e.2|none=>[]
 | .ret,_,_=>rs
 | .scope c,out,ex=>lv rs c out ex
 |_,out,_=>out
def aTu(ops:Array ic)(a i s:Nat):Bool:=
 match ops[a]?,ops[i]?,ops[s]? with
 |some oA,aa oI,aa oS=>
  match oA.op,oA.dst,oI.op,oI.dst,oS.op with
  | .call c,aa d,.indexAddr _ (.tmp d') _,aa b,.store _ (.tmp b') _=>qG oA&&ao d d'&&ao b b'
  |_,_,_,_,_=>aj
 |_,_,_=>aj
section
variable{P:az}{J J' J'':Nu}{I I1 I':Ga}{H H':St}{S:PS}{A:ia}
def bJF:OV->PV
 | .s l=> .str l
 | .t=> .v (.bool ah)
def aOA(O:HU)(f:FuncId)(args:au (PV×Bool)):f9 OV:=
 bif ao f O.n then(match args with
 |[(.v (.int .i64 a),_),(.v (.int .i64 b),_)]=>(O.s a b).map .s
 |_=>ae)else bif ao f O.m then(match args with
 |[]=>aa .t
 |_=>ae)else ae
def aTv(O:HU)(f:FuncId)(args:au (PV×Bool)):Bool:=
 bif ao f O.n then(match args with
 |[(.v (.int .i64 a),_),(.v (.int .i64 b),_)]=>ah
 |_=>aj)else bif ao f O.m then(match args with
 |[]=>ah
 |_=>aj)else ah
variable(P) in
def JB(pc:jZ)(L:Nat)(c:PC)(rs:au ResultVar)(args:au (PV×Bool))(p:PSt):f9 (PV×Bool×PSt):=match fL P pc L c (B0 args 0 .none) (a6u p)with
 |some (.exit _,_,_)=>ae
 |some (_,S,p')=>match iG P S p' rs with
  |some vs=>aa ((eS vs).1,(eS vs).2,settle p (eS vs).1 p')
  |none=>ae
 |none=>ae
variable(P) in
def vD(O:HU)(G:aKQ)(L:Nat):Nat->jZ
 |0,_,_,_=>ae
 |n+1,f,args,p=>match aOA O f args with
  |some s=>aa (bJF s,aj,p)
  |none=>bif !aTv O f args|| !OC P f args.length then ae else match G f with
   |some (c,rs)=>JB P (vD O G L n) L c rs args p
   |none=>ae
def R.int_inv{x:Int}{k:IntKind}{u:av}(h:R J H (.v (.int k x)) u):u= .int k x:=by cases h;rfl
def aGt{O:HU}{f:FuncId}{args:au (PV×Bool)}{us:Array av}(r:RL J H (args.map (·.1)) us.toList)(h:aTv O f args=ah):bBn O f us=(aOA O f args).map OV.v:=by
 unfold aTv at h;unfold bBn aOA;cases hf:ao f O.n with
 |false=>
  rw[hf,aJ]at h;simp only[aJ];cases hm:ao f O.m with
  |false=>rfl
  |true=>
   rw[hm,aI]at h;simp only[aI];split at h
   .obtain⟨hl,_⟩:=r
    match hu:us.toList,hl with
    |[],_=>rfl
   .cases h
 |true=>
  rw[hf,aI]at h;simp only[aI];split at h
  .rename_i a o1 b o2;obtain⟨hl,hr⟩:=r
   match hu:us.toList,hl,hr with
   |[u,v],_,hr=>
    have e1:=R.int_inv (hr 0 _ u rfl rfl);have e2:=R.int_inv (hr 1 _ v rfl rfl);rw[e1,e2]
  .cases h
def a3X{O:HU}{f:FuncId}{args:au (PV×Bool)}{s:OV}(h:aOA O f args=aa s):aTv O f args=ah:=by
 unfold aOA at h;unfold aTv;cases hf:ao f O.n with
 |false=>
  rw[hf,aJ]at h;rw[aJ];cases hm:ao f O.m with
  |false=>rfl
  |true=>
   rw[hm,aI]at h;rw[aI];split at h
   .rfl
   .cases h
 |true=>
  rw[hf,aI]at h;rw[aI];split at h
  .rfl
  .cases h
def Xi(P C:az)(G:aKQ):Prop:=
 ∀f c rs,G f=aa (c,rs)->∃fn,C.funcs[f]?=aa fn/\fn.body=aa (fI c)/\rs=fn.results.toList/\tS c/\fJ P fn.ntmps (fI c)=ah
def aEP{pc:jZ}{ac:FuncId->Array av->St->f9 (av×St)}(ih:pX pc ac){L:Nat}{c:PC}{fn:Func}(h4:tS c)(h5:fJ P fn.ntmps (fI c)=ah){args:au (PV×Bool)}{p p':PSt}{v:PV}{own:Bool}
    (h:JB P pc L c fn.results.toList args p=aa (v,own,p')) {J:Nu} {I:Ga} {H:St} {us:Array av} (M:Mem J I p H) (r:RL J H (args.map (·.1)) us.toList)
    (ho: ∀(i:Nat) (x:PV) (w:av),args[i]?=aa (x,ah)->us.toList[i]?=aa w->Ow J I H (.slot i) x w):
    ∃u H' J' I',oZ P fn (eJ P ac L (fI c) (qK us.toList 0 .nil) H)=aa (u,H')/\R J' H' v u/\(own=ah->Ow J' I' H' .hand v u)/\Mem J' I' p' H'/\Adv J I p H J' I' p' H'/\∀j,j<H.next->H.get j=ae->H'.get j=ae:=by
 unfold JB at h;have M0:Mem J I (a6u p) H:=⟨M.le,M.lt,M.inj,M.live,M.get,M.free,M.ver⟩;have key: ∀fl S' p1,fL P pc L c (B0 args 0 .none) (a6u p)=aa (fl,S',p1)->(∀k,fl≠ .exit k)->∀vs,iG P S' p1 fn.results.toList=aa vs->
      v=(eS vs).1->own=(eS vs).2->p'=settle p (eS vs).1 p1->
      ∃u H' J' I',oZ P fn (eJ P ac L (fI c) (qK us.toList 0 .nil) H)=aa (u,H')/\R J' H' v u/\(own=ah->Ow J' I' H' .hand v u)/\Mem J' I' p' H'/\Adv J I p H J' I' p' H'/\∀j,j<H.next->H.get j=ae->H'.get j=ae:=by
  intro fl S' p1 he bi vs kg hv kv qk;obtain⟨A',H1,J1,I1,k1,k2,k3,k4,k5⟩:=aH7 ih L fn.ntmps c h4 h5 J I _ _ (qK us.toList 0 .nil) H fl S' p1 M0 (FR.fill r ho) he;obtain⟨jp,I2,j1,j2,j3,j4⟩:=VC k2 k3 kg;obtain⟨J3,m1,m2,m3,m4⟩:=aCO (own:=(eS vs).2) M (k2.g2 j4) (k4.trans (.g j4.out)) j2 j3;rw[k1];subst hv;subst kv;subst qk;refine⟨vH jp,H1,J3,I2,?_,m1,m2,m3,m4,k5⟩;cases fl with
  |normal=>simp only[oZ,j1];rfl
  |ret=>simp only[oZ,j1];rfl
  |exit k=>exact absurd rfl (bi k)
 split at h
 .cases h
 .rename_i fl S' p1 bi he;split at h
  .rename_i vs kg;simp only[aA,aB]at h;exact key fl S' p1 he (λk e=>bi k e) vs kg h.1.symm h.2.1.symm h.2.2.symm
  .cases h
 .cases h
def aDy{C:az}{O:HU}{G:aKQ}(hw:O.w=ae)(hG:Xi P C G)(L:Nat): ∀n,pX (vD P O G L n) (Dw P C O L n):=by
 intro n;induction n with
 |zero=>intro g args p v own p' h;simp only[vD]at h;cases h
 |succ n ih=>
  intro g args p v own p' h J I H us M r ho;simp only[vD]at h;split at h
  .rename_i s hs;simp only[aA,aB]at h;obtain⟨rfl,rfl,rfl⟩:=h;refine⟨s.v,H,J,I,by simp only[Dw,aGt r (a3X hs),hs,aK],(match s with| .s l=>R.str ⟨l.toArray⟩| .t=>R.v _ rfl),λh=>(by cases h),M,Adv.refl J I p H,λj _ h=>h⟩
  rename_i du;cases qe:aTv O g args with
  |false=>rw[qe]at h;cases h
  |true=>
  rw[qe]at h;cases px:OC P g args.length with
  |false=>rw[px]at h;cases h
  |true=>
  rw[px]at h;simp only[bE,Bool.or_self,aJ]at h;have hus:us.size=args.length:=by have:=r.1;simpa using this.symm
  have mz:bBn O g us=ae:=by rw[aGt r qe,du];rfl
  have hnw:bGU O g us H=ae:=by unfold bGU;rw[hw]
  split at h
  .rename_i c rs hg;obtain⟨fn,h1,h2,rfl,h4,h5⟩:=hG g c rs hg;simp only[Dw,mz,hnw,hus,px,aI,h1,h2];exact aEP ih h4 h5 h M r ho
  .cases h
end
end Go.PI
