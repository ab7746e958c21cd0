import Derived.Test.YtgfhobcfdppbdaaGreatDoorKc
open Option renaming some->aa,none->ad
open Bool renaming true->ae,false->ah,or_eq_true->b9
open Decidable renaming decide->aj
open Nat renaming beq->am,ble->an,zero_le->a8,lt_or_ge->b7
open Go renaming Value->au,TypeId->av,Program->aw,Operand->az
open List renaming getElem?_eq_none->d9
set_option linter.unusedVariables false
set_option linter.unusedSimpArgs false
set_option linter.constructorNameAsVariable false
set_option linter.defProp false
namespace Go.AI
section
variable{w0:W0}{P:aw}{Y:Mp}{H:St}{w:World}
def AH: ∀(xs cs:List au) (off:Nat),(iJ cs off xs).length=cs.length
 |[],_,_=>rfl
 |x::xs,cs,off=>by rw[iJ,AH xs];simp
def aCt: ∀(xs cs:List au) (off i:Nat),off+xs.length<=cs.length->(iJ cs off xs)[i]?=if off<=i/\i<off+xs.length then xs[i-off]? else cs[i]?:=by
 intro xs;induction xs with
 |nil=>intro cs off i _;rw[iJ,bH (by simp)]
 |cons x xs ih=>
  intro cs off i h;simp only[aM]at h;rw[iJ,ih _ _ _ (by simp;omega)]
  by_cases h1:off+1<=i/\i<off+1+xs.length
  .rw[bI h1,bI (by simp;omega)]
   rw[show i-off=(i-(off+1))+1 by omega];simp
  .rw[bH h1];by_cases h2:i=off
   .subst h2;rw[bI (by simp),List.getElem?_set_self (by omega)];simp
   .rw[bH (by simp;omega),List.getElem?_set_ne (by omega)]
def ZL(l us:List au)(a k:Nat)(h:a+us.length<=l.length):
    (l.take a++us++l.drop (a+us.length))[k]?=if a<=k/\k<a+us.length then us[k-a]? else l[k]?:=by
 have hl:(l.take a).length=a:=by simp;omega
 rw[aQ,List.getElem?_append];split
 .rename_i h1;rw[hl]at h1;rw[bH (by omega),List.getElem?_take,bI h1]
 .rename_i h1;rw[hl]at h1⊢;rw[List.getElem?_append];split
  .rename_i h2;rw[bI (by omega)]
  .rename_i h2;rw[bH (by omega),List.getElem?_drop]
   congr 1;omega
def DX(l us:List au)(a:Nat)(h:a+us.length<=l.length):(l.take a++us++l.drop (a+us.length)).length=l.length:=by simp;omega
def RowAt.other{q:Place}{ds:List au}{n:uJ}(R:RowAt w0 Y w q ds n){b:Nat}{C C':Array au}{t:av}(hC:w.heap[b]?=aa (.cells C t (0,0)))(co:C'.size=C.size)
    (h:q.b=b->∀i,i<ds.length->C'[q.o+i]?=C[q.o+i]?):RowAt w0 Y (w.setRow b C') q ds n:=by
 obtain⟨⟨D,u,fr,hD,lg,cp⟩,h2,h3,h4,h5⟩:=R;refine⟨?_,h2,h3,h4,λhw C1 t1 fr1 e1=>?_⟩
 rotate_left
 .by_cases hb:q.b=b
  .rw[hb,setRow_heap w b C C' _ _ hC]at e1;cases e1;rfl
  .rw[setRow_other _ _ _ _ hb]at e1;exact h5 hw _ _ _ e1
 by_cases hb:q.b=b
 .rw[hb,hC]at hD;cases hD;refine⟨C',_,_,by rw[hb];exact setRow_heap w b C C' _ _ hC,λi v hi=>?_,λht=>by rw[co];exact cp ht⟩
  obtain⟨u,hu,hr⟩:=lg i v hi;have bi:i<ds.length:=by
   rcases b7 i ds.length with h'|h'
   .exact h'
   .rw[d9 h']at hi;cases hi
  exact⟨u,by rw[h hb i bi];exact hu,hr⟩
 .exact⟨D,u,fr,by rw[setRow_other _ _ _ _ hb];exact hD,lg,cp⟩
def MapAt.other{q:Place}{es:List (au×au)}(R:MapAt w0 Y w q es){b:Nat}{C C':Array au}{t:av}(hC:w.heap[b]?=aa (.cells C t (0,0))):MapAt w0 Y (w.setRow b C') q es:=by
 obtain⟨⟨ES,c,h,h1,h2⟩,h3⟩:=R;have hb:q.b≠b:=by intro e;rw[e,hC]at h;cases h
 exact⟨⟨ES,c,by rw[setRow_other _ _ _ _ hb];exact h,h1,h2⟩,h3⟩
def KeptO.setRow(K:KeptO w0 Y w){b:Nat}(hb:w0.heap.size<=b)(hbo: ∀k o,w0.O k=aa o->b≠k)(C':Array au):KeptO w0 Y (w.setRow b C'):=by
 refine⟨⟨K.os,K.output,by rw[setRow_size];exact K.size,λk hk=>by rw[setRow_other _ _ _ _ (by omega)];exact K.old k hk⟩,λk o hk=>?_,λid p h=>by rw[setRow_size];exact K.bnd id p h⟩
 .exact⟨by rw[setRow_other _ _ _ _ (Ne.symm (hbo k o hk))];exact(K.oth k o hk).1,(K.oth k o hk).2⟩
def Sim.write(S:Sim w0 P Y H w){id:Nat}{p:Place}{cs:List au}{m m':uJ}{H':St}{C:Array au}{t:av}(hp:Y id=aa p)(hg:H.get id=aa (.cells cs m))(bf:H.good m=ae)
    (gh:m.wr=ae) (hC:w.heap[p.b]?=aa (.cells C t (0,0))) {off:Nat} {xs us:List au} (hxs:VRL Y xs us) (hlen:off+xs.length<=cs.length)
    (hnext:H'.next=H.next) (hid:H'.get id=aa (.cells (iJ cs off xs) m')) (bn: ∀k,k≠id->H'.get k=H.get k)
    (ro:m'.wr=m.wr/\m'.tip=m.tip/\m'.z=m.z/\(∀n,jP m' n↔jP m n)/\(∀n,jP n m'↔jP n m)) (hml:m'.lim=m.lim)
    (pk: ∀k ds n,k≠id->H.get k=aa (.cells ds n)->H'.good n=ae->H.good n=ae/\(¬jP m n∨(m.tip=ae/\m.lim<=off)))
    (hvers: ∀k ds n g v,H'.get k=aa (.cells ds n)->n.grp=aa (g,v)->v<=H'.ver g):
    Sim w0 P Y H' (w.setRow p.b (C.toList.take (p.o+off)++us++C.toList.drop (p.o+off+us.length)).toArray):=by
 have R:=S.row id p cs m hp hg bf;have hin:xs.length=0∨p.o+off+us.length<=C.toList.length:=by
  rcases Nat.eq_zero_or_pos xs.length with h|h
  .exact .inl h
  .right;obtain⟨D,u,fr,hD,lg,_⟩:=R.row;rw[hC]at hD;cases hD;have:off+xs.length-1<cs.length:=by omega
   obtain⟨x,hx,_⟩:=lg _ _ (aV this);have:=(Array.getElem?_eq_some_iff.1 hx).1;rw[<-hxs.1];simp;omega
 generalize hC':(C.toList.take (p.o+off)++us++C.toList.drop (p.o+off+us.length)).toArray=C';have bc: ∀k,C'[k]?=if p.o+off<=k/\k<p.o+off+us.length then us[k-(p.o+off)]? else C[k]?:=by
  intro k;rw[<-hC'];rcases hin with h|h
  .have hu:us=[]:=by have:=hxs.1;rw[h]at this;exact List.eq_nil_of_length_eq_zero this.symm
   subst hu;rw[bH (by simp)]
   simp
  .have:=ZL C.toList us (p.o+off) k h;simpa using this
 have co:C'.size=C.size:=by
  rw[<-hC'];rcases hin with h|h
  .have hu:us=[]:=by have:=hxs.1;rw[h]at this;exact List.eq_nil_of_length_eq_zero this.symm
   subst hu;simp
  .have:=DX C.toList us (p.o+off) h;simpa using this
 have tq:(iJ cs off xs).length=cs.length:=AH _ _ _;have Rid:RowAt w0 Y (w.setRow p.b C') p (iJ cs off xs) m':=by
  obtain⟨⟨D,u,fr,hD,lg,cp⟩,h2,h3,h4,h5⟩:=R;rw[hC]at hD;cases hD;refine⟨⟨C',_,_,setRow_heap w p.b C C' _ _ hC,λi v hi=>?_,λht=>?_⟩,λh=>h2 (ro.1▸h),λh=>by rw[tq];exact h3 (ro.2.1▸h),by rw[ro.2.2.1];exact h4,λ_ C1 t1 fr1 e1=>by rw[setRow_heap w p.b C C' _ _ hC]at e1;cases e1;rfl⟩
  .rw[aCt _ _ _ _ hlen]at hi;rw[bc];split at hi
   .rename_i h1;rw[bI (by have:=hxs.1;omega)]
    obtain⟨u,hu,hr⟩:=hxs.get hi;exact⟨u,by rw[show p.o+i-(p.o+off)=i-off by omega];exact hu,hr⟩
   .rename_i h1;rw[bH (by have:=hxs.1;omega)]
    exact lg i v hi
  .rw[co];exact cp (ro.2.1▸ht)
 have Roth: ∀k q ds n,k≠id->Y k=aa q->H.get k=aa (.cells ds n)->H.good n=ae->(¬jP m n∨(m.tip=ae/\m.lim<=off))->RowAt w0 Y (w.setRow p.b C') q ds n:=by
  intro k q ds n hk hq hgk mb hs;refine(S.row k q ds n hq hgk mb).other hC co (λhb i hi=>?_)
  rw[bc,bH];intro h1;rcases hs with hs|⟨ht,hl⟩
  .exact S.off id k p q cs ds m n (Ne.symm hk) hp hq hg hgk bf mb gh hs hb.symm (q.o+i) (by have:=hxs.1;omega) (by have:=hxs.1;omega) (by omega) (by omega)
  .exact S.lim id k p q cs ds m n (Ne.symm hk) hp hq hg hgk bf mb ht hb.symm (q.o+i) (by have:=hxs.1;omega) (by have:=hxs.1;omega) (by omega) (by omega)
 have old: ∀{k q ds n},k≠id->Y k=aa q->H'.get k=aa (.cells ds n)->H'.good n=ae->H.get k=aa (.cells ds n)/\H.good n=ae/\(¬jP m n∨(m.tip=ae/\m.lim<=off)):=by
  intro k q ds n hk hq bm hgd';rw[bn k hk]at bm;obtain⟨h1,h2⟩:=pk k ds n hk bm hgd';exact⟨bm,h1,h2⟩
 refine⟨S.kept.setRow (R.wr gh) (λk o hk=>(S.kept.oth k o hk).2 id p hp) C',λk hk=>S.dom k (hnext▸hk),S.glob,?_,?_,?_,?_,?_,hvers,?_⟩
 .intro k q ds n hq bm mb;by_cases hk:k=id
  .subst hk;rw[hp]at hq;cases hq;rw[hid]at bm;cases bm;exact Rid
  .obtain⟨h1,h2,h3⟩:=old hk hq bm mb;exact Roth k q ds n hk hq h1 h2 h3
 .intro k q es hq bm;have hk:k≠id:=by intro e;subst e;rw[hid]at bm;cases bm
  rw[bn k hk]at bm;exact(S.map k q es hq bm).other hC
 .intro i j a b as bs n1 n2 bv ha hb kg jb h1 h2 hw hs;by_cases hi:i=id
  .subst hi;rw[hp]at ha;cases ha;rw[hid]at kg;cases kg;obtain⟨g1,g2,g3⟩:=old (Ne.symm bv) hb jb h2;rw[tq];exact S.off i j p b cs bs m n2 bv hp hb hg g1 bf g2 gh (λh=>hs ((ro.2.2.2.1 n2).2 h))
  .obtain⟨f1,f2,f3⟩:=old hi ha kg h1;by_cases hj:j=id
   .subst hj;rw[hp]at hb;cases hb;rw[hid]at jb;cases jb;rw[tq];exact S.off i j a p as cs n1 m bv ha hp f1 hg f2 bf hw (λh=>hs ((ro.2.2.2.2 n1).2 h))
   .obtain⟨g1,g2,g3⟩:=old hj hb jb h2;exact S.off i j a b as bs n1 n2 bv ha hb f1 g1 f2 g2 hw hs
 .intro i j a b as bs n1 n2 bv ha hb kg jb h1 h2 hw;by_cases hi:i=id
  .subst hi;rw[hp]at ha;cases ha;rw[hid]at kg;cases kg;obtain⟨g1,g2,g3⟩:=old (Ne.symm bv) hb jb h2;rw[tq];exact S.tip i j p b cs bs m n2 bv hp hb hg g1 bf g2 (ro.2.1▸hw)
  .obtain⟨f1,f2,f3⟩:=old hi ha kg h1;by_cases hj:j=id
   .subst hj;rw[hp]at hb;cases hb;rw[hid]at jb;cases jb;rw[tq];have:=S.tip i j a p as cs n1 m bv ha hp f1 hg f2 bf hw;exact⟨this.1,λh=>this.2 (ro.2.1▸h)⟩
   .obtain⟨g1,g2,g3⟩:=old hj hb jb h2;exact S.tip i j a b as bs n1 n2 bv ha hb f1 g1 f2 g2 hw
 .intro i j a b es fs bv ha hb kg jb;have hi:i≠id:=by intro e;subst e;rw[hid]at kg;cases kg
  have hj:j≠id:=by intro e;subst e;rw[hid]at jb;cases jb
  rw[bn i hi]at kg;rw[bn j hj]at jb;exact S.maps i j a b es fs bv ha hb kg jb
 .intro i j a b as bs n1 n2 bv ha hb kg jb h1 h2 hw;by_cases hi:i=id
  .subst hi;rw[hp]at ha;cases ha;rw[hid]at kg;cases kg;obtain⟨g1,g2,g3⟩:=old (Ne.symm bv) hb jb h2;rw[tq,hml];exact S.lim i j p b cs bs m n2 bv hp hb hg g1 bf g2 (ro.2.1▸hw)
  .obtain⟨f1,f2,f3⟩:=old hi ha kg h1;by_cases hj:j=id
   .subst hj;rw[hp]at hb;cases hb;rw[hid]at jb;cases jb;rw[tq];exact S.lim i j a p as cs n1 m bv ha hp f1 hg f2 bf hw
   .obtain⟨g1,g2,g3⟩:=old hj hb jb h2;exact S.lim i j a b as bs n1 n2 bv ha hb f1 g1 f2 g2 hw
def HV(v:au):v.oneCell'=one v:=by cases v<;>rfl
def aDf{t:av}{a b x y:au}{H':St}(S:Sim w0 P Y H w)(ra:VR Y a b)(rx:VR Y x y)(h:oE P H t a x=aa H'):
    ∃w',(Instr.storeAt t b y).run P w= .ok () w'/\Sim w0 P Y H' w'/\H'.next=H.next:=by
 unfold oE at h;split at h<;>try cases h
 rename_i id off;obtain⟨p,hp,rfl⟩:=ra.ptr_inv;split at h<;>try cases h
 rename_i cs m n bh hn;obtain⟨hg,bf⟩:=St.row_some bh;cases hc:(m.wr&&am x.cells.size n&&an (off+n) cs.length&&x.cells.toList.all one)with
 |false=>rw[hc]at h;cases h
 |true=>
  rw[hc]at h;simp only[aC,BR,dN,aD]at hc;obtain⟨⟨⟨gh,co⟩,hle⟩,gz⟩:=hc;simp only[aI]at h;have R:=S.row id p cs m hp hg bf;obtain⟨C,ty,fr,hC,hcs,_⟩:=R.row;have hfr:=R.fz gh C ty fr hC;subst hfr;have hxs:=rx.cells;have gu:x.cells.toList.length=n:=by simpa using co
  have hone': ∀v∈y.cells.toList,v.oneCell'=ae:=by
   intro v hv;rw[HV];have:=hxs.one_eq;rw[gz]at this;exact bJ.1 this v hv
  have jt:p.o+off+y.cells.toList.length<=C.size∨y.cells.toList=[]:=by
   rcases Nat.eq_zero_or_pos n with h0|h0
   .right;apply List.eq_nil_of_length_eq_zero;rw[<-hxs.1,gu,h0]
   .left;have:off+n-1<cs.length:=by omega
    obtain⟨u,hu,_⟩:=hcs _ _ (aV this);have:=(Array.getElem?_eq_some_iff.1 hu).1;rw[<-hxs.1,gu];omega
  have fh:(Instr.storeAt t (.pointer (aa ⟨p.b,p.o+off,ad⟩)) y).run P w=
        .ok () (w.setRow p.b (C.toList.take (p.o+off)++y.cells.toList++C.toList.drop (p.o+off+y.cells.toList.length)).toArray):=by
   unfold Instr.storeAt storeVar;have hsy: ¬(y.cells.size≠n):=by have:=hxs.size;omega
   simp only[Instr.sureAddr,Sem.run_bind,Sem.run_pure,Result.andThen_ok,iM (w:=w) (show cJ P (Go.sizeOf t)=aa n by rw[cY];exact hn),bH hsy]
   rcases jt with hf|hf
   .have:=run_storeCells_at P p.b (p.o+off) ty y.cells.toList 0 C w hC (by simpa using hf) hone'
    simpa using this
   .rw[hf];simp only[storeCells,bA,aX,Nat.add_zero,List.take_append_drop,Array.toArray_toList];rw[setRow_self w p.b C ty (0,0) hC];rfl
  refine⟨_,fh,?_⟩;cases gm:m.grp with
  |none=>
   simp only[gm,aA]at h;subst h;have pi: ∀n,¬jP m n:=λn ⟨g,v,v',e,_⟩=>by rw[gm]at e;cases e
   refine⟨S.write hp hg bf gh hC hxs (by rw[gu];exact hle) rfl (m':=m) (by rw[St.get_put,bI rfl]) (λk hk=>by rw[St.get_put,bH hk]) ⟨rfl,rfl,rfl,λ_=>Iff.rfl,λ_=>Iff.rfl⟩ rfl
    (λk ds n _ _ mb=>⟨mb,.inl (pi n)⟩) (λk ds n g v hk ja=>?_),rfl⟩
   rw[St.get_put]at hk;split at hk
   .cases hk;rw[gm]at ja;cases ja
   .exact S.vers k ds n g v hk ja
  |some gv=>
   obtain⟨g,v⟩:=gv;simp only[gm]at h;cases cy:(m.tip&&an m.lim off)with
   |true=>
    rw[cy]at h;simp only[aI,aA]at h;subst h;simp only[aC,BR,aD]at cy;refine⟨S.write hp hg bf gh hC hxs (by rw[gu];exact hle) rfl (m':=m) (by rw[St.get_put,bI rfl]) (λk hk=>by rw[St.get_put,bH hk]) ⟨rfl,rfl,rfl,λ_=>Iff.rfl,λ_=>Iff.rfl⟩ rfl
     (λk ds n _ _ mb=>⟨mb,.inr cy⟩) (λk ds n g v hk ja=>?_),rfl⟩
    rw[St.get_put]at hk;split at hk
    .cases hk;exact S.vers id _ _ g v hg ja
    .exact S.vers k ds n g v hk ja
   |false=>
   rw[cy]at h;simp only[aJ,aA]at h;subst h;have hver:H.ver g=v:=(St.good_iff H m).1 bf g v gm;refine⟨S.write hp hg bf gh hC hxs (by rw[gu];exact hle) rfl (m':={m with grp:=aa (g,v+1)}) (by rw[St.get_bump,St.get_put,bI rfl]) (λk hk=>by rw[St.get_bump,St.get_put,bH hk])
    ⟨rfl,rfl,rfl,λn=>?_,λn=>?_⟩ rfl (λk ds n hk hgk mb=>?_) (λk ds n g' v' hk ja=>?_),rfl⟩
   .constructor
    .rintro⟨g1,v1,v2,e1,e2⟩;cases e1;exact⟨_,_,_,gm,e2⟩
    .rintro⟨g1,v1,v2,e1,e2⟩;rw[gm]at e1;cases e1;exact⟨_,_,_,rfl,e2⟩
   .constructor
    .rintro⟨g1,v1,v2,e1,e2⟩;cases e2;exact⟨_,_,_,e1,gm⟩
    .rintro⟨g1,v1,v2,e1,e2⟩;rw[gm]at e2;cases e2;exact⟨_,_,_,e1,rfl⟩
   .rw[St.good_iff]at mb;have qd: ∀v',n.grp≠aa (g,v'):=by
     intro v' e;have h1:=mb g v' e;rw[St.ver_bump,bI rfl]at h1;have h2:=S.vers k ds n g v' hgk e;omega
    refine⟨(St.good_iff H n).2 λg' v' e=>?_,.inl ?_⟩
    .have h1:=mb g' v' e;rw[St.ver_bump]at h1;split at h1
     .rename_i eg;subst eg;exact absurd e (qd v')
     .exact h1
    .rintro⟨g1,v1,v2,e1,e2⟩;rw[gm]at e1;cases e1;exact qd v2 e2
   .rw[St.get_bump,St.get_put]at hk;rw[St.ver_bump];split at hk
    .cases hk;cases ja;rw[bI rfl];exact aS _
    .have:=S.vers k ds n g' v' hk ja;split
     .rename_i eg;subst eg;omega
     .exact this
end
end Go.AI
namespace Go.AI
section
variable{w0:W0}{P:aw}{Y:Mp}{H:St}{w:World}
def Sim.untip(S:Sim w0 P Y H w){id:Nat}{cs:List au}{m:uJ}(hg:H.get id=aa (.cells cs m)):Sim w0 P Y (H.put id (.cells cs {m with tip:=ah})) w:=by
 have bc: ∀{k ds n},(H.put id (.cells cs {m with tip:=ah})).get k=aa (.cells ds n)->∃n',H.get k=aa (.cells ds n')/\n.wr=n'.wr/\n.z=n'.z/\n.grp=n'.grp/\(n.tip=ae->n'.tip=ae/\n.lim=n'.lim):=by
  intro k ds n h;rw[St.get_put]at h;split at h
  .rename_i e;subst e;cases h;exact⟨m,hg,rfl,rfl,rfl,λh=>by cases h⟩
  .exact⟨n,h,rfl,rfl,rfl,λh=>⟨h,rfl⟩⟩
 have ma: ∀{k es},(H.put id (.cells cs {m with tip:=ah})).get k=aa (.map es)->H.get k=aa (.map es):=by
  intro k es h;rw[St.get_put]at h;split at h
  .cases h
  .exact h
 have bf: ∀{n n':uJ},n.grp=n'.grp->H.good n=ae->H.good n'=ae:=by
  intro n n' e h;rw[St.good_iff]at h⊢;intro g v e';exact h g v (e.trans e')
 have ci: ∀{a a' b b':uJ},a.grp=a'.grp->b.grp=b'.grp->jP a' b'->jP a b:=by
  rintro a a' b b' e1 e2 ⟨g,v,v',h1,h2⟩;exact⟨g,v,v',e1.trans h1,e2.trans h2⟩
 refine⟨S.kept,S.dom,S.glob,?_,?_,?_,?_,?_,?_,?_⟩
 .intro k q ds n hq h pk;obtain⟨n',h',e1,e2,e3,e4⟩:=bc h;obtain⟨⟨D,t,fr,hD,lg,cp⟩,h2,h3,h4,h5⟩:=S.row k q ds n' hq h' (bf e3 pk);exact⟨⟨D,t,fr,hD,lg,λht=>cp (e4 ht).1⟩,λhw=>h2 (e1▸hw),λht=>h3 (e4 ht).1,by rw[h4,e2],λhw=>h5 (e1▸hw)⟩
 .intro k q es hq h;exact S.map k q es hq (ma h)
 .intro i j a b as bs n1 n2 bv ha hb h1 h2 g1 g2 hw hs;obtain⟨m1,f1,a1,a2,a3,a4⟩:=bc h1;obtain⟨m2,f2,b1,b2,b3,b4⟩:=bc h2;exact S.off i j a b as bs m1 m2 bv ha hb f1 f2 (bf a3 g1) (bf b3 g2) (a1▸hw) (λh=>hs (ci a3 b3 h))
 .intro i j a b as bs n1 n2 bv ha hb h1 h2 g1 g2 hw;obtain⟨m1,f1,a1,a2,a3,a4⟩:=bc h1;obtain⟨m2,f2,b1,b2,b3,b4⟩:=bc h2;have:=S.tip i j a b as bs m1 m2 bv ha hb f1 f2 (bf a3 g1) (bf b3 g2) (a4 hw).1;exact⟨this.1,λh=>this.2 (b4 h).1⟩
 .intro i j a b es fs bv ha hb h1 h2;exact S.maps i j a b es fs bv ha hb (ma h1) (ma h2)
 .intro k ds n g v h e;obtain⟨n',h',_,_,e3,_⟩:=bc h;exact S.vers k ds n' g v h' (e3▸e)
 .intro i j a b as bs n1 n2 bv ha hb h1 h2 g1 g2 hw;obtain⟨m1,f1,a1,a2,a3,a4⟩:=bc h1;obtain⟨m2,f2,b1,b2,b3,b4⟩:=bc h2;rw[(a4 hw).2];exact S.lim i j a b as bs m1 m2 bv ha hb f1 f2 (bf a3 g1) (bf b3 g2) (a4 hw).1
def Sim.extend(S:Sim w0 P Y H w){id bu:Nat}{p:Place}{cs xs us:List au}{m:uJ}{C:Array au}{t:av}{off:Nat}(hp:Y id=aa p)(hg:H.get id=aa (.cells cs m))(bf:H.good m=ae)
    (cp:m.tip=ae) (gh:m.wr=ae) (qi:m.grp.isSome=ae) (hC:w.heap[p.b]?=aa (.cells C t (0,0))) (jr:off<=cs.length) (hxs:VRL Y xs us) (jt:p.o+cs.length+xs.length<=p.e)
    (hid:Y bu=ad) (bi:bu<H.next):
    Sim w0 P (upd Y bu ⟨p.b,p.o+off,p.e,p.z⟩) ((H.put id (.cells cs {m with tip:=ah})).put bu (.cells (cs.drop off++xs) {m with lim:=(cs.drop off).length}))
      (w.setRow p.b (C.toList.take (p.o+cs.length)++us++C.toList.drop (p.o+cs.length+us.length)).toArray):=by
 have bn:bu≠id:=by intro e;subst e;rw[hid]at hp;cases hp
 have bw:=mM (⟨p.b,p.o+off,p.e,p.z⟩:Place) hid;have R:=S.row id p cs m hp hg bf;have hCe:p.e<=C.size:=by
  obtain⟨D,u,fr,hD,_,ht⟩:=R.row;rw[hC]at hD;cases hD;exact ht cp
 have hin:p.o+cs.length+us.length<=C.toList.length:=by have:=hxs.1;simp;omega
 generalize hC':(C.toList.take (p.o+cs.length)++us++C.toList.drop (p.o+cs.length+us.length)).toArray=C';have bc: ∀k,C'[k]?=if p.o+cs.length<=k/\k<p.o+cs.length+us.length then us[k-(p.o+cs.length)]? else C[k]?:=by
  intro k;rw[<-hC'];have:=ZL C.toList us (p.o+cs.length) k hin;simpa using this
 have co:C'.size=C.size:=by rw[<-hC'];have:=DX C.toList us (p.o+cs.length) hin;simpa using this
 have ge:=hxs.1;have kq:(cs.drop off++xs).length=cs.length-off+xs.length:=by simp
 have dn: ∀{k q ds n},upd Y bu ⟨p.b,p.o+off,p.e,p.z⟩ k=aa q->((H.put id (.cells cs {m with tip:=ah})).put bu (.cells (cs.drop off++xs) {m with lim:=(cs.drop off).length})).get k=aa (.cells ds n)->
      (k=bu/\q=⟨p.b,p.o+off,p.e,p.z⟩/\ds=cs.drop off++xs/\n={m with lim:=(cs.drop off).length})∨(k=id/\q=p/\ds=cs/\n={m with tip:=ah})∨(k≠bu/\k≠id/\Y k=aa q/\H.get k=aa (.cells ds n)):=by
  intro k q ds n hq h;by_cases e:k=bu
  .subst e;rw[kV]at hq;cases hq;rw[St.get_put,bI rfl]at h;cases h;exact .inl ⟨rfl,rfl,rfl,rfl⟩
  .rw[jD e]at hq;rw[St.get_put,bH e,St.get_put]at h;by_cases e2:k=id
   .subst e2;rw[hp]at hq;cases hq;rw[bI rfl]at h;cases h;exact .inr (.inl ⟨rfl,rfl,rfl,rfl⟩)
   .rw[bH e2]at h;exact .inr (.inr ⟨e,e2,hq,h⟩)
 have hcaseM: ∀{k q es},upd Y bu ⟨p.b,p.o+off,p.e,p.z⟩ k=aa q->((H.put id (.cells cs {m with tip:=ah})).put bu (.cells (cs.drop off++xs) {m with lim:=(cs.drop off).length})).get k=aa (.map es)->Y k=aa q/\H.get k=aa (.map es):=by
  intro k q es hq h;rw[St.get_put]at h;split at h
  .cases h
  .rename_i e;rw[jD e]at hq;rw[St.get_put]at h;split at h
   .cases h
   .exact⟨hq,h⟩
 have hsg:jP m {m with tip:=ah}:=by
  obtain⟨⟨g,v⟩,e⟩:=Option.isSome_iff_exists.1 qi;exact⟨g,v,v,e,e⟩
 have hsg':jP {m with tip:=ah} m:=by
  obtain⟨⟨g,v⟩,e⟩:=Option.isSome_iff_exists.1 qi;exact⟨g,v,v,e,e⟩
 refine⟨(S.kept.upd (id:=bu) (q:=⟨p.b,p.o+off,p.e,p.z⟩) (λk o hk=>(S.kept.oth k o hk).2 id p hp) (S.kept.bnd id p hp)).setRow (R.wr gh) (λk o hk=>(S.kept.oth k o hk).2 id p hp) C',?_,?_,?_,?_,?_,?_,?_,?_,?_⟩
 .intro k hk;have gk:H.next<=k:=hk
  rw[jD (by omega)];exact S.dom k gk
 .intro g bm;obtain⟨q,hq,h1,h2⟩:=S.glob g bm;exact⟨q,bw g q hq,h1,h2⟩
 .intro k q ds n hq h pk;rcases dn hq h with⟨rfl,rfl,rfl,rfl⟩|⟨rfl,rfl,rfl,rfl⟩|⟨h1,h2,fx,h'⟩
  .obtain⟨⟨D,u,fr,hD,lg,_⟩,h2,h3,h4,h5⟩:=R;rw[hC]at hD;cases hD;refine⟨⟨C',_,_,setRow_heap w p.b C C' _ _ hC,λi v hi=>?_,λ_=>by rw[co];exact hCe⟩,h2,λ_=>by rw[kq];show p.o+off+_<=p.e;omega,h4,λ_ C1 t1 fr1 e1=>by have e2:=(setRow_heap w p.b C C' _ _ hC).symm.trans e1;cases e2;rfl⟩
   show∃u,C'[p.o+off+i]?=aa u/\_;rw[bc];rw[List.getElem?_append]at hi;split at hi
   .rename_i hl;rw[List.length_drop]at hl;rw[bH (by omega)]
    rw[List.getElem?_drop]at hi;obtain⟨u,hu,hr⟩:=lg _ _ hi;exact⟨u,by rw[show p.o+off+i=p.o+(off+i) by omega];exact hu,hr.mono' bw⟩
   .rename_i hl;rw[List.length_drop]at hl hi;have hix:i-(cs.length-off)<xs.length:=by
     rcases b7 (i-(cs.length-off)) xs.length with h'|h'
     .exact h'
     .rw[d9 h']at hi;cases hi
    rw[bI (by omega)]
    obtain⟨u,hu,hr⟩:=hxs.get hi;exact⟨u,by rw[show p.o+off+i-(p.o+cs.length)=i-(cs.length-off) by omega];exact hu,hr.mono' bw⟩
  .obtain⟨⟨D,u,fr,hD,lg,_⟩,h2,h3,h4,h5⟩:=R;rw[hC]at hD;cases hD;refine⟨⟨C',_,_,setRow_heap w q.b C C' _ _ hC,λi v hi=>?_,λht=>by cases ht⟩,h2,(λht=>by cases ht),h4,λ_ C1 t1 fr1 e1=>by have e2:=(setRow_heap w q.b C C' _ _ hC).symm.trans e1;cases e2;rfl⟩
   have hil:i<ds.length:=by
    rcases b7 i ds.length with h'|h'
    .exact h'
    .rw[d9 h']at hi;cases hi
   rw[bc,bH (by omega)]
   obtain⟨u,hu,hr⟩:=lg i v hi;exact⟨u,hu,hr.mono' bw⟩
  .have Rk:=(S.row k q ds n fx h' pk).other hC co (λhb i hi=>by
    rw[bc,bH];intro h3;exact(S.tip id k p q cs ds m n (Ne.symm h2) hp fx hg h' bf pk cp).1 hb.symm (q.o+i) (by omega) (by omega) (by omega) (by omega))
   obtain⟨⟨D,u,fr,hD,lg,ht⟩,g2,g3,g4,g5⟩:=Rk;exact⟨⟨D,u,fr,hD,λi v hi=>let ⟨u,hu,hr⟩:=lg i v hi;⟨u,hu,hr.mono' bw⟩,ht⟩,g2,g3,g4,g5⟩
 .intro k q es hq h;obtain⟨fx,h'⟩:=hcaseM hq h;obtain⟨⟨ES,c,h1,h2,h3⟩,h4⟩:=(S.map k q es fx h').other hC (C':=C');exact⟨⟨ES,c,h1,h2.mono' bw,h3.mono' bw⟩,h4⟩
 .intro i j a b as bs n1 n2 bv ha hb h1 h2 g1 g2 hw hs;rcases dn ha h1 with⟨rfl,rfl,rfl,rfl⟩|⟨rfl,rfl,rfl,rfl⟩|⟨i1,i2,cq,h1'⟩
  .rcases dn hb h2 with⟨rfl,_⟩|⟨rfl,rfl,rfl,rfl⟩|⟨j1,j2,bp,h2'⟩
   .exact absurd rfl bv
   .exact absurd hsg hs
   .intro hbb x x1 x2 x3 x4;rw[kq]at x2;simp only at x1 x2 hbb;by_cases hx:x<p.o+cs.length
    .exact S.off id j p b cs bs m n2 (Ne.symm j2) hp bp hg h2' bf g2 gh hs hbb x (by omega) hx x3 x4
    .exact(S.tip id j p b cs bs m n2 (Ne.symm j2) hp bp hg h2' bf g2 cp).1 hbb x (by omega) (by omega) x3 x4
  .rcases dn hb h2 with⟨rfl,rfl,rfl,rfl⟩|⟨rfl,_⟩|⟨j1,j2,bp,h2'⟩
   .exact absurd hsg' hs
   .exact absurd rfl bv
   .exact S.off i j _ b _ bs m n2 bv hp bp hg h2' bf g2 gh (λh=>hs (by obtain⟨g,v,v',e1,e2⟩:=h;exact⟨g,v,v',e1,e2⟩))
  .rcases dn hb h2 with⟨rfl,rfl,rfl,rfl⟩|⟨rfl,rfl,rfl,rfl⟩|⟨j1,j2,bp,h2'⟩
   .intro hbb x x1 x2 x3 x4;rw[kq]at x4;simp only at x3 x4 hbb;by_cases hx:x<p.o+cs.length
    .exact S.off i id a p as cs n1 m i2 cq hp h1' hg g1 bf hw hs hbb x x1 x2 (by omega) hx
    .exact(S.tip id i p a cs as m n1 (Ne.symm i2) hp cq hg h1' bf g1 cp).1 hbb.symm x (by omega) (by omega) x1 x2
   .exact S.off i j a b as bs n1 m bv cq hp h1' hg g1 bf hw (λh=>hs (by obtain⟨g,v,v',e1,e2⟩:=h;exact⟨g,v,v',e1,e2⟩))
   .exact S.off i j a b as bs n1 n2 bv cq bp h1' h2' g1 g2 hw hs
 .intro i j a b as bs n1 n2 bv ha hb h1 h2 g1 g2 hw;rcases dn ha h1 with⟨rfl,rfl,rfl,rfl⟩|⟨rfl,rfl,rfl,rfl⟩|⟨i1,i2,cq,h1'⟩
  .rcases dn hb h2 with⟨rfl,_⟩|⟨rfl,rfl,rfl,rfl⟩|⟨j1,j2,bp,h2'⟩
   .exact absurd rfl bv
   .refine⟨λhbb x x1 x2 x3 x4=>?_,(λh=>by cases h)⟩
    rw[kq]at x1;simp only at x1;omega
   .have T:=S.tip id j p b cs bs m n2 (Ne.symm j2) hp bp hg h2' bf g2 cp;refine⟨λhbb x x1 x2 x3 x4=>?_,λht hbb x x1 x2 x3 x4=>?_⟩
    .rw[kq]at x1;simp only at x1 x2 hbb;exact T.1 hbb x (by omega) x2 x3 x4
    .rw[kq]at x1;simp only at x1 x2 hbb;exact T.2 ht hbb x (by omega) x2 x3 x4
  .cases hw
  .rcases dn hb h2 with⟨rfl,rfl,rfl,rfl⟩|⟨rfl,rfl,rfl,rfl⟩|⟨j1,j2,bp,h2'⟩
   .have T:=S.tip i id a p as cs n1 m i2 cq hp h1' hg g1 bf hw;refine⟨λhbb x x1 x2 x3 x4=>?_,λht hbb x x1 x2 x3 x4=>?_⟩
    .rw[kq]at x4;simp only at x3 x4 hbb;by_cases hx:x<p.o+cs.length
     .exact T.1 hbb x x1 x2 (by omega) hx
     .exact T.2 cp hbb x x1 x2 (by omega) (by omega)
    .rw[kq]at x3;simp only at x3 x4 hbb;exact T.2 cp hbb x x1 x2 (by omega) x4
   .have T:=S.tip i j a b as bs n1 m bv cq hp h1' hg g1 bf hw;exact⟨T.1,(λh=>by cases h)⟩
   .exact S.tip i j a b as bs n1 n2 bv cq bp h1' h2' g1 g2 hw
 .intro i j a b es fs bv ha hb h1 h2;obtain⟨a1,a2⟩:=hcaseM ha h1;obtain⟨b1,b2⟩:=hcaseM hb h2;exact S.maps i j a b es fs bv a1 b1 a2 b2
 .intro k ds n g v h e;rw[St.get_put]at h;split at h
  .cases h;exact S.vers id _ _ g v hg e
  .rw[St.get_put]at h;split at h
   .cases h;exact S.vers id _ _ g v hg e
   .exact S.vers k ds n g v h e
 .intro i j a b as bs n1 n2 bv ha hb h1 h2 g1 g2 hw;rcases dn ha h1 with⟨rfl,rfl,rfl,rfl⟩|⟨rfl,rfl,rfl,rfl⟩|⟨i1,i2,cq,h1'⟩
  .rcases dn hb h2 with⟨rfl,_⟩|⟨rfl,rfl,rfl,rfl⟩|⟨j1,j2,bp,h2'⟩
   .exact absurd rfl bv
   .intro hbb x x1 x2 x3 x4;simp only[List.length_drop]at x1;omega
   .intro hbb x x1 x2 x3 x4;rw[kq]at x2;simp only[List.length_drop]at x1 x2 hbb;exact(S.tip id j p b cs bs m n2 (Ne.symm j2) hp bp hg h2' bf g2 cp).1 hbb x (by omega) (by omega) x3 x4
  .cases hw
  .rcases dn hb h2 with⟨rfl,rfl,rfl,rfl⟩|⟨rfl,rfl,rfl,rfl⟩|⟨j1,j2,bp,h2'⟩
   .intro hbb x x1 x2 x3 x4;rw[kq]at x4;simp only at x3 x4 hbb;by_cases hx:x<p.o+cs.length
    .exact S.lim i id a p as cs n1 m i2 cq hp h1' hg g1 bf hw hbb x x1 x2 (by omega) hx
    .exact(S.tip id i p a cs as m n1 (Ne.symm i2) hp cq hg h1' bf g1 cp).1 hbb.symm x (by omega) (by omega) (by omega) x2
   .exact S.lim i j a b as bs n1 m bv cq hp h1' hg g1 bf hw
   .exact S.lim i j a b as bs n1 n2 bv cq bp h1' h2' g1 g2 hw
def UZ{z:Nat}{x x':au}{n:Nat}{xs:List au}{t1:av}{u:TypeDesc}(S:Sim w0 P Y H w)(r:VR Y x x')(hu:P.underlying t1=aa u)
    (hk:GX u x=ae) (gz:xs.all one=ae) (h:tD H z x=aa (n,xs)):
    ∃news,Src P z t1 x' n news w/\VRL Y xs news:=by
 unfold tD at h;split at h<;>try cases h
 .obtain⟨rfl,rfl,rfl⟩:=r.nilslc_inv;cases u<;>simp only[GX,gO,bD,Bool.false_eq_true]at hk;exact⟨[],Src.ofNil w hu 0,.nil⟩
 .rename_i id off len c;split at h<;>try cases h
  rename_i cs m' bh;rw[aF]at h;obtain⟨l,hl,he⟩:=h;cases he;obtain⟨hg,bf⟩:=St.row_some bh;obtain⟨p,cap,hp,rfl,_⟩:=r.slc_inv;obtain⟨C,ty,fr,hC,hcs,_⟩:=(S.row id p cs _ hp hg bf).row;obtain⟨rfl,hle⟩:=Be hl;have hv:=Do hcs hle;cases u<;>simp only[GX,gO,bD,Bool.false_eq_true]at hk;refine⟨_,Src.ofSlice w hu _ n cap _ (by rw[<-hv.1];simp;omega) (λj v hj=>?_) (λv fe=>?_),hv⟩
  .rw[jM,Dz hC];rw[List.getElem?_take]at hj;split at hj
   .rw[List.getElem?_drop]at hj;simpa using hj
   .cases hj
  .rw[HV];have:=hv.one_eq;rw[gz]at this;exact bJ.1 this v fe
 .rename_i s;obtain rfl:=r.string_inv;rw[dN,Bool.cond_decide]at h;split at h
  .rename_i hz;cases h;subst hz;cases u<;>simp only[GX,gO,Bool.not_false,Bool.false_eq_true]at hk;refine⟨_,Src.ofString w hu s,VRL.same ?_⟩;rw[bJ];intro v hv;obtain⟨_,_,rfl⟩:=List.mem_map.1 hv;rfl
  .cases h
 .cases r with
  |same _ hp=>simp[bQ]at hp
  |emp a s cap h=>
   cases u<;>simp only[GX,gO,bD,Bool.false_eq_true]at hk;exact⟨[],Src.ofSlice w hu a 0 cap [] (by simp) (λj v hj=>by simp at hj) (λv fe=>by simp at fe),.nil⟩
def aEH{t tx ty e:av}{i:TypeInfo}(ht:P.underlying t=aa (.slice e))(hi:P.info? e=aa i){b off sLen sCap:Nat}{x:au}{n:Nat}{news:List au}(hs:Src P i.size tx x n news w)
    (jp:sLen+n<=sCap) {cur:Array au} {te:av} (hC:w.heap[b]?=aa (.cells cur te (0,0))) (jt:off+sLen*i.size+news.length<=cur.size):
    (Builtin.append_ #[t,tx] ty #[.slice (aa ⟨b,off,ad⟩) sLen sCap,x]).run P w=
      .ok (.slice (aa ⟨b,off,ad⟩) (sLen+n) sCap) (w.setRow b (cur.toList.take (off+sLen*i.size)++news++cur.toList.drop (off+sLen*i.size+news.length)).toArray):=by
 have cf:=run_storeCells_at P b (off+sLen*i.size) te news 0 cur w hC (by simpa using jt) hs.one
 simp only[Nat.add_zero]at cf;rcases hs.kind with⟨e',hk⟩|hk<;>simp[Builtin.append_,run_underlying ht,run_underlying hk,Go.sizeOf,typeInfo,hi,hs.len,jp,hs.cells,Addr.add_lit,cf]
def DF(z:Array au)(n:Nat):(Builtin.zeroCells z n).size=n*z.size:=by simp[Builtin.zeroCells]
def Dv{t tx ty e:av}{i:TypeInfo}{z:au}(S:Sim w0 P Y H w)(ht:P.underlying t=aa (.slice e))(hi:P.info? e=aa i)(hz:i.zero=aa z)(jh:z.cells.size=i.size)
    {base:Option Addr} {sLen sCap:Nat} {old olds:List au} (hold:(Builtin.firstCells i.size sLen (.slice base sLen sCap)).run P w.drew= .ok olds.toArray w.drew) (qy:olds.length=sLen*i.size) (hor:VRL Y old olds)
    {x:au} {n:Nat} {xs news:List au} (hs:Src P i.size tx x n news w) (pg:VRL Y xs news) (hg:sCap<sLen+n) (hb1:1<=i.bytes) (hb:(sLen+n)*i.bytes<=1073741824)
    {bu:Nat} {mt:uJ} (hid:Y bu=ad) (bi:bu<H.next) (hmt:mt.z=i.size) (fi:H.get bu=aa (.cells (old++xs) mt)):
    ∃v' w' p,(Builtin.append_ #[t,tx] ty #[.slice base sLen sCap,x]).run P w= .ok v' w'/\VR (upd Y bu p) (.slice (aa ⟨bu,0,ad⟩) (sLen+n) (sLen+n+1)) v'/\Sim w0 P (upd Y bu p) H w':=by
 have kq:sLen+n<=(sLen+n)*i.bytes:=Nat.le_mul_of_pos_right _ (by omega)
 have fh:=run_append_grow_src w t tx ty e i z ht hi hz base sLen sCap olds hold x n news hs hg (by omega) (growslice_fits hg (by omega))
 have fk:=grownCap_ge w (sLen+n) sCap e;refine⟨_,_,⟨w.heap.size,0,grownCap w (sLen+n) sCap e*i.size,i.size⟩,fh,.slc bu 0 _ _ _ _ (kV _ _ _) (λe=>by omega) fk (.inl (by simp)),?_⟩
 refine(S.drawn (w.drawn+1)).alloc hid bi fi ⟨_,e,rfl,λj v hj=>?_,λ_=>?_,by simp[hmt]⟩ rfl rfl
 .obtain⟨u,hu,hr⟩:=(hor.append pg).get hj;refine⟨u,?_,hr⟩;have hjl:j<(olds++news).length:=by
   rcases b7 j (olds++news).length with h'|h'
   .exact h'
   .rw[d9 h']at hu;cases hu
  rw[Array.getElem?_append_left (by simpa using hjl)]
  simpa using hu
 .constructor
  .rw[(hor.append pg).1];simp only[aZ,qy,hs.newsLen,<-Nat.add_mul];exact Nat.mul_le_mul_right _ fk
  .simp only[Array.size_append,List.size_toArray,aZ,qy,hs.newsLen,DF,jh,<-Nat.add_mul];exact Nat.mul_le_mul_right _ (by omega)
def UY{c:Call}{ty:av}{s s' x x' v:au}{H':St}{bu:Nat}(S:Sim w0 P Y H w)(rs:VR Y s s')(rx:VR Y x x')(hid:Y bu=ad)(bi:bu<H.next)(h:mR P H bu c s x=aa (v,H')):
    ∃v' w' Y',(Builtin.append_ c.argTypes ty #[s',x']).run P w= .ok v' w'/\VR Y' v v'/\Sim w0 P Y' H' w'/\(∀k p,Y k=aa p->Y' k=aa p)/\(∀k,k≠bu->Y' k=Y k)/\H'.next=H.next:=by
 unfold mR at h;split at h<;>try cases h
 rename_i t t1 kc;have hts':c.argTypes= #[t,t1]:=by
  apply Array.toList_inj.1;rw[kc]
 rw[hts'];split at h<;>try cases h
 rename_i e u hu hu1;cases hk:GX u x with
 |false=>rw[hk]at h;cases h
 |true=>
  rw[hk]at h;simp only[aI]at h;split at h<;>try cases h
  rename_i info hi;split at h<;>try cases h
  rename_i n xs z my hz;cases hc:(xs.all one&&an 1 info.size&&an 1 info.bytes&&am z.cells.size info.size&&gO s)with
  |false=>rw[hc]at h;cases h
  |true=>
   rw[hc]at h;simp only[aC,BR,dN,aD]at hc;obtain⟨⟨⟨⟨gz,hz1⟩,hb1⟩,jh⟩,cw⟩:=hc;simp only[aI]at h;obtain⟨news,hs,pg⟩:=UZ S rx hu1 hk gz my;rw[dN,Bool.cond_decide]at h;split at h
   .rename_i hn;subst hn;simp only[aA,aB]at h;obtain⟨rfl,rfl⟩:=h;have hnews:news=[]:=by have:=hs.newsLen;simpa using this
    subst hnews;cases s<;>simp only[gO,Bool.false_eq_true]at cw;rename_i a l c';refine⟨s',w,Y,?_,rs,S,λ_ _ h=>h,λ_ _=>rfl,rfl⟩
    have: ∃base len cap,s'= .slice base len cap/\len<=cap:=by
     cases a with
     |none=>obtain⟨rfl,rfl,rfl⟩:=rs.nilslc_inv;exact⟨ad,0,0,rfl,aS _⟩
     |some a=>
      cases rs with
      |same _ h=>simp[bQ]at h
      |slc id off len c cap p h hc hl he=>exact⟨_,_,_,rfl,hl⟩
      |emp a s cap h=>exact⟨_,_,_,rfl,a8 _⟩
    obtain⟨base,len,cap,rfl,hle⟩:=this;exact run_append_nothing w t t1 ty e info hu hi base len cap hle x' hs
   .rename_i hn;unfold mE at h;split at h<;>try cases h
    ·
     obtain⟨rfl,rfl,rfl⟩:=rs.nilslc_inv;rw[BR,Bool.cond_decide]at h;split at h
     .rename_i hb;simp only[aA,aB]at h;obtain⟨rfl,rfl⟩:=h;have S1:Sim w0 P Y (H.put bu (.cells xs (gM info.size bu))) w:=S.put_new hid (λcs m g v e1 e2=>by cases e1;simp only[gM,aA,aB]at e2;omega)
      obtain⟨v',w',p,h1,h2,h3⟩:=Dv (ty:=ty) S1 hu hi hz jh (base:=ad) (sLen:=0) (sCap:=0) (old:=[]) (olds:=[]) (run_firstCells_none _ _ _ _ _) (by simp) .nil hs pg (by omega) hb1 (by simpa using hb) hid bi (mt:=gM info.size bu) rfl
       (by rw[St.get_put,bI rfl];rfl)
      refine⟨v',w',_,h1,by simpa using h2,h3,mM p hid,λk hk=>jD hk,rfl⟩
     .cases h
    .rename_i id off len k;obtain⟨p,cap,hp,rfl,nv,hlc,he⟩:=rs.slc_inv;rw[BR,Bool.cond_decide]at h;split at h
     .rename_i hb;split at h<;>try cases h
      rename_i cs m bh;obtain⟨hg,bf⟩:=St.row_some bh;have R:=S.row id p cs m hp hg bf;obtain⟨C,te,fr,hC,hcs,htipC⟩:=R.row;split at h<;>try cases h
      rename_i old vh;obtain⟨rfl,hle⟩:=Be vh;have hor:=Do hcs hle;have qy:((C.toList.drop (p.o+off)).take (len*info.size)).length=len*info.size:=by rw[<-hor.1];simp;omega
      have hold:(Builtin.firstCells info.size len (.slice (aa ⟨p.b,p.o+off,ad⟩) len cap)).run P w.drew= .ok ((C.toList.drop (p.o+off)).take (len*info.size)).toArray w.drew:=
       run_firstCells_some _ _ _ _ _ _ _ qy (λj v hj=>by
        rw[jM,Dz (w:=w.drew) (show w.drew.heap[p.b]?=_ from hC)]
        rw[List.getElem?_take]at hj;split at hj
        .rw[List.getElem?_drop]at hj;simpa using hj
        .cases hj)
      rw[dN,Bool.cond_decide]at h;split at h
      ·
       rename_i hkl;have fk:=nv hkl;simp only[aA,aB]at h;obtain⟨rfl,rfl⟩:=h;have S1:Sim w0 P Y (H.put bu (.cells ((cs.drop off).take (len*info.size)++xs) (gM info.size bu))) w:=S.put_new hid (λcs m g v e1 e2=>by cases e1;simp only[gM,aA,aB]at e2;omega)
       obtain⟨v',w',q,h1,h2,h3⟩:=Dv (ty:=ty) S1 hu hi hz jh hold qy hor hs pg (by omega) hb1 hb hid bi (mt:=gM info.size bu) rfl (by rw[St.get_put,bI rfl])
       exact⟨v',w',_,h1,h2,h3,mM q hid,λk hk=>jD hk,rfl⟩
      .cases hc2:(m.tip&&m.wr&&am m.z info.size&&am (off+len*info.size) cs.length&&m.grp.isSome)with
       |false=>rw[hc2]at h;cases h
       |true=>
        rw[hc2]at h;simp only[aC,dN,aD]at hc2;obtain⟨⟨⟨⟨cp,gh⟩,kz⟩,hend⟩,qi⟩:=hc2;simp only[aI,aA,aB]at h;obtain⟨rfl,rfl⟩:=h;have gc:(cs.drop off).take (len*info.size)=cs.drop off:=List.take_of_length_le (by simp;omega)
        have sw:p.z=info.size:=R.z.trans kz;by_cases jp:len+n<=cap
        ·
         have hfr:=R.fz gh C te fr hC;subst hfr;have gu:xs.length=n*info.size:=by rw[pg.1];exact hs.newsLen
         have hmul:(len+n)*info.size<=cap*info.size:=Nat.mul_le_mul_right _ jp;rw[Nat.add_mul]at hmul;have htl:=R.tip cp;have he:p.o+off+cap*info.size<=p.e:=by
          rw[sw]at he;rcases he with he|he
          .exact he
          .rw[he]at hend⊢;omega
         have jt:p.o+cs.length+xs.length<=p.e:=by rw[gu];omega
         have hCe:=htipC cp;have fh:=aEH (ty:=ty) hu hi hs jp hC (off:=p.o+off) (by rw[hs.newsLen];omega)
         have hpos:p.o+off+len*info.size=p.o+cs.length:=by omega
         rw[hpos]at fh;refine⟨_,_,upd Y bu ⟨p.b,p.o+off,p.e,p.z⟩,fh,?_,?_,mM _ hid,λk hk=>jD hk,rfl⟩
         .exact .slc bu 0 (len+n) (len+n+1) cap _ (kV _ _ _) (λe=>by omega) jp (.inl (by rw[sw];simp;omega))
         .rw[gc];exact S.extend hp hg bf cp gh qi hC (by omega) pg jt hid bi
        ·
         have bn:bu≠id:=by intro e;subst e;rw[hid]at hp;cases hp
         have S1:Sim w0 P Y ((H.put id (.cells cs {m with tip:=ah})).put bu (.cells ((cs.drop off).take (len*info.size)++xs) {m with lim:=((cs.drop off).take (len*info.size)).length})) w:=
          (S.untip hg).put_new hid (λcx m' g v e1 e2=>by cases e1;exact S.vers id cs m g v hg e2)
         obtain⟨v',w',q,h1,h2,h3⟩:=Dv (ty:=ty) S1 hu hi hz jh hold qy hor hs pg (by omega) hb1 hb hid bi (mt:={m with lim:=((cs.drop off).take (len*info.size)).length}) kz (by rw[St.get_put,bI rfl])
         exact⟨v',w',_,h1,h2,h3,mM q hid,λk hk=>jD hk,rfl⟩
     .cases h
    ·
     rename_i b0 o0 s0 len k;cases hb0:(am s0 1&&an (n*info.bytes) 1073741824)with
     |false=>rw[hb0]at h;cases h
     |true=>
      rw[hb0]at h;simp only[aC,dN,BR,aD]at hb0;simp only[aI,aA,aB]at h;obtain⟨rfl,rfl⟩:=h;cases rs with
      |same _ h=>simp[bQ]at h
      |emp a s cap fk=>
       obtain rfl:=fk hb0.1;have S1:Sim w0 P Y (H.put bu (.cells xs (gM info.size bu))) w:=S.put_new hid (λcs m g v e1 e2=>by cases e1;simp only[gM,aA,aB]at e2;omega)
       obtain⟨v',w',p,h1,h2,h3⟩:=Dv (ty:=ty) S1 hu hi hz jh (base:=aa a) (sLen:=0) (sCap:=0) (old:=[]) (olds:=[]) (run_firstCells_some _ _ _ _ _ _ ([]:List au) (by simp) (λj v hj=>by simp at hj)) (by simp) .nil hs pg (by omega) hb1 (by simpa using hb0.2) hid bi (mt:=gM info.size bu) rfl
        (by rw[St.get_put,bI rfl];rfl)
       refine⟨v',w',_,h1,by simpa using h2,h3,mM p hid,λk hk=>jD hk,rfl⟩
end
end Go.AI
namespace Go.AI
section
variable{w0:W0}{P:aw}{Y:Mp}{H:St}{w:World}
structure AR(Y:Mp)(S:Slots)(α:Nat)(a:Act):Prop where
 size:α<=a.tmps.size
 defers:a.defers=[]
 slot: ∀i,VR Y (S.at i) (a.tmps.getD i undef)
def AR.mono{S:Slots}{α:Nat}{a:Act}{Y':Mp}(A:AR Y S α a)(h: ∀k p,Y k=aa p->Y' k=aa p):AR Y' S α a:=⟨A.size,A.defers,λi=>(A.slot i).mono' h⟩
def Slots.at_store(S:Slots)(d:Option Tmp)(v:au)(i:Nat):(S.store d v).at i=if d=aa i then v else S.at i:=by
 cases d with
 |none=>simp[Slots.store]
 |some d=>
  simp only[Slots.store,Slots.at,Tr.get_set,aA];by_cases e:i=d
  .subst e;simp
  .rw[bH e,bH (Ne.symm e)]
def E2(a:Act)(d:Option Tmp)(v:au)(i:Nat)(h: ∀t,d=aa t->t<a.tmps.size):(a.put d v).tmps.getD i undef=if d=aa i then v else a.tmps.getD i undef:=by
 cases d with
 |none=>simp[Act.put]
 |some d=>
  have hd:=h d rfl;simp only[Act.put,aA,Array.getD_eq_getD_getElem?];by_cases e:d=i
  .subst e;rw[bI rfl,Array.getElem?_setIfInBounds_self_of_lt hd];rfl
  .rw[bH e,Array.getElem?_setIfInBounds_ne e]
def AR.put{S:Slots}{α:Nat}{a:Act}(A:AR Y S α a){d:Option Tmp}(hd: ∀t,d=aa t->t<α){v v':au}(r:VR Y v v'):AR Y (S.store d v) α (a.put d v'):=by
 refine⟨?_,?_,λi=>?_⟩
 .have:=A.size;cases d<;>simp[Act.put,this]
 .cases d<;>simp[Act.put,A.defers]
 .rw[Slots.at_store,E2 _ _ _ _ (λt e=>Nat.lt_of_lt_of_le (hd t e) A.size)]
  split
  .exact r
  .exact A.slot i
def Rv{S:Slots}{α:Nat}{a:Act}(A:AR Y S α a)(ρ:Sim w0 P Y H w){x:az}(h:cG P x=ae):VR Y (ev S x) (a.eval x):=by
 cases x with
 |tmp t=>exact A.slot t
 |const v=>exact .same1 h
 |global g=>
  simp only[cG,gZ,aD]at h;obtain⟨p,hp,hb,ho⟩:=ρ.glob g h;have:=VR.ptr (Y:=Y) g 0 p hp;rw[hb,ho]at this;exact this
 |func f=>exact .fn _ _ _ _ _ rfl (λi x u h=>by simp at h) rfl (λi x u h=>by simp at h)
def VR.of_bool{x:au}{b:Bool}(r:VR Y x (.bool b)):x= .bool b:=by cases r;rfl
def DK{S:Slots}{a:Act}(ops:Array Oper)(o:Oper)(A: ∀j want d,o.guard=aa (j,want)->ops[j]?.bind (·.dst)=aa d->VR Y (S.at d) (a.tmps.getD d undef)):wanted ops S o=Region.wanted o (yielded ops a.tmps):=by
 unfold wanted Region.wanted;cases hg:o.guard with
 |none=>rfl
 |some jw=>
  obtain⟨j,want⟩:=jw;simp only[yielded];cases hd:ops[j]?.bind (·.dst)with
  |none=>simp
  |some d=>
   simp only[aK,aL];have r:=A j want d hg hd;rw[Array.getD_eq_getD_getElem?]at r;cases ht:a.tmps[d]? with
   |none=>
    rw[ht]at r;simp only[Option.getD_none]at r;cases hs:S.at d<;>first|rfl|skip
    rw[hs]at r;have:=r.bool_inv;cases this
   |some u=>
    rw[ht]at r;simp only[Option.getD_some]at r;cases hs:S.at d with
    |bool b=>rw[hs]at r;rw[r.bool_inv];cases b<;>cases want<;>rfl
    |_=>
     cases u with
     |bool b=>rw[r.of_bool]at hs;cases hs
     |_=>rfl
def aB3{S:Slots}{α:Nat}{a:Act}(A:AR Y S α a)(ops:Array Oper)(o:Oper):wanted ops S o=Region.wanted o (yielded ops a.tmps):=
 DK ops o (λ_ _ d _ _=>A.slot d)
def iW(w0:W0)(P:aw)(call:FuncId->Array au->St->Option (au×St)):Prop:=
 ∀f args args' H H' w Y r,call f args H=aa (r,H')->Sim w0 P Y H w->VRL Y args.toList args'.toList->
  (∃ fn c, P.funcs[f]? = aa fn ∧ fn.body = aa c ∧ (fn.name == "runtime.NumGoroutine") = ah) ∧
  Calls P f args' w λe w'=> ∃Y' r',e= .returned r'/\VR Y' r r'/\Sim w0 P Y' H' w'/\Ext H.next Y Y'/\H.next<=H'.next
def aKA(w0:W0)(P:aw)(Y:Mp)(H H':St)(id:Nat)(a:Act)(o:Oper)(v:au)(a':Act)(w':World):Prop:=
 ∃Y' v',a'=a.put o.dst v'/\VR Y' v v'/\Sim w0 P Y' H' w'/\(∀k p,Y k=aa p->Y' k=aa p)/\(∀k,k<H.next->k≠id->Y' k=Y k)/\H.next<=H'.next
def uL{a:Act}{o:Oper}{v':au}{w':World}{K:Act->World->Prop}{Q:Exit->Act->World->Prop}(h:(execOp a.eval o).run P w= .ok (.value v') w')(k:K (a.put o.dst v') w'):o.wp P a w K Q:=by
 unfold Oper.wp;rw[h];exact k
def aDK{a:Act}{o:Oper}{w':World}{K:Act->World->Prop}{Q:Exit->Act->World->Prop}(h:(execOp a.eval o).run P w= .ok .skip w')(k:K (a.put o.dst undef) w'):o.wp P a w K Q:=by
 unfold Oper.wp;rw[h];exact k
def ZS{Z:az->au}{a:Act}{o:Oper}{v:au}{Q:Exit->Act->World->Prop}(id:Nat)(ρ:Sim w0 P Y H w)(hρ: ∀x∈o.op.operands,VR Y (Z x) (a.eval x))(h:kS P H Z o=aa v):
    o.wp P a w (aKA w0 P Y H H id a o v) Q:=by
 obtain⟨v',h1,h2⟩:=aIB ρ hρ h;exact uL h1 ⟨Y,v',rfl,h2,ρ,λ_ _ h=>h,λ_ _ _=>rfl,aS _⟩
def aAe{Z:az->au}{a:Act}{o:Oper}{v:au}{Q:Exit->Act->World->Prop}(id:Nat)(ρ:Sim w0 P Y H w)(hρ: ∀x∈o.op.operands,VR Y (Z x) (a.eval x))(h:mD P Z o=aa v):
    o.wp P a w (aKA w0 P Y H H id a o v) Q:=by
 obtain⟨v',h1,h2⟩:=aIE (Y:=Y) hρ h;exact uL (iM h1 w) ⟨Y,v',rfl,h2,ρ,λ_ _ h=>h,λ_ _ _=>rfl,aS _⟩
def R1{Z:az->au}{a:Act}{o:Oper}{v:au}{ob:AObj}{id:Nat}{Q:Exit->Act->World->Prop}(ρ:Sim w0 P Y H w)(hρ: ∀x∈o.op.operands,VR Y (Z x) (a.eval x))
    (hid:Y id=ad) (bi:id<H.next) (h:iF P Z o id=aa (v,ob)) (fi:H.get id=aa ob):o.wp P a w (aKA w0 P Y H H id a o v) Q:=by
 obtain⟨v',O,p,h1,hb,ho,hN,hv⟩:=aDq (Y:=Y) w hρ h;exact uL h1 ⟨upd Y id p,v',rfl,hv _ (kV _ _ _),ρ.alloc hid bi fi hN hb ho,mM p hid,λk _ hk=>jD hk,aS _⟩
def FE{Z:az->au}{o:Oper}{id:Nat}{v:au}{ob:AObj}(h:iF P Z o id=aa (v,ob)): ∀cs m g u,ob= .cells cs m->m.grp=aa (g,u)->u<=0:=by
 intro cs m g u e hg;subst e;unfold iF at h;split at h<;>try cases h
 .split at h<;>try cases h
  simp only[cond_eq_ite]at h;split at h<;>cases h;cases hg
 .simp only[cond_eq_ite]at h;split at h<;>cases h;cases hg
 .split at h<;>try cases h
  split at h<;>try cases h
  split at h<;>try cases h
  simp only[cond_eq_ite]at h;split at h<;>try cases h
  rw[aF]at h;obtain⟨_,_,e⟩:=h;cases e;cases hg
 .split at h<;>try cases h
  split at h<;>try cases h
  split at h<;>try cases h
  simp only[cond_eq_ite]at h;split at h<;>try cases h
  split at h<;>cases h
  .cases hg
  .simp only[aA,aB]at hg;omega
def aHT{call:FuncId->Array au->St->Option (au×St)}(bj:iW w0 P call){S:Slots}{a:Act}{o:Oper}{v:au}{H':St}{id:Nat}{Q:Exit->Act->World->Prop}
    (ρ:Sim w0 P Y H w) (hρ: ∀x∈o.op.operands,VR Y (ev S x) (a.eval x)) (hid:Y id=ad) (bi:id<H.next) (h:Al P call H (ev S) o id=aa (v,H')):
    o.wp P a w (aKA w0 P Y H H' id a o v) Q:=by
 unfold Al at h;cases ho:o.op<;>simp only[ho]at h hρ<;>try cases h
 case store t p x=>
  rw[aF]at h;obtain⟨H1,h,he⟩:=h;cases he;obtain⟨w',h1,h2,h3⟩:=aDf ρ (hρ p (by simp[Op.operands])) (hρ x (by simp[Op.operands])) h
  refine aDK (w':=w') ?_ ⟨Y,undef,rfl,.undef,h2,λ_ _ h=>h,λ_ _ _=>rfl,by omega⟩
  unfold execOp;rw[ho];simp[h1]
 case call c=>
  have hargs:=DC (Y:=Y) (Z:=ev S) (Z':=a.eval) c.args.toList (λx hx=>hρ x (iL c x hx))
  split at h
  .rename_i hc;split at h<;>try cases h
   rename_i s x hsx;have gy:c.args= #[s,x]:=by apply Array.toList_inj.1;rw[hsx]
   obtain⟨v',w',Y',h1,h2,h3,h4,h5,h6⟩:=UY (ty:=o.type) ρ (hρ s (iL c s (by rw[hsx];simp))) (hρ x (iL c x (by rw[hsx];simp))) hid bi h
   refine uL (v':=v') (w':=w') ?_ ⟨Y',v',rfl,h2,h3,h4,λk _ hk=>h5 k hk,by omega⟩
   unfold execOp;rw[ho];simp only[resolve,hc,Sem.run_bind,Sem.run_pure,Result.andThen_ok,invoke,builtin];rw[gy];simp[h1]
  .split at h<;>try cases h
   rename_i g args pd;unfold DB at pd;split at pd<;>try cases pd
   rename_i f hc;split at pd<;>try cases pd
   rename_i first captured hf
   have jv:=hρ f (by simp[Op.operands,Call.operands,hc])
   rw[hf]at jv;have fy: ∃us vs,a.eval f= .func (.func g) us vs/\VRL Y first.toList us.toList/\VRL Y captured.toList vs.toList:=by
    generalize a.eval f=y at jv;cases jv with
    |same _ h=>simp[bQ]at h
    |fn _ xs ys us vs hl h fa h'=>exact⟨us,vs,rfl,⟨hl,h⟩,⟨fa,h'⟩⟩
   obtain⟨us,vs,hfe,hr1,hr2⟩:=fy;have dh:VRL Y (first++c.args.map (ev S)++captured).toList (us++c.args.map a.eval++vs).toList:=by
    simp only[Array.toList_append,Array.toList_map];exact(hr1.append hargs).append hr2
   obtain⟨⟨fn,code,fy,hbody,hname⟩,hC⟩:=bj g _ _ H H' w Y v h ρ dh;have fh:(execOp a.eval o).run P w= .ok (.enter g (us++c.args.map a.eval++vs)) w:=by
    unfold execOp;rw[ho];simp only[resolve,hc,hfe,Deferred.ofValue,Sem.run_bind,Sem.run_pure,Result.andThen_ok,invoke,callFunc,run_program,fy,hname,hbody,Option.isNone_some,Bool.false_eq_true,if_false]
   unfold Oper.wp;rw[fh,Oper.upon_enter];refine hC.mono λe w' ⟨Y',r',he,hr,hZ,hE,hn⟩=>?_
   subst he;exact⟨Y',r',rfl,hr,hZ,hE.1,λk hk _=>hE.2 k hk,hn⟩
def a7o{call:FuncId->Array au->St->Option (au×St)}(bj:iW w0 P call){S:Slots}{α:Nat}{a:Act}{o:Oper}{v:au}{H':St}{base i:Nat}{Q:Exit->Act->World->Prop}
    (A:AR Y S α a) (ρ:Sim w0 P Y H w) (dq: ∀x∈o.op.operands,cG P x=ae) (hid:Y (base+i)=ad) (bi:base+i<H.next) (h:lL P call base i o S H=aa (v,H')):
    o.wp P a w (aKA w0 P Y H H' (base+i) a o v) Q:=by
 have hρ: ∀x∈o.op.operands,VR Y (ev S x) (a.eval x):=λx hx=>Rv A ρ (dq x hx)
 unfold lL at h;split at h
 .rw[aF]at h;obtain⟨_,h,e⟩:=h;cases e;unfold sY at h;split at h
  .rename_i v' fe;cases h;exact aAe _ ρ hρ fe
  .split at h<;>try cases h
   rename_i s d x ho;have h1:=aDo ρ (hρ x (by rw[ho];simp[Op.operands])) h
   have di: ∃ba,v= .string ba:=by
    unfold tB at h;split at h<;>try cases h
    split at h<;>try cases h
    split at h<;>try cases h
    .split at h<;>try cases h
     split at h<;>try cases h
     rw[aF]at h;obtain⟨ns,_,rfl⟩:=h;exact⟨_,rfl⟩
    .exact⟨_,rfl⟩
   obtain⟨ba,rfl⟩:=di;refine uL (v':= .string ba) ?_ ⟨Y,_,rfl,.same _ rfl,ρ,λ_ _ h=>h,λ_ _ _=>rfl,aS _⟩
   unfold execOp;rw[ho];simp[h1]
 .rw[aF]at h;obtain⟨_,h,e⟩:=h;cases e;exact ZS _ ρ hρ h
 .rw[aF]at h;obtain⟨⟨v1,ob⟩,h,e⟩:=h;cases e;have Z1:Sim w0 P Y (H.put (base+i) ob) w:=ρ.put_new hid (λcs m g u e1 e2=>by have:=FE h cs m g u e1 e2;omega)
  exact R1 Z1 hρ hid bi h (by rw[St.get_put,bI rfl])
 .exact aHT bj ρ hρ hid bi h
def Aa{α:Nat}{o:Oper}(h:sE P α o=ae): ∀t,o.dst=aa t->t<α:=by
 intro t e;unfold sE at h;simp only[e,gZ,aC,aD]at h;exact h.1
def Ev{α:Nat}{o:Oper}(h:sE P α o=ae): ∀x∈o.op.operands,cG P x=ae:=by
 intro x hx;unfold sE at h;simp only[aC]at h;have:=h.2;rw[Array.all_eq_true']at this;exact this x hx
def tJ(w0:W0)(P:aw)(Y:Mp)(n:Nat)(α:Nat)(S':Slots)(H':St)(Q:Act->World->Prop):Prop:=
 ∀a' w' Y',AR Y' S' α a'->Sim w0 P Y' H' w'->Ext n Y Y'->n<=H'.next->Q a' w'
def aCo{call:FuncId->Array au->St->Option (au×St)}(bj:iW w0 P call){ops:Array Oper}{base α n0:Nat}{Q:Exit->Act->World->Prop}(hn0:n0<=base)(bz: ∀o∈ops.toList,sE P α o=ae):
    ∀(l:List Oper) (i:Nat) (S S':Slots) (H H':St) (a:Act) (w:World) (Y Y0:Mp),(∀j,l[j]?=ops[i+j]?)->i+l.length=ops.size->
      AR Y S α a->Sim w0 P Y H w->Ext n0 Y0 Y->base+ops.size<=H.next->(∀j,i<=j->j<ops.size->Y (base+j)=ad)->
      fA P call ops base l i S H=aa (S',H')->tJ w0 P Y0 n0 α S' H' (Q .normal)->wpOps P ops Q (List.range' i l.length) a w:=by
 intro l;induction l with
 |nil=>
  intro i S S' H H' a w Y Y0 hl hlen A ρ E lq cb h dm;simp only[fA,aA,aB]at h;obtain⟨rfl,rfl⟩:=h;exact dm a w Y A ρ E (by omega)
 |cons o l ih=>
  intro i S S' H H' a w Y Y0 hl hlen A ρ E lq cb h dm;have qz:ops[i]?=aa o:=by simpa using (hl 0).symm
  have nq:o∈ops.toList:=by
   have:ops.toList[i]?=aa o:=by simpa using qz
   exact List.mem_of_getElem? this
  have lp:=bz o nq;simp only[aM]at hlen;have fa: ∀j,l[j]?=ops[i+1+j]?:=λj=>by have:=hl (j+1);rw[show i+1+j=i+(j+1) by omega,<-this];simp
  simp only[aM,List.range'_succ,wpOps,qz];unfold fA at h;rw[aB3 A ops o]at h;cases hw:Region.wanted o (yielded ops a.tmps)with
  |false=>
   rw[hw]at h;simp only[aJ]at h;simp only[Bool.false_eq_true,if_false];exact ih (i+1) _ S' H H' _ w Y Y0 fa (by omega) (A.put (Aa lp) .undef) ρ E lq (λj hj qf=>cb j (by omega) qf) h dm
  |true=>
   rw[hw]at h;simp only[aI]at h;simp only[if_true];split at h<;>try cases h
   rename_i v H1 mh;refine .inl (Oper.wp_mono (λa' w' hL=>?_) (a7o bj A ρ (Ev lp) (cb i (aS _) (by omega)) (by omega) mh (Q:=Q)))
   obtain⟨Y',v',rfl,hv,hZ,bw,ci,hnx'⟩:=hL;exact ih (i+1) _ S' H1 H' _ w' Y' Y0 fa (by omega) ((A.mono bw).put (Aa lp) hv) hZ
    ⟨λk p hk=>bw k p (E.1 k p hk),λk hk=>(ci k (by omega) (by omega)).trans (E.2 k hk)⟩ (by omega)
    (λj hj qf=>(ci (base+j) (by omega) (by omega)).trans (cb j (by omega) qf)) h dm
end
end Go.AI
namespace Go.AI
mutual
def qV: ∀(a b:au),fM a b=ae->a=b
 | .bool a,b,h=>by cases b<;>simp[fM]at h;rw[h]
 | .int j a,b,h=>by cases b<;>simp[fM]at h;rw[h.1,h.2]
 | .float j a,b,h=>by cases b<;>simp[fM]at h;rw[h.1,h.2]
 | .complex j a c,b,h=>by cases b<;>simp[fM]at h;rw[h.1.1,h.1.2,h.2]
 | .string a,b,h=>by
  cases b with
  |string b=>
   simp only[fM,beq_iff_eq]at h;cases a;cases b;have:=Array.toList_inj.1 h;simp only at this;rw[this]
  |_=>simp[fM]at h
 | .pointer a,b,h=>by cases b<;>simp[fM]at h;rw[h]
 | .slice a l c,b,h=>by cases b<;>simp[fM]at h;rw[h.1.1,h.1.2,h.2]
 | .map a,b,h=>by cases b<;>simp[fM]at h;rw[h]
 | .chan a,b,h=>by cases b<;>simp[fM]at h;rw[h]
 | .func f ⟨xs⟩ ⟨ys⟩,b,h=>by
  cases b with
  |func g us vs=>
   obtain⟨us⟩:=us;obtain⟨vs⟩:=vs;simp[fM]at h;rw[h.1.1,qW xs us h.1.2,qW ys vs h.2]
  |_=>simp[fM]at h
 | .nilFunc,b,h=>by cases b<;>simp[fM]at h;rfl
 | .iface t v,b,h=>by
  cases b with
  |iface u w=>simp[fM]at h;rw[h.1,qV v w h.2]
  |_=>simp[fM]at h
 | .nilIface,b,h=>by cases b<;>simp[fM]at h;rfl
 | .agg ⟨xs⟩,b,h=>by
  cases b with
  |agg ys=>obtain⟨ys⟩:=ys;simp[fM]at h;rw[qW xs ys h]
  |_=>simp[fM]at h
 | .tuple ⟨xs⟩,b,h=>by
  cases b with
  |tuple ys=>obtain⟨ys⟩:=ys;simp[fM]at h;rw[qW xs ys h]
  |_=>simp[fM]at h
def qW: ∀(a b:List au),qX a b=ae->a=b
 |[],b,h=>by cases b<;>simp[qX]at h;rfl
 |x::xs,b,h=>by
  cases b with
  |nil=>simp[qX]at h
  |cons y ys=>simp[qX]at h;rw[qV x y h.1,qW xs ys h.2]
end
def Qi{m n:uJ}(h:uS m n=ae):m=n:=by
 simp only[uS,dN,aC,beq_iff_eq,aD]at h;cases m;cases n;simp_all
def Qj: ∀(a b:List (au×au)),AE a b=ae->a=b
 |[],b,h=>by cases b<;>simp[AE]at h;rfl
 |x::xs,b,h=>by
  cases b with
  |nil=>simp[AE]at h
  |cons y ys=>
   simp only[AE,aC]at h;rw[Prod.ext (qV _ _ h.1.1) (qV _ _ h.1.2),Qj xs ys h.2]
def D1{a b:AObj}(h:pR a b=ae):a=b:=by
 cases a with
 |cells cs m=>cases b with
  |cells ds n=>simp only[pR,aC]at h;rw[qW _ _ h.1,Qi h.2]
  |map _=>simp[pR]at h
 |map es=>cases b with
  |cells _ _=>simp[pR]at h
  |map fs=>rw[Qj es fs h]
section
variable{P:aw}{call:FuncId->Array au->St->Option (au×St)}{ops:Array Oper}{ms:List Nat}{base:Nat}{S':Slots}{H':St}
structure CW where
 i:Nat
 o:Oper
 S:Slots
 v:au
def Gj(P:aw)(base:Nat)(H:St)(r:iV):Prop:=
 match r.ob with
 |none=>kS P H (ev r.S) r.o=aa r.v
 |some ob=>H.get (base+r.i)=aa ob
def RI{H:St}{r:iV}(h:check P base H r=ae):Gj P base H r:=by
 unfold check at h;unfold Gj;cases hr:r.ob with
 |none=>
  simp only[hr]at h⊢;split at h
  .rename_i v hv;rw[hv,qV _ _ h]
  .cases h
 |some ob=>
  simp only[hr]at h⊢;split at h
  .rename_i v hv;rw[hv,D1 h]
  .cases h
inductive Cert(P:aw)(call:FuncId->Array au->St->Option (au×St))(ops:Array Oper)(ms:List Nat)(base:Nat)(S':Slots)(H':St):List CW->List St->List Nat->List iV->Slots->St->Prop where
 |nil (pend:List iV) (h: ∀p∈pend,Gj P base H' p):Cert P call ops ms base S' H' [] [H'] [] pend S' H'
 |skip (r:CW) (rs:List CW) (Cs:List St) (Es:List Nat) (pend:List iV) (H:St) (ho:ops[r.i]?=aa r.o) (hw:wanted ops r.S r.o=ah) (hv:r.v=undef)
      (h:Cert P call ops ms base S' H' rs Cs Es pend (r.S.store r.o.dst r.v) H):Cert P call ops ms base S' H' (r::rs) Cs Es pend r.S H
 |pure (r:CW) (rs:List CW) (Cs:List St) (Es:List Nat) (pend:List iV) (H:St) (ho:ops[r.i]?=aa r.o) (hw:wanted ops r.S r.o=ae) (hk:dG r.o= .pure) (hv:mD P (ev r.S) r.o=aa r.v)
      (h:Cert P call ops ms base S' H' rs Cs Es pend (r.S.store r.o.dst r.v) H):Cert P call ops ms base S' H' (r::rs) Cs Es pend r.S H
 |read (r:CW) (rs:List CW) (Cs:List St) (Es:List Nat) (pend:List iV) (H:St) (ho:ops[r.i]?=aa r.o) (hw:wanted ops r.S r.o=ae) (hk:dG r.o= .read)
      (h:Cert P call ops ms base S' H' rs Cs Es (⟨r.i,r.o,r.S,r.v,ad⟩::pend) (r.S.store r.o.dst r.v) H):Cert P call ops ms base S' H' (r::rs) Cs Es pend r.S H
 |alloc (r:CW) (rs:List CW) (Cs:List St) (Es:List Nat) (pend:List iV) (H:St) (ob:AObj) (ho:ops[r.i]?=aa r.o) (hw:wanted ops r.S r.o=ae) (hk:dG r.o= .alloc) (hv:iF P (ev r.S) r.o (base+r.i)=aa (r.v,ob))
      (h:Cert P call ops ms base S' H' rs Cs Es (⟨r.i,r.o,r.S,r.v,aa ob⟩::pend) (r.S.store r.o.dst r.v) (H.put (base+r.i) ob)):Cert P call ops ms base S' H' (r::rs) Cs Es pend r.S H
 |eff (r:CW) (rs:List CW) (Cs:List St) (Es:List Nat) (pend:List iV) (H H1:St) (ho:ops[r.i]?=aa r.o) (hw:wanted ops r.S r.o=ae) (hk:dG r.o= .eff) (hc: ∀p∈pend,Gj P base H p)
      (hv:Al P call H (ev r.S) r.o (base+r.i)=aa (r.v,H1)) (h:Cert P call ops ms base S' H' rs Cs Es (pend.filter λp=> !lI (ms.getD r.i 0) p.i) (r.S.store r.o.dst r.v) H1):
      Cert P call ops ms base S' H' (r::rs) (H::Cs) (r.i::Es) pend r.S H
def RJ: ∀(order:List Nat) (pend:List iV) (S:Slots) (H:St),gU P call ops ms base order pend S H=aa (S',H')->
    ∃rs Cs Es,rs.map (·.i)=order/\Cert P call ops ms base S' H' rs Cs Es pend S H:=by
 intro order;induction order with
 |nil=>
  intro pend S H h;simp only[gU]at h;cases hc:pend.all (check P base H)with
  |false=>rw[hc]at h;cases h
  |true=>
   rw[hc]at h;simp only[aI,aA,aB]at h;obtain⟨rfl,rfl⟩:=h;exact⟨[],_,[],rfl,.nil pend λp hp=>RI (bJ.1 hc p hp)⟩
 |cons i rest ih=>
  intro pend S H h;simp only[gU]at h;split at h<;>try cases h
  rename_i o ho;cases hw:wanted ops S o with
  |false=>
   rw[hw]at h;simp only[aJ]at h;obtain⟨rs,Cs,Es,hm,hC⟩:=ih _ _ _ h;exact⟨⟨i,o,S,undef⟩::rs,Cs,Es,by simp[hm],.skip ⟨i,o,S,undef⟩ rs Cs Es pend H ho hw rfl hC⟩
  |true=>
   rw[hw]at h;simp only[aI]at h;split at h
   .rename_i hk;split at h<;>try cases h
    rename_i v hv;obtain⟨rs,Cs,Es,hm,hC⟩:=ih _ _ _ h;exact⟨⟨i,o,S,v⟩::rs,Cs,Es,by simp[hm],.pure ⟨i,o,S,v⟩ rs Cs Es pend H ho hw hk hv hC⟩
   .rename_i hk;split at h<;>try cases h
    rename_i v hv;obtain⟨rs,Cs,Es,hm,hC⟩:=ih _ _ _ h;exact⟨⟨i,o,S,v⟩::rs,Cs,Es,by simp[hm],.read ⟨i,o,S,v⟩ rs Cs Es pend H ho hw hk hC⟩
   .rename_i hk;split at h<;>try cases h
    rename_i v ob hv;obtain⟨rs,Cs,Es,hm,hC⟩:=ih _ _ _ h;exact⟨⟨i,o,S,v⟩::rs,Cs,Es,by simp[hm],.alloc ⟨i,o,S,v⟩ rs Cs Es pend H ob ho hw hk hv hC⟩
   .rename_i hk;cases hc:pend.all (check P base H)with
    |false=>rw[hc]at h;cases h
    |true=>
     rw[hc]at h;simp only[aI]at h;split at h<;>try cases h
     rename_i v H1 hv;obtain⟨rs,Cs,Es,hm,hC⟩:=ih _ _ _ h;exact⟨⟨i,o,S,v⟩::rs,H::Cs,i::Es,by simp[hm],.eff ⟨i,o,S,v⟩ rs Cs Es pend H H1 ho hw hk (λp hp=>RI (bJ.1 hc p hp)) hv hC⟩
def Cert.lens{rs:List CW}{Cs:List St}{Es:List Nat}{pend:List iV}{S:Slots}{H:St}(h:Cert P call ops ms base S' H' rs Cs Es pend S H):Cs.length=Es.length+1/\Cs[Es.length]?=aa H':=by
 induction h with
 |nil=>exact⟨rfl,rfl⟩
 |skip=>assumption
 |pure=>assumption
 |read=>assumption
 |alloc=>assumption
 |eff r rs Cs Es pend H H1 ho hw hk hc hv h ih=>exact⟨by simp[ih.1],by simpa using ih.2⟩
def Cert.pending{rs:List CW}{Cs:List St}{Es:List Nat}{pend:List iV}{S:Slots}{H:St}(h:Cert P call ops ms base S' H' rs Cs Es pend S H):
    ∀p∈pend,∀(j:Nat) (s:St),Cs[j]?=aa s->(∀(q e:Nat),q<j->Es[q]?=aa e->lI (ms.getD e 0) p.i=ah)->Gj P base s p:=by
 induction h with
 |nil pend h=>
  intro p hp j s hj _;cases j with
  |zero=>simp at hj;subst hj;exact h p hp
  |succ j=>simp at hj
 |skip r rs Cs Es pend H ho hw hv h ih=>exact ih
 |pure r rs Cs Es pend H ho hw hk hv h ih=>exact ih
 |read r rs Cs Es pend H ho hw hk h ih=>exact λp hp=>ih p (aG _ hp)
 |alloc r rs Cs Es pend H ob ho hw hk hv h ih=>exact λp hp=>ih p (aG _ hp)
 |eff r rs Cs Es pend H H1 ho hw hk hc hv h ih=>
  intro p hp j s hj hq;cases j with
  |zero=>simp at hj;subst hj;exact hc p hp
  |succ j=>
   have hb:=hq 0 r.i (by omega) (by simp)
   exact ih p (List.mem_filter.2 ⟨hp,by simp only[hb,Bool.not_false]⟩) j s (by simpa using hj) (λq e hqj he=>hq (q+1) e (by omega) (by simpa using he))
variable{w0:W0}
def Cert.first{rs:List CW}{Cs:List St}{Es:List Nat}{pend:List iV}{S:Slots}{H:St}(h:Cert P call ops ms base S' H' rs Cs Es pend S H):
    ∃s,Cs[0]?=aa s/\s.next=H.next/\∀(Y:Mp) (w:World),(∀r∈rs,Y (base+r.i)=ad)->Sim w0 P Y H w->Sim w0 P Y s w:=by
 induction h with
 |nil pend h=>exact⟨_,rfl,rfl,λ_ _ _ h=>h⟩
 |skip r rs Cs Es pend H ho hw hv h ih=>obtain⟨s,h1,h2,h3⟩:=ih;exact⟨s,h1,h2,λY w hn hS=>h3 Y w (λr hr=>hn r (aG _ hr)) hS⟩
 |pure r rs Cs Es pend H ho hw hk hv h ih=>obtain⟨s,h1,h2,h3⟩:=ih;exact⟨s,h1,h2,λY w hn hS=>h3 Y w (λr hr=>hn r (aG _ hr)) hS⟩
 |read r rs Cs Es pend H ho hw hk h ih=>obtain⟨s,h1,h2,h3⟩:=ih;exact⟨s,h1,h2,λY w hn hS=>h3 Y w (λr hr=>hn r (aG _ hr)) hS⟩
 |alloc r rs Cs Es pend H ob ho hw hk hv h ih=>
  obtain⟨s,h1,h2,h3⟩:=ih;exact⟨s,h1,h2,λY w hn hS=>h3 Y w (λr hr=>hn r (aG _ hr)) (hS.put_new (hn r (by simp)) (λcs m g u e1 e2=>by have:=FE hv cs m g u e1 e2;omega))⟩
 |eff r rs Cs Es pend H H1 ho hw hk hc hv h ih=>exact⟨H,rfl,rfl,λ_ _ _ h=>h⟩
def Cert.at_eff{rs:List CW}{Cs:List St}{Es:List Nat}{pend:List iV}{S:Slots}{H:St}(h:Cert P call ops ms base S' H' rs Cs Es pend S H){q e:Nat}(he:Es[q]?=aa e):
    e<ops.size/\∃r∈rs,r.i=e/\ops[e]?=aa r.o/\dG r.o= .eff/\wanted ops r.S r.o=ae:=by
 induction h generalizing q with
 |nil=>simp at he
 |skip r rs Cs Es pend H ho hw hv h ih=>obtain⟨h1,r',h2,h3⟩:=ih he;exact⟨h1,r',aG _ h2,h3⟩
 |pure r rs Cs Es pend H ho hw hk hv h ih=>obtain⟨h1,r',h2,h3⟩:=ih he;exact⟨h1,r',aG _ h2,h3⟩
 |read r rs Cs Es pend H ho hw hk h ih=>obtain⟨h1,r',h2,h3⟩:=ih he;exact⟨h1,r',aG _ h2,h3⟩
 |alloc r rs Cs Es pend H ob ho hw hk hv h ih=>obtain⟨h1,r',h2,h3⟩:=ih he;exact⟨h1,r',aG _ h2,h3⟩
 |eff r rs Cs Es pend H H1 ho hw hk hc hv h ih=>
  cases q with
  |zero=>simp at he;subst he;exact⟨(Array.getElem?_eq_some_iff.1 ho).1,r,by simp,rfl,ho,hk,hw⟩
  |succ q=>obtain⟨h1,r',h2,h3⟩:=ih (q:=q) (by simpa using he);exact⟨h1,r',aG _ h2,h3⟩
def Cert.effs_nodup{rs:List CW}{Cs:List St}{Es:List Nat}{pend:List iV}{S:Slots}{H:St}(h:Cert P call ops ms base S' H' rs Cs Es pend S H)(hn:(rs.map (·.i)).Nodup):Es.Nodup:=by
 induction h with
 |nil=>exact List.nodup_nil
 |skip r rs Cs Es pend H ho hw hv h ih=>exact ih (List.nodup_cons.1 hn).2
 |pure r rs Cs Es pend H ho hw hk hv h ih=>exact ih (List.nodup_cons.1 hn).2
 |read r rs Cs Es pend H ho hw hk h ih=>exact ih (List.nodup_cons.1 hn).2
 |alloc r rs Cs Es pend H ob ho hw hk hv h ih=>exact ih (List.nodup_cons.1 hn).2
 |eff r rs Cs Es pend H H1 ho hw hk hc hv h ih=>
  have hn':=List.nodup_cons.1 hn;refine List.nodup_cons.2 ⟨λhm=>hn'.1 ?_,ih hn'.2⟩
  obtain⟨q,hq⟩:=List.getElem?_of_mem hm;obtain⟨_,r',h2,h3,_⟩:=h.at_eff hq;exact List.mem_map.2 ⟨r',h2,h3⟩
def EA{N:Type}: ∀(l:List N),(∀l1 i l2,l=l1++i::l2->i∉l1)->l.Nodup:=by
 intro l;induction l with
 |nil=>intro _;exact List.nodup_nil
 |cons a t ih=>
  intro h;refine List.nodup_cons.2 ⟨λhm=>?_,ih λl1 i l2 e=>λhi=>h (a::l1) i l2 (by rw[e];rfl) (aG _ hi)⟩
  obtain⟨m1,m2,e⟩:=List.append_of_mem hm;exact h (a::m1) a m2 (by rw[e];rfl) (by simp)
def hQ(w0:W0)(P:aw)(call:FuncId->Array au->St->Option (au×St))(ops:Array Oper)(ms:List Nat)(base:Nat)(Cs:List St)(Es:List Nat)(later:List CW)(r:CW)(je:Nat):Prop:=
 (wanted ops r.S r.o=ah/\r.v=undef)∨
 (wanted ops r.S r.o=ae/\dG r.o= .pure/\mD P (ev r.S) r.o=aa r.v)∨
 (wanted ops r.S r.o=ae/\dG r.o= .read/\∀(j:Nat) (s:St),je<=j->Cs[j]?=aa s->(∀(q e:Nat),je<=q->q<j->Es[q]?=aa e->lI (ms.getD e 0) r.i=ah)->kS P s (ev r.S) r.o=aa r.v)∨
 (wanted ops r.S r.o=ae/\dG r.o= .alloc/\∃ob,iF P (ev r.S) r.o (base+r.i)=aa (r.v,ob)/\
  ∀(j:Nat) (s:St),je<=j->Cs[j]?=aa s->(∀(q e:Nat),je<=q->q<j->Es[q]?=aa e->lI (ms.getD e 0) r.i=ah)->s.get (base+r.i)=aa ob)∨
 (wanted ops r.S r.o=ae/\dG r.o= .eff/\Es[je]?=aa r.i/\∃s H1 s',Cs[je]?=aa s/\Al P call s (ev r.S) r.o (base+r.i)=aa (r.v,H1)/\Cs[je+1]?=aa s'/\s'.next=H1.next/\
  ∀(Y:Mp) (w:World),(∀r∈later,Y (base+r.i)=ad)->Sim w0 P Y H1 w->Sim w0 P Y s' w)
def Cert.at: ∀(l1:List CW) (r:CW) (l2:List CW) (Cs:List St) (Es:List Nat) (pend:List iV) (S:Slots) (H:St),Cert P call ops ms base S' H' (l1++r::l2) Cs Es pend S H->
    ops[r.i]?=aa r.o/\∃je,je<=Es.length/\(∀q e,q<je->Es[q]?=aa e->∃r'∈l1,r'.i=e/\kP r'.o=ae/\ops[r'.i]?=aa r'.o)/\hQ w0 P call ops ms base Cs Es l2 r je:=by
 intro l1;induction l1 with
 |nil=>
  intro r l2 Cs Es pend S H h;simp only[aW]at h;cases h with
  |skip _ _ _ _ _ _ ho hw hv h=>exact⟨ho,0,a8 _,λq e hq=>by omega,.inl ⟨hw,hv⟩⟩
  |pure _ _ _ _ _ _ ho hw hk hv h=>exact⟨ho,0,a8 _,λq e hq=>by omega,.inr (.inl ⟨hw,hk,hv⟩)⟩
  |read _ _ _ _ _ _ ho hw hk h=>
   refine⟨ho,0,a8 _,λq e hq=>by omega,.inr (.inr (.inl ⟨hw,hk,λj s _ hj hq=>?_⟩))⟩
   exact h.pending _ (aH) j s hj (λq e hqj he=>hq q e (by omega) hqj he)
  |alloc _ _ _ _ _ _ ob ho hw hk hv h=>
   refine⟨ho,0,a8 _,λq e hq=>by omega,.inr (.inr (.inr (.inl ⟨hw,hk,ob,hv,λj s _ hj hq=>?_⟩)))⟩
   exact h.pending _ (aH) j s hj (λq e hqj he=>hq q e (by omega) hqj he)
  |eff _ _ Cs' Es' _ _ H1 ho hw hk hc hv h=>
   obtain⟨s',h1,h2,h3⟩:=h.first (w0:=w0)
   exact⟨ho,0,a8 _,λq e hq=>by omega,.inr (.inr (.inr (.inr ⟨hw,hk,rfl,H,H1,s',rfl,hv,by simpa using h1,h2,h3⟩)))⟩
 |cons r0 l1 ih=>
  intro r l2 Cs Es pend S H h;simp only[aY]at h;have lift: ∀{Cs Es pend S H},Cert P call ops ms base S' H' (l1++r::l2) Cs Es pend S H->ops[r.i]?=aa r.o/\∃je,je<=Es.length/\(∀q e,q<je->Es[q]?=aa e->∃r'∈r0::l1,r'.i=e/\kP r'.o=ae/\ops[r'.i]?=aa r'.o)/\hQ w0 P call ops ms base Cs Es l2 r je:=by
   intro Cs Es pend S H h;obtain⟨h1,je,h0,h2,h3⟩:=ih r l2 Cs Es pend S H h;exact⟨h1,je,h0,λq e hq he=>let ⟨r',ca,hh⟩:=h2 q e hq he;⟨r',aG _ ca,hh⟩,h3⟩
  cases h with
  |skip _ _ _ _ _ _ ho hw hv h=>exact lift h
  |pure _ _ _ _ _ _ ho hw hk hv h=>exact lift h
  |read _ _ _ _ _ _ ho hw hk h=>exact lift h
  |alloc _ _ _ _ _ _ ob ho hw hk hv h=>exact lift h
  |eff _ _ Cs' Es' _ _ H1 ho hw hk hc hv h=>
   obtain⟨h1,je,h0,h2,h3⟩:=ih r l2 Cs' Es' _ _ _ h;refine⟨h1,je+1,by simp;omega,λq e hq he=>?_,?_⟩
   .cases q with
    |zero=>simp at he;subst he;exact⟨r0,by simp,rfl,by simp[kP,hk],ho⟩
    |succ q=>obtain⟨r',ca,hh⟩:=h2 q e (by omega) (by simpa using he);exact⟨r',aG _ ca,hh⟩
   .rcases h3 with h3|h3|⟨a,b,c⟩|⟨a,b,ob,c,d⟩|⟨a,b,c,s,H2,s',d⟩
    .exact .inl h3
    .exact .inr (.inl h3)
    .refine .inr (.inr (.inl ⟨a,b,λj s hj hs hq=>?_⟩))
     cases j with
     |zero=>omega
     |succ j=>exact c j s (by omega) (by simpa using hs) (λq e h1 h2 he=>hq (q+1) e (by omega) (by omega) (by simpa using he))
    .refine .inr (.inr (.inr (.inl ⟨a,b,ob,c,λj s hj hs hq=>?_⟩)))
     cases j with
     |zero=>omega
     |succ j=>exact d j s (by omega) (by simpa using hs) (λq e h1 h2 he=>hq (q+1) e (by omega) (by omega) (by simpa using he))
    .exact .inr (.inr (.inr (.inr ⟨a,b,by simpa using c,s,H2,s',by simpa using d⟩)))
def Cert.slots: ∀(l1:List CW) (l2:List CW) (Cs:List St) (Es:List Nat) (pend:List iV) (S:Slots) (H:St) (T:Slots),Cert P call ops ms base S' H' (l1++l2) Cs Es pend S H->
    (∀r l3,l2=r::l3->r.S=T)->(l2=[]->S'=T)->∀x,((∀r∈l1,r.o.dst≠aa x)->T.at x=S.at x)/\
      (∀p1 r p2,l1=p1++r::p2->r.o.dst=aa x->(∀r'∈p2,r'.o.dst≠aa x)->T.at x=r.v):=by
 intro l1;induction l1 with
 |nil=>
  intro l2 Cs Es pend S H T h hT hT' x;simp only[aW]at h;have:T=S:=by
   cases l2 with
   |nil=>rw[<-hT' rfl];cases h;rfl
   |cons r l3=>rw[<-hT r l3 rfl];cases h<;>rfl
  subst this;exact⟨λ_=>rfl,λp1 r p2 e=>by simp at e⟩
 |cons r0 l1 ih=>
  intro l2 Cs Es pend S H T h hT hT' x;simp only[aY]at h;have main: ∀{Cs Es pend H},Cert P call ops ms base S' H' (l1++l2) Cs Es pend (S.store r0.o.dst r0.v) H->((∀r∈r0::l1,r.o.dst≠aa x)->T.at x=S.at x)/\
   (∀p1 r p2,r0::l1=p1++r::p2->r.o.dst=aa x->(∀r'∈p2,r'.o.dst≠aa x)->T.at x=r.v):=by
   intro Cs Es pend H h;obtain⟨h1,h2⟩:=ih l2 Cs Es pend _ H T h hT hT' x;refine⟨λhn=>?_,λp1 r p2 e hd hn=>?_⟩
   .rw[h1 (λr hr=>hn r (aG _ hr)),Slots.at_store,bH (hn r0 (by simp))]
   .cases p1 with
    |nil=>
     simp only[aW,List.cons.injEq]at e;obtain⟨rfl,rfl⟩:=e;rw[h1 hn,Slots.at_store,bI hd]
    |cons p p1=>
     simp only[aY,List.cons.injEq]at e;exact h2 p1 r p2 e.2 hd hn
  cases h with
  |skip _ _ _ _ _ _ ho hw hv h=>exact main h
  |pure _ _ _ _ _ _ ho hw hk hv h=>exact main h
  |read _ _ _ _ _ _ ho hw hk h=>exact main h
  |alloc _ _ _ _ _ _ ob ho hw hk hv h=>exact main h
  |eff _ _ Cs' Es' _ _ H1 ho hw hk hc hv h=>exact main h
def a69(a b i:Nat):lI (a|||b) i=(lI a i||lI b i):=by
 have h: ∀m,lI m i=m.testBit i:=by
  intro m;unfold lI;rw[dN,Nat.testBit_eq_decide_div_mod_eq,Nat.shiftRight_eq_div_pow]
 rw[h,h,h,Nat.testBit_or]
def aDc(j i:Nat):lI (1<<<j) i=aj (i=j):=by
 unfold lI;have:(1<<<j>>>i)%2=if i=j then 1 else 0:=by
  have h:=Nat.testBit_eq_decide_div_mod_eq (x:=1<<<j) (i:=i);rw[<-Nat.shiftRight_eq_div_pow]at h;have h2:(1<<<j).testBit i=aj (i=j):=by
   rw[Nat.one_shiftLeft,Nat.testBit_two_pow];by_cases e:j=i
   .subst e;simp
   .simp[e,Ne.symm e]
  rw[h2]at h;by_cases e:i=j
  .rw[bI e];simp only[e,decide_true]at h;have:=of_decide_eq_true h.symm;rw[e];exact this
  .rw[bH e];simp only[e,decide_false]at h;have:=of_decide_eq_false h.symm;omega
 rw[this,dN];by_cases e:i=j<;>simp[e]
def RX(i:Nat):lI 0 i=ah:=by simp[lI,dN]
def Q0(ps:List Nat)(o:Oper)(j:Nat)(h:lI (sI ps o) j=ae): ∃e∈o.after,Region.binds .any e=ae/\(e.on=j∨(e.on<ps.length/\lI (ps.getD e.on 0) j=ae)):=by
 unfold sI at h;have main: ∀(l:List Edge) (m:Nat),lI (l.foldl (λm e=>bif Region.binds .any e then(m|||(1<<<e.on))|||ps.getD e.on 0 else m) m) j=ae->lI m j=ae∨∃e∈l,Region.binds .any e=ae/\(e.on=j∨(e.on<ps.length/\lI (ps.getD e.on 0) j=ae)):=by
  intro l;induction l with
  |nil=>intro m h;exact .inl h
  |cons e l ih=>
   intro m h;simp only[List.foldl_cons]at h;rcases ih _ h with h|⟨e',gb,h⟩
   .cases hb:Region.binds .any e with
    |false=>rw[hb]at h;exact .inl h
    |true=>
     rw[hb]at h;simp only[aI,a69,aDc,b9,aD]at h;rcases h with(h|h)|h
     .exact .inl h
     .exact .inr ⟨e,by simp,hb,.inl h.symm⟩
     .refine .inr ⟨e,by simp,hb,.inr ⟨?_,h⟩⟩
      rcases b7 e.on ps.length with hl|hl
      .exact hl
      .rw[List.getD_eq_getElem?_getD,d9 hl]at h;simp[RX]at h
   .exact .inr ⟨e',aG _ gb,h⟩
 rcases main _ _ h with h|⟨e,he,h⟩
 .rw[RX]at h;cases h
 .exact⟨e,Array.mem_toList_iff.1 he,h⟩
def aCK: ∀(l:List Oper) (ps:List Nat) (i:Nat),(∀(h:i<ps.length),(gG l ps).getD i 0=ps.getD i 0)/\(∀(k:Nat) (o:Oper),i=ps.length+k->l[k]?=aa o->∃qs,(gG l ps).getD i 0=sI qs o/\qs.length=i/\∀j,j<i->qs.getD j 0=(gG l ps).getD j 0):=by
 intro l;induction l with
 |nil=>intro ps i;exact⟨λ_=>rfl,λk o _ h=>by simp at h⟩
 |cons o l ih=>
  intro ps i;simp only[gG];have hpre: ∀j,j<ps.length->(ps++ [sI ps o]).getD j 0=ps.getD j 0:=λj hj=>by
   simp only[List.getD_eq_getElem?_getD,List.getElem?_append_left hj]
  refine⟨λh=>?_,λk o' hi hk=>?_⟩
  .rw[(ih (ps++ [sI ps o]) i).1 (by simp;omega),hpre i h]
  .cases k with
   |zero=>
    simp only[aU,aA]at hk;subst hk;refine⟨ps,?_,by omega,λj hj=>?_⟩
    .rw[(ih (ps++ [sI ps o]) i).1 (by simp;omega)]
     simp[List.getD_eq_getElem?_getD,hi]
    .rw[(ih (ps++ [sI ps o]) j).1 (by simp;omega),hpre j (by omega)]
   |succ k=>exact(ih (ps++ [sI ps o]) i).2 k o' (by simp;omega) (by simpa using hk)
structure Gi(ops:Array Oper)(ms:List Nat)(order:List Nat):Prop where
 edge: ∃rk:Nat->Nat,∀i o e,ops[i]?=aa o->e∈o.after->Region.binds .any e=ae->rk e.on<rk i/\e.on<ops.size
 mask: ∀i o j,ops[i]?=aa o->lI (ms.getD i 0) j=ae->∃e∈o.after,Region.binds .any e=ae/\(e.on=j∨(e.on<i/\lI (ms.getD e.on 0) j=ae))
 guard: ∀i o j b,ops[i]?=aa o->o.guard=aa (j,b)->lI (ms.getD i 0) j=ae/\j<ops.size
 haz: ∀(i j:Nat) (o o':Oper) (d:Tmp),i≠j->ops[i]?=aa o->ops[j]?=aa o'->o'.dst=aa d->d∈o.looksAt ops->lI (ms.getD i 0) j=ae∨lI (ms.getD j 0) i=ae
 dsts: ∀(i j:Nat) (o o':Oper) (d:Tmp),i≠j->ops[i]?=aa o->ops[j]?=aa o'->o.dst=aa d->o'.dst=aa d->False
 split: ∀l1 i l2,order=l1++i::l2->i<ops.size/\i∉l1/\(∀j,j<ops.size->lI (ms.getD i 0) j=ae->j∈l1)/\(∀e o,e∈l1->ops[e]?=aa o->kP o=ae->lI (ms.getD i 0) e=ae)
 all: ∀i,i<ops.size->i∈order
def aCb: ∀(order done:List Nat),P6 ops ms order done=ae->
    (∀l1 i l2,order=l1++i::l2->i<ops.size/\i∉l1/\i∉done/\(∀j,j<ops.size->lI (ms.getD i 0) j=ae->j∈l1∨j∈done)/\(∀e o,(e∈l1∨e∈done)->ops[e]?=aa o->kP o=ae->lI (ms.getD i 0) e=ae))/\
    (∀i,i<ops.size->i∈order∨i∈done):=by
 intro order;induction order with
 |nil=>
  intro done h;simp only[P6,bJ,List.mem_range,List.contains_iff_mem]at h;exact⟨λl1 i l2 e=>by simp at e,λi hi=> .inr (h i hi)⟩
 |cons a rest ih=>
  intro done h;simp only[P6,aC,gZ,aD,bJ,List.mem_range,b9,Bool.not_eq_true',List.contains_iff_mem]at h;obtain⟨⟨⟨⟨h1,h2⟩,h3⟩,h4⟩,h5⟩:=h;obtain⟨g1,g2⟩:=ih _ h5;have gi:a∉done:=by intro hm;rw[List.contains_iff_mem.2 hm]at h2;cases h2
  refine⟨λl1 i l2 e=>?_,λi hi=>?_⟩
  .cases l1 with
   |nil=>
    simp only[aW,List.cons.injEq]at e;obtain⟨rfl,rfl⟩:=e;refine⟨h1,by simp,gi,λj hj hb=>?_,λe o he ho hef=>?_⟩
    .rcases h3 j hj with hh|hh
     .rw[hb]at hh;cases hh
     .exact .inr hh
    .rcases he with he|he
     .cases he
     .rcases h4 e he with hh|hh
      .simp[aTs,ho,hef]at hh
      .exact hh
   |cons b l1=>
    simp only[aY,List.cons.injEq]at e;obtain⟨rfl,e⟩:=e;obtain⟨k1,k2,k3,k4,k5⟩:=g1 l1 i l2 e;simp only[List.mem_cons,not_or]at k3;refine⟨k1,by simp only[List.mem_cons,not_or];exact⟨k3.1,k2⟩,k3.2,λj hj hb=>?_,λe o he=>k5 e o ?_⟩
    .rcases k4 j hj hb with h|h
     .exact .inl (aG _ h)
     .rcases List.mem_cons.1 h with h|h
      .exact .inl (by simp[h])
      .exact .inr h
    .rcases he with he|he
     .rcases List.mem_cons.1 he with h|h
      .exact .inr (by simp[h])
      .exact .inl h
     .exact .inr (aG _ he)
  .rcases g2 i hi with h|h
   .exact .inl (aG _ h)
   .rcases List.mem_cons.1 h with h|h
    .exact .inl (by simp[h])
    .exact .inr h
def aPB{rk:Nat->Nat}{order:List Nat}(h:Dt rk ops order=ae):Gi ops (gG ops.toList []) order:=by
 unfold Dt at h;simp only[aC,bJ]at h;obtain⟨ht,hl⟩:=h;obtain⟨t1,t2⟩:=aCb _ _ ht;have mem: ∀{i o},ops[i]?=aa o->(o,i)∈ops.toList.zipIdx:=by
  intro i o ho;rw[List.mem_zipIdx_iff_getElem?];simpa using ho
 refine⟨?_,?_,?_,?_,?_,?_,?_⟩
 .refine⟨rk,?_⟩;intro i o e ho he hb;have:=(hl _ (mem ho)).1.1;have:=this e (Array.mem_toList_iff.2 he);simp only[hb,bD,Bool.false_or,gZ,aC,aD]at this;exact this
 .intro i o j ho hb;have hlo:ops.toList[i]?=aa o:=by simpa using ho
  obtain⟨qs,h1,h2,h3⟩:=(aCK ops.toList [] i).2 i o (by simp) hlo
  rw[h1]at hb;obtain⟨e,he,li,hor⟩:=Q0 qs o j hb;refine⟨e,he,li,hor.imp id λ⟨bi,qm⟩=>⟨by omega,?_⟩⟩
  rw[h3 e.on (by omega)]at qm;exact qm
 .intro i o j b ho hg;have:=(hl _ (mem ho)).1.2;simp only[hg,aC,gZ,aD]at this;exact this
 .intro i j o o' d bv ho gq hd lb;have:=(hl _ (mem ho)).2 _ (mem gq);simp only[Lf,dN,bv,decide_false,Bool.false_or,hd,aC,b9]at this;rcases this.1 with(h|h)|h
  .exact .inl h
  .exact .inr h
  .rw[List.contains_iff_mem.2 lb]at h;cases h
 .intro i j o o' d bv ho gq hd kt;have:=(hl _ (mem ho)).2 _ (mem gq);simp only[Lf,dN,bv,decide_false,Bool.false_or,hd,kt,aC,decide_true,bD]at this;exact absurd this.2 (by simp)
 .intro l1 i l2 e;obtain⟨h1,h2,h3,h4,h5⟩:=t1 l1 i l2 e;exact⟨h1,h2,λj hj hb=>(h4 j hj hb).resolve_right (by simp),λe o he=>h5 e o (.inl he)⟩
 .intro i hi;exact(t2 i hi).resolve_right (by simp)
def aGh(h:Ew ops=ae):Dt (λi=>i) ops (zI ops (gG ops.toList []))=ae:=by
 unfold Ew at h;unfold Dt;simp only[aC,bJ]at h⊢;obtain⟨ht,hl⟩:=h;refine⟨ht,λx hx=>?_⟩
 obtain⟨⟨h1,h2⟩,h3⟩:=hl x hx;refine⟨⟨λe he=>?_,h2⟩,h3⟩
 have h4:=h1 e he;cases hb:Region.binds .any e with
 |false=>rfl
 |true=>
  rw[hb]at h4;simp only[bD,Bool.false_or,gZ,aD,aC]at h4⊢;have kv:ops.toList[x.2]?=aa x.1:=by
   have:=List.mem_zipIdx_iff_getElem?.1 (show(x.1,x.2)∈ops.toList.zipIdx from hx)
   exact this
  have hi:=(List.getElem?_eq_some_iff.1 kv).1;exact⟨h4,by have:ops.toList.length=ops.size:=Array.length_toList;omega⟩
def a6y(h:Ew ops=ae):Gi ops (gG ops.toList []) (zI ops (gG ops.toList [])):=aPB (aGh h)
structure JC(w0:W0)(P:aw)(ops:Array Oper)(base α n0:Nat)(S0:Slots)(rs:List CW)(Cs:List St)(Es:List Nat)(Y0:Mp)(listed:Array Bool)(a:Act)(w:World)(Y:Mp)(k:Nat)(s:St):Prop where
 size:listed.size=ops.size
 closed: ∀(i:Nat) (o:Oper) (e:Edge),ops[i]?=aa o->listed.getD i ah=ae->e∈o.after->Region.binds .any e=ae->listed.getD e.on ah=ae
 count: ∀(q e:Nat),Es[q]?=aa e->(listed.getD e ah=ae↔q<k)
 state:Cs[k]?=aa s
 sim:Sim w0 P Y s w
 next:base+ops.size<=s.next
 none: ∀i,i<ops.size->listed.getD i ah=ah->Y (base+i)=ad
 ext:Ext n0 Y0 Y
 tsize:α<=a.tmps.size
 defers:a.defers=[]
 here: ∀r∈rs,listed.getD r.i ah=ae->∀x,r.o.dst=aa x->VR Y r.v (a.tmps.getD x undef)
 there: ∀x,(∀r∈rs,listed.getD r.i ah=ae->r.o.dst≠aa x)->VR Y (S0.at x) (a.tmps.getD x undef)
def aHw(listed:Array Bool)(i j:Nat)(h:i<listed.size):(listed.setIfInBounds i ae).getD j ah=if j=i then ae else listed.getD j ah:=by
 by_cases e:j=i
 .subst e;rw[bI rfl];simp[Array.getD_eq_getD_getElem?,h]
 .rw[bH e,getD_set_ne ah (Ne.symm e)]
def pS{order:List Nat}(D:Gi ops ms order){listed:Array Bool}
    (closed: ∀(i:Nat) (o:Oper) (e:Edge),ops[i]?=aa o->listed.getD i ah=ae->e∈o.after->Region.binds .any e=ae->listed.getD e.on ah=ae):
    ∀(i j:Nat) (o:Oper),ops[i]?=aa o->(∀e∈o.after,Region.binds .any e=ae->listed.getD e.on ah=ae)->lI (ms.getD i 0) j=ae->listed.getD j ah=ae:=by
 intro i;induction i using Nat.strongRecOn with
 |_ i ih=>
  intro j o ho dh hb;obtain⟨e,he,li,hor⟩:=D.mask i o j ho hb;have hl:=dh e he li;rcases hor with rfl|⟨bi,qm⟩
  .exact hl
  .have hio:i<ops.size:=(Array.getElem?_eq_some_iff.1 ho).1;have hoe:ops[e.on]?=aa (ops[e.on]'(by omega)):=Array.getElem?_eq_getElem _
   exact ih e.on bi j _ hoe (λe' gb bp=>closed e.on _ e' hoe hl gb bp) qm
def kH{listed:Array Bool}{i:Nat}(h:listed.getD i ae=ah):listed.getD i ah=ah/\i<listed.size:=by
 rw[Array.getD_eq_getD_getElem?]at h⊢;cases hc:listed[i]? with
 |none=>simp[hc]at h
 |some b=>simp[hc]at h⊢;exact⟨h,(Array.getElem?_eq_some_iff.1 hc).1⟩
def aWu(listed:Array Bool):Nat:=(listed.toList.filter λb=> !b).length
def YW{listed:Array Bool}{i:Nat}(h:listed.getD i ae=ah):aWu (listed.setIfInBounds i ae)+1=aWu listed:=by
 obtain⟨_,hi⟩:=kH h;have hv:listed[i]=ah:=by rw[Array.getD_eq_getD_getElem?,Array.getElem?_eq_getElem hi]at h;simpa using h
 unfold aWu;rw[Array.toList_setIfInBounds];have main: ∀(l:List Bool) (i:Nat) (hi:i<l.length),l[i]=ah->((l.set i ae).filter λb=> !b).length+1=(l.filter λb=> !b).length:=by
  intro l;induction l with
  |nil=>intro i hi;simp at hi
  |cons b l ih=>
   intro i hi hv;cases i with
   |zero=>simp at hv;subst hv;simp
   |succ i=>
    have:=ih i (by simpa using hi) (by simpa using hv)
    cases b<;>simp[List.filter_cons]<;>omega
 exact main listed.toList i (by simpa using hi) (by simpa using hv)
def fF{N:Type}{l:List N}{x:N}(h:x∈l): ∃l1 l2,l=l1++x::l2:=List.append_of_mem h
def T9(bj:iW w0 P call){order:List Nat}(D:Gi ops ms order){α n0:Nat}(bz: ∀o∈ops.toList,sE P α o=ae){rs:List CW}{Cs:List St}{Es:List Nat}{S0:Slots}{H0:St}{Y0:Mp}(hn0:n0<=base)
    (C:Cert P call ops ms base S' H' rs Cs Es [] S0 H0) (nc:rs.map (·.i)=order) {Q:Exit->Act->World->Prop} (dm:tJ w0 P Y0 n0 α S' H' (Q .normal)):
    (∀(listed:Array Bool) (a:Act) (w:World) (Y:Mp) (k:Nat) (s:St),JC w0 P ops base α n0 S0 rs Cs Es Y0 listed a w Y k s->(∀i,i<ops.size->listed.getD i ah=ae)->Q .normal a w)/\
    ∀(listed:Array Bool) (a:Act) (w:World) (Y:Mp) (k:Nat) (s:St),JC w0 P ops base α n0 S0 rs Cs Es Y0 listed a w Y k s->∀i∈Region.ready .any ops listed,
      wpOp P ops Q i (λa' w'=> ∃Y' k' s',JC w0 P ops base α n0 S0 rs Cs Es Y0 (listed.setIfInBounds i ae) a' w' Y' k' s') a w:=by
 have hrec: ∀i,i<ops.size->∃l1 r l2,rs=l1++r::l2/\r.i=i:=by
  intro i hi;have:=D.all i hi;rw[<-nc]at this;obtain⟨r,hr,rfl⟩:=List.mem_map.1 this;obtain⟨l1,l2,e⟩:=fF hr;exact⟨l1,r,l2,e,rfl⟩
 have jm: ∀{l1 r l2},rs=l1++r::l2->r.i<ops.size/\(∀r'∈l1,r'.i≠r.i)/\(∀j,j<ops.size->lI (ms.getD r.i 0) j=ae->∃r'∈l1,r'.i=j)/\(∀r' o,r'∈l1->ops[r'.i]?=aa o->kP o=ae->lI (ms.getD r.i 0) r'.i=ae):=by
  intro l1 r l2 e;obtain⟨h1,h2,h3,h4⟩:=D.split (l1.map (·.i)) r.i (l2.map (·.i)) (by rw[<-nc,e];simp)
  refine⟨h1,λr' ca e'=>h2 (List.mem_map.2 ⟨r',ca,e'⟩),λj hj hb=>?_,λr' o ca ho he=>h4 r'.i o (List.mem_map.2 ⟨r',ca,rfl⟩) ho he⟩
  obtain⟨r',ca,e'⟩:=List.mem_map.1 (h3 j hj hb);exact⟨r',ca,e'⟩
 have mg: ∀r∈rs,ops[r.i]?=aa r.o:=by
  intro r hr;obtain⟨l1,l2,e⟩:=fF hr;rw[e]at C;exact(C.at (w0:=w0) l1 r l2).1
 have jl: ∀r1∈rs,∀r2∈rs,r1.i=r2.i->r1=r2:=by
  intro r1 h1 r2 h2 e;obtain⟨l1,l2,e1⟩:=fF h1;rw[e1]at h2;rcases List.mem_append.1 h2 with h|h
  .exact absurd e.symm ((jm e1).2.1 r2 h)
  .rcases List.mem_cons.1 h with h|h
   .exact h.symm
   .obtain⟨m1,m2,e2⟩:=fF h;exact absurd e ((jm (l1:=l1++r1::m1) (r:=r2) (l2:=m2) (by rw[e1,e2];simp)).2.1 r1 (by simp))
 have fin: ∀(listed:Array Bool) (a:Act) (w:World) (Y:Mp) (k:Nat) (s:St),JC w0 P ops base α n0 S0 rs Cs Es Y0 listed a w Y k s->(∀i,i<ops.size->listed.getD i ah=ae)->Q .normal a w:=by
  intro listed a w Y k s G dh;have hk:k=Es.length:=by
   obtain⟨hl,_⟩:=C.lens;have h1:k<Cs.length:=by
    rcases b7 k Cs.length with h|h
    .exact h
    .have:=G.state;rw[d9 h]at this;cases this
   rcases b7 k Es.length with h|h
   .have he:=aV h;have bi:Es[k]<ops.size:=by
     rcases b7 Es[k] ops.size with h'|h'
     .exact h'
     .have:listed.getD Es[k] ah=ah:=by rw[Array.getD_eq_getD_getElem?,Array.getElem?_eq_none (by rw[G.size];exact h')];rfl
      exact absurd ((C.at_eff he).1) (by omega)
    have:=(G.count k _ he).1 (dh _ bi);omega
   .omega
  subst hk;have hs:s=H':=by have:=G.state;rw[C.lens.2]at this;cases this;rfl
  subst hs;refine dm a w Y ⟨G.tsize,G.defers,λx=>?_⟩ G.sim G.ext (by have:=G.next;omega)
  have hs:=Cert.slots rs [] Cs Es [] S0 H0 S' (by simpa using C) (λr l3 e=>by cases e) (λ_=>rfl) x
  by_cases hx: ∃r∈rs,r.o.dst=aa x
  .obtain⟨r,hr,hd⟩:=hx;obtain⟨l1,l2,e⟩:=fF hr;rw[hs.2 l1 r l2 e hd (λr' ca kt=>by
    have bn:r.i≠r'.i:=by
     obtain⟨m1,m2,e2⟩:=fF ca;exact(jm (l1:=l1++r::m1) (r:=r') (l2:=m2) (by rw[e,e2];simp)).2.1 r (by simp)
    exact D.dsts r.i r'.i r.o r'.o x bn (mg r hr) (mg r' (by rw[e];simp[ca])) hd kt)]
   exact G.here r hr (dh _ (jm e).1) x hd
  .have kv: ∀r∈rs,r.o.dst≠aa x:=λr hr hd=>hx ⟨r,hr,hd⟩
   rw[hs.1 kv];exact G.there x (λr hr _=>kv r hr)
 refine⟨fin,?_⟩;intro listed a w Y k s G i hi;obtain⟨h1,o,ho,dh⟩:=mem_ready.1 hi;obtain⟨h2,h3⟩:=kH h1;have hio:i<ops.size:=by rw[<-G.size];exact h3
 obtain⟨l1,r,l2,bg,hri⟩:=hrec i hio;subst hri;have jq:r∈rs:=by rw[bg];simp
 have hor:r.o=o:=by have:=mg r jq;rw[ho]at this;cases this;rfl
 subst hor;have lp:=bz r.o (by have:ops.toList[r.i]?=aa r.o:=(by simpa using ho);exact List.mem_of_getElem? this)
 obtain⟨sp1,sp2,sp3,sp4⟩:=jm bg;have hml:=pS D G.closed r.i;have cw:=Cert.slots l1 (r::l2) Cs Es [] S0 H0 r.S (by rw[<-bg];exact C) (λr' l3 e=>by cases e;rfl) (λe=>by cases e)
 have lb: ∀x,x∈r.o.looksAt ops->VR Y (r.S.at x) (a.tmps.getD x undef):=by
  intro x hx;by_cases hex: ∃r'∈rs,r'.o.dst=aa x
  .obtain⟨r',ca,kt⟩:=hex;have only: ∀r''∈rs,r''.o.dst=aa x->r''=r':=by
    intro r'' de jc;by_cases e:r''.i=r'.i
    .exact jl _ de _ ca e
    .exact(D.dsts _ _ _ _ x e (mg _ de) (mg _ ca) jc kt).elim
   by_cases e:r'.i=r.i
   .have:r'=r:=jl _ ca _ jq e;subst this;rw[(cw x).1 (λr'' de jc=>by
     have:=only r'' (by rw[bg];simp[de]) jc
     subst this;exact sp2 r'' de rfl)]
    exact G.there x (λr'' de hl jc=>by
     have:=only r'' de jc;subst this;rw[h2]at hl;cases hl)
   .rcases D.haz r.i r'.i r.o r'.o x (Ne.symm e) ho (mg _ ca) kt hx with hb|hb
    ·
     have hlst:=hml r'.i r.o ho dh hb;have bi:r'.i<ops.size:=(Array.getElem?_eq_some_iff.1 (mg _ ca)).1;obtain⟨r'',de,e''⟩:=sp3 r'.i bi hb;have:r''=r':=jl _ (by rw[bg];simp[de]) _ ca e''
     subst this;obtain⟨p1,p2,ep⟩:=fF de;rw[(cw x).2 p1 r'' p2 ep kt (λq hq hdq=>by
      have hqr:q∈rs:=by rw[bg,ep];simp[hq]
      have:=only q hqr hdq;subst this;obtain⟨m1,m2,e2⟩:=fF hq;exact(jm (l1:=p1++q::m1) (r:=q) (l2:=m2++r::l2) (by rw[bg,ep,e2];simp)).2.1 q (by simp) rfl)]
     exact G.here r'' ca hlst x kt
    ·
     have kq:listed.getD r'.i ah=ah:=by
      cases hc:listed.getD r'.i ah with
      |false=>rfl
      |true=>
       have:=pS D G.closed r'.i r.i r'.o (mg _ ca) (λe he li=>G.closed r'.i r'.o e (mg _ ca) hc he li) hb
       rw[h2]at this;cases this
     have qd:r'∉l1:=by
      intro hm;obtain⟨p1,p2,ep⟩:=fF hm;obtain⟨q,hq,eq⟩:=(jm (l1:=p1) (r:=r') (l2:=p2++r::l2) (by rw[bg,ep];simp)).2.2.1 r.i hio hb
      exact sp2 q (by rw[ep];simp[hq]) eq
     rw[(cw x).1 (λr'' de jc=>by
      have:=only r'' (by rw[bg];simp[de]) jc
      subst this;exact qd de)]
     exact G.there x (λr'' de hl jc=>by
      have:=only r'' de jc;subst this;rw[kq]at hl;cases hl)
  .have hex': ∀r'∈rs,r'.o.dst≠aa x:=λr' ca kt=>hex ⟨r',ca,kt⟩
   rw[(cw x).1 (λr' ca=>hex' r' (by rw[bg];simp[ca]))]
   exact G.there x (λr' ca _=>hex' r' ca)
 have hρ: ∀x∈r.o.op.operands,VR Y (ev r.S x) (a.eval x):=by
  intro x hx;have tj:=Ev lp x hx;cases x with
  |tmp t=>
   refine lb t ?_;unfold Oper.looksAt;exact List.mem_append.2 (.inl (List.mem_filterMap.2 ⟨.tmp t,Array.mem_toList_iff.2 hx,rfl⟩))
  |const v=>exact .same1 tj
  |global g=>
   simp only[cG,gZ,aD]at tj;obtain⟨p,hp,hb,gq⟩:=G.sim.glob g tj;have:=VR.ptr (Y:=Y) g 0 p hp;rw[hb,gq]at this;exact this
  |func f=>exact .fn _ _ _ _ _ rfl (λi x u h=>by simp at h) rfl (λi x u h=>by simp at h)
 have hwant:wanted ops r.S r.o=Region.wanted r.o (yielded ops a.tmps):=by
  refine DK (Y:=Y) ops r.o (λj want d hg hd=>lb d ?_)
  unfold Oper.looksAt;rw[hg];exact List.mem_append.2 (.inr (by simp[hd]))
 have fj: ∀j,(listed.setIfInBounds r.i ae).getD j ah=if j=r.i then ae else listed.getD j ah:=λj=>aHw listed r.i j h3
 have step: ∀(a':Act) (w':World) (Y':Mp) (k':Nat) (s':St) (v':au),a'=a.put r.o.dst v'->VR Y' r.v v'->Cs[k']?=aa s'->Sim w0 P Y' s' w'->base+ops.size<=s'.next->
      (∀k p,Y k=aa p->Y' k=aa p)->(∀j,j<base+ops.size->j≠base+r.i->Y' j=Y j)->
      (∀(q e:Nat),Es[q]?=aa e->((e=r.i∨listed.getD e ah=ae)↔q<k'))->JC w0 P ops base α n0 S0 rs Cs Es Y0 (listed.setIfInBounds r.i ae) a' w' Y' k' s':=by
  intro a' w' Y' k' s' v' cq fe cf hsim lq bw ci hcnt;have hdst:=Aa lp;refine⟨by simp[G.size],?_,?_,cf,hsim,lq,?_,?_,?_,?_,?_,?_⟩
  .intro j oj e hoj hl he li;rw[fj]at hl⊢;split
   .rfl
   .split at hl
    .rename_i ej;subst ej;rw[ho]at hoj;cases hoj;exact dh e he li
    .exact G.closed j oj e hoj hl he li
  .intro q e hq;rw[fj];rw[<-hcnt q e hq];by_cases he:e=r.i
   .simp[he]
   .simp[he]
  .intro j hj hl;rw[fj]at hl;split at hl
   .cases hl
   .rename_i bn;rw[ci (base+j) (by omega) (by omega)]
    exact G.none j hj hl
  .exact⟨λk p hk=>bw k p (G.ext.1 k p hk),λk hk=>(ci k (by omega) (by omega)).trans (G.ext.2 k hk)⟩
  .subst cq;have:=G.tsize;cases r.o.dst<;>simp[Act.put,this]
  .subst cq;cases r.o.dst<;>simp[Act.put,G.defers]
  .intro q hq hl x hd;subst cq;rw[E2 _ _ _ _ (λt e=>Nat.lt_of_lt_of_le (hdst t e) G.tsize)]
   rw[fj]at hl;by_cases e:q.i=r.i
   .have:q=r:=jl _ hq _ jq e;subst this;rw[bI hd];exact fe
   .rw[bH e]at hl;have gi:r.o.dst≠aa x:=λkt=>D.dsts q.i r.i q.o r.o x e (mg _ hq) ho hd kt
    rw[bH gi];exact(G.here q hq hl x hd).mono' bw
  .intro x hx;subst cq;rw[E2 _ _ _ _ (λt e=>Nat.lt_of_lt_of_le (hdst t e) G.tsize)]
   have gi:r.o.dst≠aa x:=hx r jq (by rw[fj,bI rfl])
   rw[bH gi];refine(G.there x λq hq hl=>hx q hq ?_).mono' bw
   rw[fj];split
   .rfl
   .exact hl
 obtain⟨_,je,hjl,hje,hR⟩:=Cert.at (w0:=w0) l1 r l2 Cs Es [] S0 H0 (by rw[<-bg];exact C)
 have hjek: ∀q,q<je->∀e,Es[q]?=aa e->q<k:=by
  intro q hq e he;obtain⟨r',ca,e',hef,gq⟩:=hje q e hq he;have hb:=sp4 r' r'.o ca gq hef;have:=hml r'.i r.o ho dh hb;rw[e']at this;exact(G.count q e he).1 this
 have hkl:k<=Es.length:=by
  have h1:k<Cs.length:=by
   rcases b7 k Cs.length with h|h
   .exact h
   .have:=G.state;rw[d9 h]at this;cases this
  have:=C.lens.1;omega
 have hjk:je<=k:=by
  rcases b7 k je with h|h
  .have bi:k<Es.length:=by omega
   have:=hjek k h _ (aV bi);omega
  .exact h
 have ku:(wanted ops r.S r.o=ah∨dG r.o≠ .eff)->∀(q e:Nat),Es[q]?=aa e->((e=r.i∨listed.getD e ah=ae)↔q<k):=by
  intro bn q e he;have:e≠r.i:=by
   intro ee;obtain⟨_,r',h1',h2',h3',h4',h5'⟩:=C.at_eff he;have:r'=r:=jl _ h1' _ jq (by rw[h2',ee])
   subst this;rcases bn with h|h
   .rw[h]at h5';cases h5'
   .exact h h4'
  simp only[this,false_or];exact G.count q e he
 have rt: ∀(q e:Nat),je<=q->q<k->Es[q]?=aa e->lI (ms.getD e 0) r.i=ah:=by
  intro q e _ hqk he;cases hb:lI (ms.getD e 0) r.i with
  |false=>rfl
  |true=>
   obtain⟨_,r',h1',h2',h3',_⟩:=C.at_eff he;have hle:=(G.count q e he).2 hqk;have:=pS D G.closed e r.i r'.o h3' (λe' gb li=>G.closed e r'.o e' h3' hle gb li) hb
   rw[h2]at this;cases this
 have cb:=G.none r.i hio h2;have hltn:base+r.i<s.next:=by have:=G.next;omega
 unfold wpOp;rw[ho];simp only;rw[<-hwant];rcases hR with⟨hw,hv⟩|⟨hw,hk,hv⟩|⟨hw,hk,hv⟩|⟨hw,hk,ob,hv,fi⟩|⟨hw,hk,hEs,s0,H1,s',hCs,hv,hCs',hnx',pz⟩
 .rw[hw];simp only[Bool.false_eq_true,if_false];exact⟨Y,k,s,step _ w Y k s undef rfl (by rw[hv];exact .undef) G.state G.sim G.next (λ_ _ h=>h) (λ_ _ _=>rfl) (ku (.inl hw))⟩
 .rw[hw];simp only[if_true];refine .inl (Oper.wp_mono (λa' w' hL=>?_) (aAe (base+r.i) G.sim hρ hv (Q:=Q)))
  obtain⟨Y',v',cq,fe,hZ,bw,ci,lq⟩:=hL;exact⟨Y',k,s,step a' w' Y' k s v' cq fe G.state hZ G.next bw (λj hj bn=>ci j (by have:=G.next;omega) bn) (ku (.inr (by rw[hk];simp)))⟩
 .rw[hw];simp only[if_true];refine .inl (Oper.wp_mono (λa' w' hL=>?_) (ZS (base+r.i) G.sim hρ (hv k s hjk G.state rt) (Q:=Q)))
  obtain⟨Y',v',cq,fe,hZ,bw,ci,lq⟩:=hL;exact⟨Y',k,s,step a' w' Y' k s v' cq fe G.state hZ G.next bw (λj hj bn=>ci j (by have:=G.next;omega) bn) (ku (.inr (by rw[hk];simp)))⟩
 .rw[hw];simp only[if_true];refine .inl (Oper.wp_mono (λa' w' hL=>?_) (R1 G.sim hρ cb hltn hv (fi k s hjk G.state rt) (Q:=Q)))
  obtain⟨Y',v',cq,fe,hZ,bw,ci,lq⟩:=hL;exact⟨Y',k,s,step a' w' Y' k s v' cq fe G.state hZ G.next bw (λj hj bn=>ci j (by have:=G.next;omega) bn) (ku (.inr (by rw[hk];simp)))⟩
 .rw[hw];simp only[if_true];have hje':je=k:=by
   rcases b7 je k with h|h
   .have:=(G.count je r.i hEs).2 h;rw[h2]at this;cases this
   .omega
  subst hje';have hs0:s0=s:=by have:=G.state;rw[hCs]at this;cases this;rfl
  subst hs0;refine .inl (Oper.wp_mono (λa' w' hL=>?_) (aHT bj G.sim hρ cb hltn hv (Q:=Q)))
  obtain⟨Y',v',cq,fe,hZ,bw,ci,lq⟩:=hL;have tu: ∀r'∈l2,Y' (base+r'.i)=ad:=by
   intro r' ca;obtain⟨m1,m2,e2⟩:=fF ca;obtain⟨q1,q2,q3,q4⟩:=jm (l1:=l1++r::m1) (r:=r') (l2:=m2) (by rw[bg,e2];simp)
   have hb:=q4 r r.o (by simp) ho (by simp[kP,hk])
   have bn:r.i≠r'.i:=q2 r (by simp)
   have kq:listed.getD r'.i ah=ah:=by
    cases hc:listed.getD r'.i ah with
    |false=>rfl
    |true=>
     have hr'm:r'∈rs:=by rw[bg];simp[ca]
     have:=pS D G.closed r'.i r.i r'.o (mg _ hr'm) (λe he li=>G.closed r'.i r'.o e (mg _ hr'm) hc he li) hb
     rw[h2]at this;cases this
   rw[ci (base+r'.i) (by have:=G.next;omega) (by omega)]
   exact G.none r'.i q1 kq
  have gi:Es.Nodup:=C.effs_nodup (by rw[nc];exact EA _ (λl1 i l2 e=>(D.split l1 i l2 e).2.1))
  refine⟨Y',je+1,s',step a' w' Y' (je+1) s' v' cq fe hCs' (pz Y' w' tu hZ) (by have:=G.next;omega) bw (λj hj bn=>ci j (by have:=G.next;omega) bn) (λq e he=>?_)⟩
  constructor
  .rintro(h|h)
   .subst h;have hq:q<Es.length:=(List.getElem?_eq_some_iff.1 he).1;have hj:je<Es.length:=(List.getElem?_eq_some_iff.1 hEs).1;have e1:Es[q]=r.i:=(List.getElem?_eq_some_iff.1 he).2;have e2:Es[je]=r.i:=(List.getElem?_eq_some_iff.1 hEs).2;rcases b7 q je with h'|h'
    .omega
    .rcases Nat.eq_or_lt_of_le h' with h'|h'
     .omega
     .exact absurd (e2.trans e1.symm) (List.pairwise_iff_getElem.1 gi je q hj hq h')
   .have:=(G.count q e he).1 h;omega
  .intro h;rcases b7 q je with h'|h'
   .exact .inr ((G.count q e he).2 h')
   .have:q=je:=by omega
    subst this;rw[hEs]at he;cases he;exact .inl rfl
def aPA(bj:iW w0 P call){order:List Nat}(D:Gi ops ms order){α n0:Nat}(bz: ∀o∈ops.toList,sE P α o=ae){rs:List CW}{Cs:List St}{Es:List Nat}{S0:Slots}{H0:St}{Y0:Mp}(hn0:n0<=base)
    (C:Cert P call ops ms base S' H' rs Cs Es [] S0 H0) (nc:rs.map (·.i)=order) {Q:Exit->Act->World->Prop} (dm:tJ w0 P Y0 n0 α S' H' (Q .normal)):
    ∀(fuel:Nat) (listed:Array Bool) (a:Act) (w:World) (Y:Mp) (k:Nat) (s:St),aWu listed<=fuel->JC w0 P ops base α n0 S0 rs Cs Es Y0 listed a w Y k s->wpAny P .any ops Q fuel listed a w:=by
 obtain⟨fin,step⟩:=T9 bj D bz hn0 C nc dm;intro fuel;induction fuel with
 |zero=>
  intro listed a w Y k s hu G;have dh: ∀i,i<ops.size->listed.getD i ah=ae:=by
   intro i hi;cases hb:listed.getD i ah with
   |true=>rfl
   |false=>
    have h1:listed.getD i ae=ah:=by
     rw[Array.getD_eq_getD_getElem?,Array.getElem?_eq_getElem (by rw[G.size];exact hi)]at hb⊢;simpa using hb
    have:=YW h1;omega
  refine⟨?_,fin listed a w Y k s G dh⟩;cases hr:Region.ready .any ops listed with
  |nil=>rfl
  |cons i l=>
   have hm:i∈Region.ready .any ops listed:=by rw[hr];simp
   obtain⟨h1,o,ho,_⟩:=mem_ready.1 hm;obtain⟨h2,h3⟩:=kH h1;rw[dh i (by rw[<-G.size];exact h3)]at h2;cases h2
 |succ fuel ih=>
  intro listed a w Y k s hu G;refine⟨λhr=>?_,λi hi=>?_⟩
  ·
   refine fin listed a w Y k s G ?_;obtain⟨rk,hrk⟩:=D.edge;have main: ∀(m i:Nat),rk i=m->i<ops.size->listed.getD i ah=ae:=by
    intro m;induction m using Nat.strongRecOn with
    |_ m ihi=>
     intro i hm hi;cases hb:listed.getD i ah with
     |true=>rfl
     |false=>
      exfalso;have h1:listed.getD i ae=ah:=by
       rw[Array.getD_eq_getD_getElem?,Array.getElem?_eq_getElem (by rw[G.size];exact hi)]at hb⊢;simpa using hb
      have ho:ops[i]?=aa ops[i]:=Array.getElem?_eq_getElem hi;have:i∈Region.ready .any ops listed:=mem_ready.2 ⟨h1,ops[i],ho,λe he li=>by
       obtain⟨g1,g2⟩:=hrk i _ e ho he li;exact ihi (rk e.on) (by omega) e.on rfl g2⟩
      rw[hr]at this;cases this
   exact λi hi=>main _ i rfl hi
  .have jz:aWu (listed.setIfInBounds i ae)<=fuel:=by have:=YW (mem_ready.1 hi).1;omega
   exact wpOp_mono (λa' w' ⟨Y',k',s',G'⟩=>ih _ a' w' Y' k' s' jz G') (step listed a w Y k s G i hi)
end
end Go.AI
namespace Go.PI
open Go.AI
section
variable{P:aw}{J J':Nu}{I I1 I':Ga}{H H':St}{S:PS}{A:Slots}
def sR{z:Nat}: ∀(n:Nat) (l:List PV),l.length=n*z->eY (pC z n l)=l/\(pC z n l).length=n/\∀e∈pC z n l,e.cells.length=z/\(l.all PV.pur=ae->e.cells.all PV.pur=ae):=by
 intro n;induction n with
 |zero=>intro l h;simp at h;subst h;exact⟨rfl,rfl,λe he=>by simp[pC]at he⟩
 |succ n ih=>
  intro l h;rw[Nat.succ_mul]at h;obtain⟨h1,h2,h3⟩:=ih (l.drop z) (by simp;omega)
  refine⟨?_,by simp[pC,h2],λe he=>?_⟩
  .simp only[pC,eY,aN,PV.cells];have:List.flatMap PV.cells (pC z n (l.drop z))=l.drop z:=h1;rw[this,List.take_append_drop]
  .simp only[pC,List.mem_cons]at he;rcases he with rfl|he
   .refine⟨by simp[PV.cells];omega,λhp=>?_⟩
    simp only[PV.cells,bJ]at hp⊢;exact λx hx=>hp x (List.mem_of_mem_take hx)
   .refine⟨(h3 e he).1,λhp=>(h3 e he).2 ?_⟩
    rw[bJ]at hp⊢;exact λx hx=>hp x (List.mem_of_mem_drop hx)
def aEk(S:PS)(t:Nat):S.set t (S.at t)=S:=by
 cases S with|mk f=>simp only[PS.set,PS.at,PS.mk.injEq];funext k;rw[dN,Bool.cond_decide];split<;>simp_all
def zY{p p':PSt}(M:Mem J I p H)(F:FR J I H S A){t:Nat}{S':PS}(h:kB p S t=aa (S',p')):
    ∃J',Mem J' I p' H/\FR J' I H S' A/\Adv J I p H J' I p' H:=by
 have kj:S'=S->p'=p->∃J',Mem J' I p' H/\FR J' I H S' A/\Adv J I p H J' I p' H:=by
  rintro rfl rfl;exact⟨J,M,F,.refl J I p' H⟩
 have hF:=F t;unfold kB at h;split at h<;>try cases h
 rename_i rr nj;unfold bF5 at nj;split at nj
 .rename_i id off len b hS;split at nj
  .rename_i z a cs hg;cases hc:an (off+len*z) cs.length&&an 1 z&&(a||am z 1)&&cs.all PV.pur with
   |false=>rw[hc,aJ]at nj;cases nj
   |true=>
    rw[hc,aI]at nj;simp only[aA]at nj;subst nj;simp only[aC]at hc;obtain⟨⟨⟨hc1,hc2⟩,hc3⟩,hc4⟩:=hc;have hlen:=bK hc1;have hl:((cs.drop off).take (len*z)).length=len*z:=by simp;omega
    have hz:=bK hc2;have hid:=iR hg;obtain⟨ai,us,h1,h2,h3,h5,h4⟩:=M.get id _ hg;rw[hS]at hF;have gj:Mon H J (λk=>if k=id then aa ad else J k):=by
     refine⟨λk x hk=>?_,λk a' hk=>?_⟩
     .by_cases e:k=id
      .right;show(if k=id then aa ad else J k)=aa ad;rw[bI e]
      .left;show(if k=id then aa ad else J k)=aa x;rw[bH e];exact hk
     .by_cases e:k=id
      .simp only[e,if_true]at hk;cases hk
      .simp only[e,if_false]at hk;exact .inl hk
    have hkp:Keep J kK H H:= .refl J kK H;have mc:Fz (λk=>if k=id then aa ad else J k) H ai us (eG z):=by
     refine⟨row_of_get h2 rfl,λk hk=>?_⟩
     by_cases e:k=id
     .simp only[e,if_true]at hk;cases hk
     .simp only[e,if_false]at hk;exact e (M.inj k id ai hk h1)
    refine⟨λk=>if k=id then aa ad else J k,⟨λk x hk=>?_,λk a' hk=>?_,λi j a' hi hj=>?_,λk a' hk=>?_,λk o hk=>?_,M.free,M.ver⟩,λk=>?_,⟨.refl J I H,gj,.refl H I,.upd p id .gone,λa cs m h=>⟨cs,m.tip,h⟩,λk a' hk hd=>⟨rfl,by
     have bn:k≠id:=λe=>hd (by subst e;exact K4)
     show(if k=id then aa ad else J k)=_
     rw[bH bn];exact hk⟩⟩⟩
    .show k<p.next
     by_cases e:k=id
     .omega
     .simp only[e,if_false]at hk;exact M.le _ _ hk
    .by_cases e:k=id
     .simp only[e,if_true]at hk;cases hk
     .simp only[e,if_false]at hk;exact M.lt _ _ hk
    .by_cases e:i=id
     .simp only[e,if_true]at hi;cases hi
     .by_cases e':j=id
      .simp only[e',if_true]at hj;cases hj
      .simp only[e,e',if_false]at hi hj;exact M.inj _ _ _ hi hj
    .by_cases e:k=id
     .simp only[e,if_true]at hk;cases hk
     .simp only[e,if_false]at hk;rw[lF hid,bH e];exact M.live _ _ hk
    .rw[lF hid]at hk;by_cases e:k=id
     .simp only[e,if_true,aA]at hk;subst hk;subst e;show(if k=k then aa ad else J k)=aa ad;simp
     .simp only[e,if_false]at hk;exact(M.get k o hk).keep hkp gj (by simp[e]) (λ_ _=>rfl) λi fq hi _=>⟨rfl,hi⟩
    .rw[qJ];by_cases e:k=t
     .subst e;rw[bI rfl];refine⟨?_,λh=>by cases h⟩
      have hr:=hF.1;generalize A.at k=w at hr;cases hr with
      |rs0 _ _ _ c a' hν=>rw[h1]at hν;cases hν
      |rs _ _ _ c a' hν=>
       rw[h1]at hν;simp only[aA]at hν;subst hν;have di:((cs.drop off).take (len*z)).all PV.pur=ae:=by
        rw[bJ]at hc4⊢;exact λx hx=>hc4 x (List.mem_of_mem_drop (List.mem_of_mem_take hx))
       have si: ∀(i:Nat) (x:PV) (u:au),((cs.drop off).take (len*z))[i]?=aa x->us[off+i]?=aa u->R (λk=>if k=id then aa ad else J k) H x u:=by
        intro i x u hx hu;rw[List.getElem?_take]at hx;split at hx
        .rw[List.getElem?_drop]at hx;exact(h4 _ x u hx hu).keep hkp gj
        .cases hx
       cases a with
       |true=>
        obtain⟨k1,k2,k3⟩:=sR (z:=z) len _ hl;simp only[aI];have:=R.sl (J:=λk=>if k=id then aa ad else J k) (H:=H) z (pC z len ((cs.drop off).take (len*z))) ai off c us (eG z) hz (λe he=>⟨(k3 e he).1,(k3 e he).2 di⟩) mc rfl (by rw[k2,h3];exact hlen) (by rw[k1];exact si)
        rw[k2]at this;have h6:=KV (es:=pC z len ((cs.drop off).take (len*z))) (by rw[k2];exact this)
        rw[k2]at h6;exact h6
       |false=>
        simp only[Bool.false_or]at hc3;have hz1:=aE hc3;subst hz1;simp only[aJ];rw[Nat.mul_one]at hl si hlen di⊢;have ki: ∀l:List PV,l.all PV.pur=ae->eY l=l:=by
         intro l;induction l with
         |nil=>intro _;rfl
         |cons x l ih=>
          intro hp;simp only[aP,aC]at hp;have:=ih hp.2;simp only[eY,aN]at this⊢;rw[this,B8 (Dq hp.1)];rfl
        have:=R.sl (J:=λk=>if k=id then aa ad else J k) (H:=H) 1 ((cs.drop off).take len) ai off c us (eG 1) hz (λe he=>by
         have:=(bJ.1 di) e he;rw[B8 (Dq this)];exact⟨rfl,by simpa using this⟩) mc rfl (by rw[hl,h3];omega) (by rw[ki _ di];exact si)
        have h6:=KV this;rw[hl]at h6;exact h6
     .rw[bH e];exact⟨(F k).1.keep hkp gj,λhb=>((F k).2 hb).keep hkp gj λi hi _=>⟨rfl,hi⟩⟩
  .cases nj
 .simp only[aA]at nj;subst nj;exact kj (aEk S t) rfl
def rY(F:FR J I H S A){ops:Array Oper}{o:Oper}{b:Bool}(h:mO ops S o=aa b):wanted ops A o=b:=by
 unfold mO at h;unfold wanted;split at h
 .simp only[aA]at h;subst h;rename_i e;rw[e]
 .rename_i j want e;rw[e];simp only;cases hd:ops[j]?.bind (·.dst)with
  |none=>rw[hd]at h;simp at h
  |some d=>
   rw[hd]at h;simp only[aK]at h;split at h
   .rename_i b' hb;simp only[aA]at h hb;subst h;have:=(F d).1;rw[hb]at this;simp only[aK];generalize A.at d=w at this;cases this;rfl
   .rename_i hb;simp only[aA]at h hb;subst h;have:=(F d).1;rw[hb]at this;simp only[aK];obtain⟨us,hu,hl⟩:=this.tup_inv;rw[hu]
   .cases h
def ZG{pc:jB}{ac:FuncId->Array au->St->Option (au×St)}(bj:oL pc ac){p p':PSt}{base i:Nat}(M:Mem J I p H)(F:FR J I H S A)(hf:H.get (base+i)=ad)(bi:base+i<H.next)
    {o:Oper} (ho:o.op.operands.all (cG P)=ae) {sq take own:Bool} {v:PV} {S':PS} (h:HQ P pc sq o take S p=aa (v,own,S',p')):
    ∃u H' J' I',lL P ac base i o A H=aa (u,H')/\R J' H' v u/\Mem J' I' p' H'/\FR J' I' H' (S'.put o.dst v own) (A.store o.dst u)/\Adv J I p H J' I' p' H'/\
      (∀j,j<H.next->j≠base+i->H.get j=ad->H'.get j=ad):=by
 obtain⟨u,H',J',I',h1,h2,h3,h4,h5,h6,h7⟩:=a2u bj M F hf bi ho h;obtain⟨I'',F'',g⟩:=h4.put h2 h5 o.dst;exact⟨u,H',J',I'',h1,h2,h3.g2 g,F'',h6.trans (.g g.out),h7⟩
def ZH{p:PSt}(M:Mem J I p H)(F:FR J I H S A)(d:Option Tmp): ∃I',Mem J I' p H/\FR J I' H (S.put d (.tup []) ah) (A.store d undef)/\Adv J I p H J I' p H:=by
 obtain⟨I',F',g⟩:=F.put (v:= .tup []) (u:=undef) (own:=ah) (.tup [] #[] rfl (λi x u h=>by simp at h)) (λh=>by cases h) d
 exact⟨I',M.g2 g,F',.g g.out⟩
def gF:List Bw->List Nat
 |[]=>[]
 | .op i _::r=>i::gF r
 | .app a i s::r=>a::i::s::gF r
 | .freeze _::r=>gF r
def aN6{pc:jB}{ac:FuncId->Array au->St->Option (au×St)}(bj:oL pc ac){ops:Array Oper}{base:Nat}(dq: ∀o∈ops.toList,o.op.operands.all (cG P)=ae):
    ∀(sc:List Bw) (i:Nat) (J:Nu) (I:Ga) (S:PS) (p:PSt) (A:Slots) (H:St) (S':PS) (p':PSt),gF sc=List.range' i (ops.size-i)->i<=ops.size->base+ops.size<=H.next->
      (∀j,i<=j->j<ops.size->H.get (base+j)=ad)->Mem J I p H->FR J I H S A->yO P pc ops sc S p=aa (S',p')->
      ∃A' H' J' I',fA P ac ops base (ops.toList.drop i) i A H=aa (A',H')/\Mem J' I' p' H'/\FR J' I' H' S' A'/\Adv J I p H J' I' p' H'/\(∀j,j<base->H.get j=ad->H'.get j=ad):=by
 intro sc;induction sc with
 |nil=>
  intro i J I S p A H S' p' dw hi hb cj M F h;simp only[gF]at dw;have:ops.size-i=0:=by
   cases hh:ops.size-i with
   |zero=>rfl
   |succ n=>rw[hh]at dw;simp[List.range']at dw
  simp only[yO,aA,aB]at h;obtain⟨rfl,rfl⟩:=h;rw[List.drop_eq_nil_of_le (by simp;omega)]
  exact⟨A,H,J,I,rfl,M,F,.refl J I p H,λj _ hj=>hj⟩
 |cons s sc ih=>
  intro i J I S p A H S' p' dw hi hb cj M F h;cases s with
  |freeze t=>
   simp only[yO]at h;split at h
   .rename_i S1 p1 h1;obtain⟨J1,M1,F1,A1⟩:=zY M F h1;obtain⟨A',H',J',I',k1,k2,k3,k4,k5⟩:=ih i J1 I S1 p1 A H S' p' dw hi hb cj M1 F1 h;exact⟨A',H',J',I',k1,k2,k3,A1.trans k4,k5⟩
   .cases h
  |app a k s=>
   simp only[gF]at dw;have hn3:i+2<ops.size:=by
    have:=congrArg List.length dw;simp only[aM,List.length_range']at this;omega
   rw[show ops.size-i=(ops.size-(i+3))+1+1+1 by omega,List.range'_succ,List.range'_succ,List.range'_succ]at dw
   simp only[List.cons.injEq]at dw;obtain⟨rfl,rfl,rfl,dw⟩:=dw;simp only[yO]at h;have hopA:ops[a]?=aa ops[a]:=Array.getElem?_eq_getElem (by omega)
   have hopI:ops[a+1]?=aa ops[a+1]:=Array.getElem?_eq_getElem (by omega)
   have hopS:ops[a+1+1]?=aa ops[a+1+1]:=Array.getElem?_eq_getElem (by omega)
   rw[hopA,hopI,hopS]at h;simp only at h;split at h
   .rename_i S1 h1;obtain⟨u1,u2,H1,H2,I2,q1,q2,q3,q4,q5,q6,q7,q8,q9,q10,q11,M2,F2,A2,_,_,q12,q13⟩:=QI (ac:=ac) (base:=base) (iA:=a) (iI:=a+1) (iS:=a+1+1) M F (cj a (aS _) (by omega)) (by omega) (dq _ (by simp)) (dq _ (by simp)) (dq _ (by simp)) h1
    have gc:ops.toList.drop a=ops[a]::ops[a+1]::ops[a+1+1]::ops.toList.drop (a+1+1+1):=by
     rw[List.drop_eq_getElem_cons (by simp;omega),List.drop_eq_getElem_cons (by simp;omega),List.drop_eq_getElem_cons (by simp;omega)];simp
    rw[gc];obtain⟨A',H',J',I',j1,j2,j3,j4,j5⟩:=ih (a+1+1+1) J I2 _ p _ H2 S' p' (by simpa using dw) (by omega) (Nat.le_trans hb A2.keep.next) (λj hj qf=>(q13 _ (by omega) (cj j (by omega) qf)).2) M2 F2 h
    refine⟨A',H',J',I',?_,j2,j3,A2.trans j4,λj hj hn=>j5 j hj (q13 j (by omega) hn).2⟩
    have hw: ∀{o:Oper} {A0:Slots},o.guard=ad->wanted ops A0 o=ae:=λhg=>by simp only[wanted,hg]
    simp only[fA,hw q7,hw q8,hw q9,aI,lL,q4,q5,q6,q1,sY,q2,aK];simp only[q3];rw[q10];exact j1
   .cases h
  |op k take=>
   simp only[gF]at dw;have bi:i<ops.size:=by
    rcases b7 i ops.size with h'|h'
    .exact h'
    .rw[show ops.size-i=0 by omega]at dw;simp at dw
   rw[show ops.size-i=(ops.size-(i+1))+1 by omega,List.range'_succ]at dw
   simp only[List.cons.injEq]at dw;obtain⟨rfl,dw⟩:=dw;simp only[yO]at h;have mh:ops[k]?=aa ops[k]:=Array.getElem?_eq_getElem bi;rw[mh]at h;simp only at h;have gc:ops.toList.drop k=ops[k]::ops.toList.drop (k+1):=by
    rw[List.drop_eq_getElem_cons (by simpa using bi)];simp
   rw[gc];simp only[fA];split at h
   .rename_i hw;rw[rY F hw,aI];split at h
    .rename_i v own S1 p1 h1;obtain⟨u,H1,J1,I1,k1,k2,k3,k4,k5,k6⟩:=ZG bj M F (cj k (aS _) bi) (by omega) (dq _ (by simp)) h1
     simp only[k1];obtain⟨A',H',J',I',j1,j2,j3,j4,j5⟩:=ih (k+1) J1 I1 _ p1 _ H1 S' p' dw bi (Nat.le_trans hb k5.keep.next) (λj hj qf=>k6 _ (by omega) (by omega) (cj j (by omega) qf)) k3 k4 h
     exact⟨A',H',J',I',j1,j2,j3,k5.trans j4,λj hj hn=>j5 j hj (k6 j (by omega) (by omega) hn)⟩
    .cases h
   .rename_i hw;rw[rY F hw,aJ];obtain⟨I1,M1,F1,A1⟩:=ZH M F ops[k].dst;obtain⟨A',H',J',I',j1,j2,j3,j4,j5⟩:=ih (k+1) J I1 _ p _ H S' p' dw bi hb (λj hj qf=>cj j (by omega) qf) M1 F1 h
    exact⟨A',H',J',I',j1,j2,j3,A1.trans j4,j5⟩
   .cases h
end
end Go.PI
namespace Go.AI
section
variable{w0:W0}{P:aw}{call:FuncId->Array au->St->Option (au×St)}
def aCq(bj:iW w0 P call)(du:P.toTables.follows .mixedOrders=ae){α id:Nat}{ops:Array Oper}{draw:Bool}{S S':Slots}{H H':St}{a:Act}{w:World}{Y:Mp}{Q:Exit->Act->World->Prop}
    (h:iN P call ops draw S H=aa (S',H')) (bz:fH P α (.region id ops draw)=ae) (A:AR Y S α a) (ρ:Sim w0 P Y H w) (dm:tJ w0 P Y H.next α S' H' (Q .normal)):
    (Code.region id ops draw).wp P Q a w:=by
 simp only[fH,aC,bJ,b9,Bool.not_eq_true']at bz;obtain⟨dq,hdr⟩:=bz;unfold iN at h;have cb: ∀j,Y (H.next+j)=ad:=λj=>ρ.dom _ (by omega)
 cases draw with
 |false=>
  simp only[aJ]at h;refine wp_region ?_;rw[List.range_eq_range'];have:=aCo (Q:=Q) (w0:=w0) bj (ops:=ops) (base:=H.next) (α:=α) (n0:=H.next) (aS _) dq ops.toList 0 S S' {H with next:=H.next+ops.size} H' a w Y Y (by simp) (by simp) A (ρ.next (Nat.le_add_right _ _))
   (Ext.refl _ _) (aS _) (λj _ _=>cb j) h dm
  simpa using this
 |true=>
  simp only[aI]at h;have hD:=hdr.resolve_left (by simp)
  have ρ':Sim w0 P Y {H with next:=H.next+ops.size} {w with drawn:=w.drawn+1}:=(ρ.next (Nat.le_add_right _ _)).drawn _
  have su: ∀i,(Array.replicate ops.size ah).getD i ah=ah:=λi=>by
   rw[Array.getD_eq_getD_getElem?];by_cases hi:i<ops.size
   .simp[hi]
   .simp[hi]
  have hunl:aWu (Array.replicate ops.size ah)<=ops.size:=by
   unfold aWu;simp only[Array.toList_replicate];exact Nat.le_trans (List.length_filter_le _ _) (by simp)
  unfold Ds at hD;cases ht:aB9 ops with
  |none=>
   rw[ht]at hD;simp only at hD;have h':gU P call ops (gG ops.toList []) H.next (zI ops (gG ops.toList [])) [] S {H with next:=H.next+ops.size}=aa (S',H'):=by
    cases hr:gU P call ops (gG ops.toList []) H.next (zI ops (gG ops.toList [])) [] S {H with next:=H.next+ops.size}with
    |none=>rw[hr]at h;cases h
    |some r=>
     rw[hr]at h;simp only[aHE,aOB,ht,aI]at h;exact h
   obtain⟨rs,Cs,Es,nc,C⟩:=RJ _ _ _ _ h';obtain⟨s,hs0,hsn,pz⟩:=C.first (w0:=w0)
   refine wp_region_any du (aPA bj (a6y hD) dq (aS _) C nc dm ops.size (Array.replicate ops.size ah) a _ Y 0 s hunl ?_);refine⟨by simp,λi o e _ hl=>?_,λq e _=>?_,hs0,pz Y _ (λr _=>cb r.i) ρ',?_,λi _ _=>cb i,Ext.refl _ _,A.size,A.defers,λr _ hl=>?_,λx _=>A.slot x⟩
   .rw[su]at hl;cases hl
   .rw[su];simp
   .rw[hsn];exact aS _
   .rw[su]at hl;cases hl
  |some ab=>rw[ht]at hD;simp at hD
def Fl.out:Fl->Exit
 | .normal=> .normal
 | .exit n=> .exit n
 | .ret=> .ret
def Post(w0:W0)(P:aw)(Y:Mp)(n α:Nat)(S':Slots)(H':St)(K:Act->World->Prop):Prop:=
 ∀a' w' Y',AR Y' S' α a'->Sim w0 P Y' H' w'->Ext n Y Y'->n<=H'.next->K a' w'
def Post.later{Y Y':Mp}{n n' α:Nat}{S':Slots}{H':St}{K:Act->World->Prop}(h:Post w0 P Y n α S' H' K)(hE:Ext n Y Y')(hn:n<=n'):Post w0 P Y' n' α S' H' K:=
 λa' w' Y'' A ρ E hl=>h a' w' Y'' A ρ (hE.trans E hn) (by omega)
def aAP(bj:iW w0 P call)(du:P.toTables.follows .mixedOrders=ae)(L α:Nat): ∀(c:Code) (S:Slots) (H:St) (fl:Fl) (S':Slots) (H':St) (a:Act) (w:World) (Y:Mp) (Q:Exit->Act->World->Prop),
    cM P call L c S H=aa (fl,S',H')->fH P α c=ae->AR Y S α a->Sim w0 P Y H w->Post w0 P Y H.next α S' H' (Q fl.out)->c.wp P Q a w:=by
 intro c;induction c with
 |skip=>
  intro S H fl S' H' a w Y Q h _ A ρ hp;simp only[cM,aA,aB]at h;obtain⟨rfl,rfl,rfl⟩:=h;exact wp_skip (hp a w Y A ρ (Ext.refl _ _) (aS _))
 |label l=>
  intro S H fl S' H' a w Y Q h _ A ρ hp;simp only[cM,aA,aB]at h;obtain⟨rfl,rfl,rfl⟩:=h;exact wp_label (hp a w Y A ρ (Ext.refl _ _) (aS _))
 |region id ops draw=>
  intro S H fl S' H' a w Y Q h bz A ρ hp;simp only[cM,aF]at h;obtain⟨⟨S1,H1⟩,h,e⟩:=h;cases e;exact aCq bj du h bz A ρ hp
 |seq x y mo pu=>
  intro S H fl S' H' a w Y Q h bz A ρ hp;simp only[fH,aC]at bz;simp only[cM]at h;refine wp_seq ?_;cases hx:cM P call L x S H with
  |none=>simp[hx]at h
  |some r=>
   obtain⟨f1,S1,H1⟩:=r;simp only[hx]at h;cases f1 with
   |normal=>
    simp only at h;exact mo S H .normal S1 H1 a w Y _ hx bz.1 A ρ (λa' w' Y' A' ρ' E hn=>pu S1 H1 fl S' H' a' w' Y' Q h bz.2 A' ρ' (hp.later E hn))
   |exit n=>
    simp only[aA,aB]at h;obtain⟨rfl,rfl,rfl⟩:=h;exact mo S H (.exit n) S1 H1 a w Y _ hx bz.1 A ρ hp
   |ret=>
    simp only[aA,aB]at h;obtain⟨rfl,rfl,rfl⟩:=h;exact mo S H .ret S1 H1 a w Y _ hx bz.1 A ρ hp
 |cond c x y mo pu=>
  intro S H fl S' H' a w Y Q h bz A ρ hp;simp only[fH,aC]at bz;simp only[cM]at h;have hv:=Rv A ρ bz.1.1;split at h<;>try cases h
  .rename_i hc;rw[hc]at hv;exact wp_cond_true hv.bool_inv (mo S H fl S' H' a w Y Q h bz.1.2 A ρ hp)
  .rename_i hc;rw[hc]at hv;exact wp_cond_false hv.bool_inv (pu S H fl S' H' a w Y Q h bz.2 A ρ hp)
 |block id c ih=>
  intro S H fl S' H' a w Y Q h bz A ρ hp;simp only[fH]at bz;simp only[cM]at h;refine wp_block ?_;cases hx:cM P call L c S H with
  |none=>simp[hx]at h
  |some r=>
   obtain⟨f1,S1,H1⟩:=r;simp only[hx]at h;cases f1 with
   |normal=>
    simp only[aA,aB]at h;obtain⟨rfl,rfl,rfl⟩:=h;exact ih S H .normal S1 H1 a w Y _ hx bz A ρ hp
   |ret=>
    simp only[aA,aB]at h;obtain⟨rfl,rfl,rfl⟩:=h;exact ih S H .ret S1 H1 a w Y _ hx bz A ρ hp
   |exit n=>
    simp only[dN,Bool.cond_decide]at h;split at h
    .rename_i hn;simp only[aA,aB]at h;obtain⟨rfl,rfl,rfl⟩:=h;exact ih S H (.exit n) S1 H1 a w Y _ hx bz A ρ (λa' w' Y' A' ρ' E hl=>by
      show Exit.inBlock id Q (.exit n) a' w';simp only[Exit.inBlock,bI hn];exact hp a' w' Y' A' ρ' E hl)
    .rename_i hn;simp only[aA,aB]at h;obtain⟨rfl,rfl,rfl⟩:=h;exact ih S H (.exit n) S1 H1 a w Y _ hx bz A ρ (λa' w' Y' A' ρ' E hl=>by
      show Exit.inBlock id Q (.exit n) a' w';simp only[Exit.inBlock,bH hn];exact hp a' w' Y' A' ρ' E hl)
 |loop c ih=>
  intro S H fl S' H' a w Y Q h bz A ρ hp;simp only[fH]at bz;simp only[cM]at h;refine wp_loop_rounds L ?_;have main: ∀(n:Nat) (S:Slots) (H:St) (a:Act) (w:World) (Y:Mp),TN (λS H=>cM P call L c S H) n S H=aa (fl,S',H')->AR Y S α a->Sim w0 P Y H w->Post w0 P Y H.next α S' H' (Q fl.out)->Code.rounds P c Q n a w:=by
   intro n;induction n with
   |zero=>intro S H a w Y h;simp[TN]at h
   |succ n ihn=>
    intro S H a w Y h A ρ hp;rw[rounds_succ];simp only[TN]at h;cases hx:cM P call L c S H with
    |none=>simp[hx]at h
    |some r=>
     obtain⟨f1,S1,H1⟩:=r;simp only[hx]at h;cases f1 with
     |normal=>
      simp only at h;exact ih S H .normal S1 H1 a w Y _ hx bz A ρ (λa' w' Y' A' ρ' E hl=>ihn S1 H1 a' w' Y' h A' ρ' (hp.later E hl))
     |exit n=>
      simp only[aA,aB]at h;obtain⟨rfl,rfl,rfl⟩:=h;exact ih S H (.exit n) S1 H1 a w Y _ hx bz A ρ hp
     |ret=>
      simp only[aA,aB]at h;obtain⟨rfl,rfl,rfl⟩:=h;exact ih S H .ret S1 H1 a w Y _ hx bz A ρ hp
  exact main L S H a w Y h A ρ hp
 |exit n=>
  intro S H fl S' H' a w Y Q h _ A ρ hp;simp only[cM,aA,aB]at h;obtain⟨rfl,rfl,rfl⟩:=h;exact wp_exit (hp a w Y A ρ (Ext.refl _ _) (aS _))
 |ret=>
  intro S H fl S' H' a w Y Q h _ A ρ hp;simp only[cM,aA,aB]at h;obtain⟨rfl,rfl,rfl⟩:=h;exact wp_ret (hp a w Y A ρ (Ext.refl _ _) (aS _))
 |scope c ih=>
  intro S H fl S' H' a w Y Q h bz A ρ hp;simp only[fH]at bz;simp only[cM]at h;refine wp_scope_straight (ih S H fl S' H' a w Y _ h bz A ρ ?_);cases fl<;>exact hp
 |goto l=>intro S H fl S' H' a w Y Q h;simp[cM]at h
 |refuse s=>intro S H fl S' H' a w Y Q h;simp[cM]at h
 |rangeFunc x ts c d _ _=>intro S H fl S' H' a w Y Q h;simp[cM]at h
def E9: ∀(l:List au) (i:Nat) (S:Slots) (k:Nat),(mC l i S).at k=if i<=k/\k<i+l.length then(l[k-i]?).getD undef else S.at k:=by
 intro l;induction l with
 |nil=>intro i S k;rw[mC,bH (by simp)]
 |cons v l ih=>
  intro i S k;rw[mC,ih];simp only[aM];by_cases h1:i+1<=k/\k<i+1+l.length
  .rw[bI h1,bI (by omega),show k-i=(k-(i+1))+1 by omega];simp
  .rw[bH h1];by_cases h2:k=i
   .subst h2;rw[bI (by omega)]
    simp[Slots.at,Tr.get_set]
   .rw[bH (by omega)]
    simp[Slots.at,Tr.get_set,h2]
def aCp{S:Slots}{α:Nat}{a:Act}{H:St}{w:World}{Y:Mp}(A:AR Y S α a)(ρ:Sim w0 P Y H w){r:ResultVar}{v:au}(h:BG P S H r=aa v):
    ∃v',(match r with| .tmp t=>(pure (a.tmps.getD t undef):Sem au)| .cell x t=>do loadVar t (<-asAddr (a.tmps.getD x undef))).run P w= .ok v' w/\VR Y v v':=by
 cases r with
 |tmp t=>simp only[BG,aA]at h;subst h;exact⟨_,rfl,A.slot t⟩
 |cell x t=>
  simp only[BG]at h;have hx:=A.slot x;obtain⟨v',h1,h2⟩:=R0 ρ hx h;refine⟨v',?_,h2⟩;unfold kT at h;split at h<;>try cases h
  rename_i id off hS;rw[hS]at hx;obtain⟨p,hp,hu⟩:=hx.ptr_inv;rw[hu]at h1;simp only;rw[hu];simpa [Instr.loadAt,Instr.sureAddr,asAddr]using h1
def SX{S:Slots}{α:Nat}{a:Act}{H:St}{w:World}{Y:Mp}(A:AR Y S α a)(ρ:Sim w0 P Y H w): ∀(l:List ResultVar) (vs:List au),gJ P S H l=aa vs->
    ∃us,(l.mapM (λ(r:ResultVar)=>(match r with| .tmp t=>(pure (a.tmps.getD t undef):Sem au)| .cell x t=>do loadVar t (<-asAddr (a.tmps.getD x undef))))).run P w= .ok us w/\VRL Y vs us:=by
 intro l;induction l with
 |nil=>intro vs h;simp only[gJ,aA]at h;subst h;exact⟨[],rfl,.nil⟩
 |cons r l ih=>
  intro vs h;simp only[gJ]at h;split at h<;>try cases h
  rename_i v pe hv jy;obtain⟨u,h1,h2⟩:=aCp A ρ hv;obtain⟨us,h3,h4⟩:=ih pe jy;refine⟨u::us,?_,.cons h2 h4⟩;rw[List.mapM_cons];simp only[Sem.run_bind,h1,Result.andThen_ok,h3,Sem.run_pure]
def aDi{fn:Func}{S:Slots}{α:Nat}{a:Act}{H:St}{w:World}{Y:Mp}(A:AR Y S α a)(ρ:Sim w0 P Y H w){vs:List au}(h:gJ P S H fn.results.toList=aa vs):
    ∃v',(results fn a.tmps).run P w= .ok v' w/\VR Y (Cb vs) v':=by
 obtain⟨us,h1,h2⟩:=SX A ρ _ _ h;unfold results;rw[Array.mapM_eq_mapM_toList];simp only[Sem.run_bind,Sem.run_map];have h1':(List.mapM (λ(r:ResultVar)=>(match r with| .tmp t=>(pure (a.tmps.getD t undef):Sem au)| .cell x t=>do let __do_lift<-asAddr (a.tmps.getD x undef);loadVar t __do_lift)) fn.results.toList).run P w= .ok us w:=h1
 erw[h1'];simp only[Result.andThen_ok,Sem.run_pure];refine⟨_,rfl,?_⟩
 match vs,us,h2 with
 |[],us,h2=>rw[h2.nil_inv];exact .mkTuple .nil
 |[v],us,h2=>
  obtain⟨u,jg,rfl,h3,h4⟩:=h2.cons_inv;rw[h4.nil_inv];exact h3
 |v1::v2::vs,us,h2=>
  have hl:=h2.1;rw[dif_neg (by simp only[List.size_toArray,<-hl,aM];omega)]
  exact .mkTuple h2
end
end Go.AI
namespace Go.AI
section
variable{w0:W0}{P:aw}{call:FuncId->Array au->St->Option (au×St)}
def Kept.trans{a b c:World}(h:Kept a b)(k:Kept b c):Kept a c:=by
 refine⟨k.os.trans h.os,k.output.trans h.output,Nat.le_trans h.size k.size,λi hi=>?_⟩
 have:=h.size;rw[k.old i (by omega),h.old i hi]
def xB{w:World}{b:Nat}{o:Obj}(h:w.heap[b]?=aa o):b<w.heap.size:=by
 by_cases hb:b<w.heap.size
 .exact hb
 .rw[Array.getElem?_eq_none (by omega)]at h;cases h
def Sim.keep{Y:Mp}{H:St}{w w':World}(S:Sim w0 P Y H w)(K:Kept w w'):Sim w0 P Y H w':=by
 refine⟨⟨S.kept.toKept.trans K,λk o hk=>⟨by have h1:=(S.kept.oth k o hk).1;rw[K.old k (xB h1)];exact h1,(S.kept.oth k o hk).2⟩,λid p h=>Nat.lt_of_lt_of_le (S.kept.bnd id p h) K.size⟩,S.dom,S.glob,λid p cs m h1 h2 h3=>?_,λid p es h1 h2=>?_,S.off,S.tip,S.maps,S.vers,S.lim⟩
 .obtain⟨⟨C,t,fr,r1,r2,r3⟩,r4,r5,r6,r7⟩:=S.row id p cs m h1 h2 h3;exact⟨⟨C,t,fr,by rw[K.old _ (xB r1)];exact r1,r2,r3⟩,r4,r5,r6,λhw C1 t1 fr1 e1=>r7 hw C1 t1 fr1 (by rw[<-K.old _ (xB r1)];exact e1)⟩
 .obtain⟨⟨ES,clock,r1,r2⟩,r3⟩:=S.map id p es h1 h2;exact⟨⟨ES,clock,by rw[K.old _ (xB r1)];exact r1,r2⟩,r3⟩
structure DD where
 n:Nat
 s:Int->Int->Option (List UInt8)
 m:Nat
 w:Option (Nat×Nat)
inductive OV where
 |s (l:List UInt8)
 |t
def OV.v:OV->au
 | .s l=> .string ⟨l.toArray⟩
 | .t=> .bool ae
def bC4(O:DD)(f:FuncId)(args:Array au):Option au:=
 bif am f O.n then(match args.toList with
 |[.int .i64 a,.int .i64 b]=>((O.s a b).map OV.s).map OV.v
 |_=>ad)else bif am f O.m then(match args.toList with
 |[]=>aa (.bool ae)
 |_=>ad)else ad
def aSY:uJ:={eG 1 with wr:=ah}
def bIp(O:DD)(f:FuncId)(args:Array au)(H:St):Option (au×St):=match O.w with
 |none=>ad
 |some (g,k)=>bif am f g then(match args.toList with
  |[.int .u32 n]=>bif aj (n=0)then aa (.slice (aa ⟨H.next,0,ad⟩) k (k+1),({H with next:=H.next+1}:St).put H.next (.cells [] aSY))else ad
  |_=>ad)else ad
def Sim.opq{Y:Mp}{H:St}{w:World}(S:Sim w0 P Y H w){p:Place}{C:Array au}{t:av}{fr:Nat×Nat}(hb:w.heap[p.b]?=aa (.cells C t fr))(ho: ∀k o,w0.O k=aa o->p.b≠k)(hz:p.z=1):
    Sim w0 P (upd Y H.next p) (({H with next:=H.next+1}:St).put H.next (.cells [] aSY)) w:=by
 have hid:Y H.next=ad:=S.dom _ (aS _)
 have bg: ∀{k q},upd Y H.next p k=aa q->(k=H.next/\q=p)∨(k≠H.next/\Y k=aa q):=by
  intro k q hk;by_cases e:k=H.next
  .subst e;rw[kV]at hk;cases hk;exact .inl ⟨rfl,rfl⟩
  .rw[jD e]at hk;exact .inr ⟨e,hk⟩
 have js:(({H with next:=H.next+1}:St).put H.next (.cells [] aSY)).get H.next=aa (.cells [] aSY):=by rw[St.get_put,bI rfl]
 have hold: ∀{k},k≠H.next->(({H with next:=H.next+1}:St).put H.next (.cells [] aSY)).get k=H.get k:=by
  intro k hk;rw[St.get_put,bH hk];rfl
 have bf: ∀m,(({H with next:=H.next+1}:St).put H.next (.cells [] aSY)).good m=H.good m:=λ_=>rfl
 have bw:=mM p hid;have qv: ∀{cs m},(({H with next:=H.next+1}:St).put H.next (.cells [] aSY)).get H.next=aa (.cells cs m)->cs=[]/\m=aSY:=by
  intro cs m h;rw[js]at h;cases h;exact⟨rfl,rfl⟩
 refine⟨S.kept.upd ho (xB hb),λid hi=>?_,λg hg=>?_,?_,?_,?_,?_,?_,?_,?_⟩
 .have:H.next+1<=id:=hi
  rw[jD (by omega)];exact S.dom id (by omega)
 .obtain⟨q,h1,h2⟩:=S.glob g hg;exact⟨q,bw _ _ h1,h2⟩
 .intro k q cs m hq hg hm;rcases bg hq with⟨rfl,rfl⟩|⟨hk,fx⟩
  .obtain⟨rfl,rfl⟩:=qv hg;exact⟨⟨C,t,fr,hb,(λi v h=>by simp at h),(λh=>by cases h)⟩,(λh=>by cases h),(λh=>by cases h),hz,λh=>by cases h⟩
  .rw[hold hk]at hg;rw[bf]at hm;obtain⟨⟨C',t',fr',r1,r2,r3⟩,r4,r5,r6,r7⟩:=S.row k q cs m fx hg hm;exact⟨⟨C',t',fr',r1,λi v h=>by obtain⟨u,h1,h2⟩:=r2 i v h;exact⟨u,h1,h2.mono' bw⟩,r3⟩,r4,r5,r6,r7⟩
 .intro k q es hq hg;rcases bg hq with⟨rfl,rfl⟩|⟨hk,fx⟩
  .rw[js]at hg;cases hg
  .rw[hold hk]at hg;obtain⟨⟨ES,cl,r1,r2,r3⟩,r4⟩:=S.map k q es fx hg;exact⟨⟨ES,cl,r1,r2.mono' bw,r3.mono' bw⟩,r4⟩
 .intro i j q r cs ds m n bv hq hr hg bm hm hn hw hs;rcases bg hq with⟨rfl,rfl⟩|⟨hi,fx⟩
  .obtain⟨rfl,rfl⟩:=qv hg;cases hw
  .rcases bg hr with⟨rfl,rfl⟩|⟨hj,ca⟩
   .obtain⟨rfl,rfl⟩:=qv bm;exact λ_ x _ _ h3 h4=>by simp at h4;omega
   .rw[hold hi]at hg;rw[hold hj]at bm;exact S.off i j q r cs ds m n bv fx ca hg bm hm hn hw hs
 .intro i j q r cs ds m n bv hq hr hg bm hm hn hw;rcases bg hq with⟨rfl,rfl⟩|⟨hi,fx⟩
  .obtain⟨rfl,rfl⟩:=qv hg;cases hw
  .rcases bg hr with⟨rfl,rfl⟩|⟨hj,ca⟩
   .obtain⟨rfl,rfl⟩:=qv bm;exact⟨λ_ x _ _ h3 h4=>by simp at h4;omega,λh=>by cases h⟩
   .rw[hold hi]at hg;rw[hold hj]at bm;exact S.tip i j q r cs ds m n bv fx ca hg bm hm hn hw
 .intro i j q r es fs bv hq hr hg bm;rcases bg hq with⟨rfl,rfl⟩|⟨hi,fx⟩
  .rw[js]at hg;cases hg
  .rcases bg hr with⟨rfl,rfl⟩|⟨hj,ca⟩
   .rw[js]at bm;cases bm
   .rw[hold hi]at hg;rw[hold hj]at bm;exact S.maps i j q r es fs bv fx ca hg bm
 .intro k cs m g v hg gm;by_cases hk:k=H.next
  .subst hk;obtain⟨rfl,rfl⟩:=qv hg;cases gm
  .rw[hold hk]at hg;exact S.vers k cs m g v hg gm
 .intro i j q r cs ds m n bv hq hr hg bm hm hn hw;rcases bg hq with⟨rfl,rfl⟩|⟨hi,fx⟩
  .obtain⟨rfl,rfl⟩:=qv hg;cases hw
  .rcases bg hr with⟨rfl,rfl⟩|⟨hj,ca⟩
   .obtain⟨rfl,rfl⟩:=qv bm;exact λ_ x _ _ h3 h4=>by simp at h4;omega
   .rw[hold hi]at hg;rw[hold hj]at bm;exact S.lim i j q r cs ds m n bv fx ca hg bm hm hn hw
def Ca(P:aw)(f:FuncId)(n:Nat):Bool:=match P.funcs[f]? with
 |some fn=>am (fn.params.size+fn.nfree) n
 |none=>ah
def eO(P:aw)(fn:Func):Option (Fl×Slots×St)->Option (au×St)
 |some (.exit _,_,_)=>ad
 |some (_,S,H')=>(gJ P S H' fn.results.toList).map λvs=>(Cb vs,H')
 |none=>ad
def vZ(P C:aw)(O:DD)(L:Nat):Nat->FuncId->Array au->St->Option (au×St)
 |0,_,_,_=>ad
 |n+1,f,args,H=>match bC4 O f args with
  |some v=>aa (v,H)
  |none=>match bIp O f args H with
   |some x=>aa x
   |none=>bif Ca P f args.size then(match C.funcs[f]? with
    |some fn=>match fn.body with
     |some c=>eO P fn (cM P (vZ P C O L n) L c (mC args.toList 0 .nil) H)
     |none=>ad
    |none=>ad)else ad
def Se(w0:W0)(P:aw)(f:FuncId)(fn:Func)(c:Code):Prop:=
 (∃ fn c, P.funcs[f]? = aa fn ∧ fn.body = aa c ∧ (fn.name == "runtime.NumGoroutine") = ah) ∧
 ∀(call:FuncId->Array au->St->Option (au×St)) (L:Nat),(∀w1:W0,w1.toWorld=w0.toWorld->iW w1 P call)->∀(args args':Array au) (H H':St) (w:World) (Y:Mp) (r:au),
  eO P fn (cM P call L c (mC args.toList 0 .nil) H)=aa (r,H')->Sim w0 P Y H w->VRL Y args.toList args'.toList->Ca P f args.size=ae->
  Calls P f args' w λe w'=> ∃Y' r',e= .returned r'/\VR Y' r r'/\Sim w0 P Y' H' w'/\Ext H.next Y Y'/\H.next<=H'.next
def Cw(w0:W0)(P C:aw):Prop:= ∀f fn c,C.funcs[f]?=aa fn->fn.body=aa c->(P.funcs[f]?=aa fn/\jW P fn=ae)∨Se w0 P f fn c
def Sf(P:aw)(w0:World)(O:DD):Prop:=(∀a b s,O.s a b=aa s->∀w,Kept w0 w->
 (∃ fn c, P.funcs[O.n]? = aa fn ∧ fn.body = aa c ∧ (fn.name == "runtime.NumGoroutine") = ah) ∧ Calls P O.n #[.int .i64 a, .int .i64 b] w fun e w' => e = .returned (.string ⟨s.toArray⟩) ∧ Kept w w') ∧
 (O.m = O.n ∨ ∀ w, Kept w0 w → (∃ fn c, P.funcs[O.m]? = aa fn ∧ fn.body = aa c ∧ (fn.name == "runtime.NumGoroutine") = ah) ∧ Calls P O.m #[] w fun e w' => e = .returned (.bool ae) ∧ Kept w w') ∧
 ∀ g k, O.w = aa (g, k) → ∀ w, Kept w0 w → (∃ fn c, P.funcs[g]? = aa fn ∧ fn.body = aa c ∧ (fn.name == "runtime.NumGoroutine") = ah) ∧ Calls P g #[.int .u32 0] w fun e w' =>
  (∃b off cap C t fr,e= .returned (.slice (aa ⟨b,off,ad⟩) k cap)/\k<=cap/\w'.heap[b]?=aa (.cells C t fr)/\(b<P.globals.size∨w.heap.size<=b))/\Kept w w'
def HK(du:P.toTables.follows .mixedOrders=ae){L:Nat}{f:FuncId}{fn:Func}{c:Code}(hf:P.funcs[f]?=aa fn)(hb:fn.body=aa c)(fy:jW P fn=ae)(ih1:iW w0 P call)
    {args args':Array au} {H H':St} {w:World} {Y:Mp} {r:au} (h:eO P fn (cM P call L c (mC args.toList 0 .nil) H)=aa (r,H')) (ρ:Sim w0 P Y H w) (hargs:VRL Y args.toList args'.toList):
    (∃ fn c, P.funcs[f]? = aa fn ∧ fn.body = aa c ∧ (fn.name == "runtime.NumGoroutine") = ah) ∧
    Calls P f args' w λe w'=> ∃Y' r',e= .returned r'/\VR Y' r r'/\Sim w0 P Y' H' w'/\Ext H.next Y Y'/\H.next<=H'.next:=by
 simp only[jW,hb,aC,Bool.not_eq_true']at fy;refine⟨⟨fn,c,hf,hb,fy.2⟩,?_⟩;cases hx:cM P call L c (mC args.toList 0 .nil) H with
 |none=>simp[hx,eO]at h
 |some x=>
  obtain⟨fl,S',H1⟩:=x;have A0:AR Y (mC args.toList 0 .nil) fn.ntmps {tmps:=args'++Array.replicate (fn.ntmps-args'.size) undef,defers:=[]}:=by
   have co:=hargs.size;refine⟨by simp;omega,rfl,λi=>?_⟩
   rw[E9];simp only[a8,true_and,Nat.zero_add,Nat.sub_zero,Array.length_toList];rw[Array.getD_eq_getD_getElem?];by_cases hi:i<args.size
   .rw[bI hi,Array.getElem?_append_left (by omega)]
    have h1:args.toList[i]?=aa args[i]:=by simp[hi]
    obtain⟨u,hu,hr⟩:=hargs.get h1;have jz:args'[i]?=aa u:=by simpa using hu
    rw[h1,jz];exact hr
   .rw[bH hi,Array.getElem?_append_right (by omega)]
    have:((Array.replicate (fn.ntmps-args'.size) undef)[i-args'.size]?).getD undef=undef:=by
     by_cases h2:i-args'.size<fn.ntmps-args'.size
     .simp[h2]
     .simp[h2]
    rw[this];exact .undef
  have fin: ∀(R:Exit),R= .normal∨R= .ret->(gJ P S' H1 fn.results.toList).map (λvs=>(Cb vs,H1))=aa (r,H')->
        Post w0 P Y H.next fn.ntmps S' H1 (bodyPost P fn (λe w'=> ∃Y' r',e= .returned r'/\VR Y' r r'/\Sim w0 P Y' H' w'/\Ext H.next Y Y'/\H.next<=H'.next) R):=by
   intro R hR kn a' w' Y' A' ρ' E hl;rw[aF]at kn;obtain⟨vs,jy,he⟩:=kn;cases he;obtain⟨v',h1,h2⟩:=aDi A' ρ' jy;rcases hR with rfl|rfl
   .exact⟨A'.defers,v',h1,Y',v',rfl,h2,ρ',E,hl⟩
   .exact⟨A'.defers,v',h1,Y',v',rfl,h2,ρ',E,hl⟩
  refine calls_of_wp hf hb ?_;cases fl with
  |exit k=>simp[hx,eO]at h
  |normal=>simp only[hx,eO]at h;exact aAP ih1 du L fn.ntmps c _ H .normal S' H1 _ w Y _ hx fy.1 A0 ρ (fin .normal (.inl rfl) h)
  |ret=>simp only[hx,eO]at h;exact aAP ih1 du L fn.ntmps c _ H .ret S' H1 _ w Y _ hx fy.1 A0 ρ (fin .ret (.inr rfl) h)
def FA{C:aw}(du:P.toTables.follows .mixedOrders=ae){β:World}(hC: ∀w0:W0,w0.toWorld=β->Cw w0 P C){O:DD}(hO:Sf P β O)(L:Nat): ∀n (w0:W0),w0.toWorld=β->iW w0 P (vZ P C O L n):=by
 intro n;induction n with
 |zero=>intro w0 hw f args args' H H' w Y r h;simp[vZ]at h
 |succ n ih=>
  intro w0 hw;have hC1:=hC w0 hw;have ih1:=ih w0 hw;subst hw;intro f args args' H H' w Y r h ρ hargs;simp only[vZ]at h;split at h
  .rename_i v hv;simp only[aA,aB]at h;obtain⟨rfl,rfl⟩:=h;unfold bC4 at hv;cases hf:am f O.n with
   |false=>
    rw[hf,aJ]at hv;cases hm:am f O.m with
    |false=>rw[hm]at hv;cases hv
    |true=>
    rw[hm,aI]at hv;have hfm:=aE hm;subst hfm;split at hv
    .rename_i he;cases hv;rw[he]at hargs;have q3:args'= #[]:=by rw[<-Array.toArray_toList (xs:=args'),hargs.nil_inv]
     subst q3;rcases hO.2.1 with h7|h7
     .rw[h7,Nat.beq_refl]at hf;cases hf
     .obtain⟨g1,g2⟩:=h7 w ρ.kept.toKept;exact⟨g1,g2.mono λe w' ⟨h5,h6⟩=>⟨Y,_,h5,.same _ rfl,ρ.keep h6,.refl _ _,aS _⟩⟩
    .cases hv
   |true=>
   rw[hf,aI]at hv;rw[aE hf];split at hv
   .rename_i a b he;rw[aF]at hv;obtain⟨x,hx,rfl⟩:=hv;rw[aF]at hx;obtain⟨s,hs,rfl⟩:=hx;rw[he]at hargs;obtain⟨u,us,e1,r1,h3⟩:=hargs.cons_inv;obtain⟨u2,us2,rfl,r2,h4⟩:=h3.cons_inv;rw[h4.nil_inv]at e1;have q1:u= .int .i64 a:=by cases r1;rfl
    have q2:u2= .int .i64 b:=by cases r2;rfl
    subst q1;subst q2;have q3:args'= #[.int .i64 a,.int .i64 b]:=by rw[<-Array.toArray_toList (xs:=args'),e1]
    subst q3;obtain⟨g1,g2⟩:=hO.1 a b s hs w ρ.kept.toKept;exact⟨g1,g2.mono λe w' ⟨h5,h6⟩=>⟨Y,_,h5,.same _ rfl,ρ.keep h6,.refl _ _,aS _⟩⟩
   .cases hv
  split at h
  .rename_i x hx;simp only[aA]at h;subst h;unfold bIp at hx;split at hx
   .cases hx
   .rename_i g k hg;cases qk:am f g with
    |false=>rw[qk]at hx;cases hx
    |true=>
     rw[qk,aI]at hx;rw[aE qk];split at hx
     .rename_i n0 he;cases hn0:aj (n0=(0:Int))with
      |false=>rw[hn0]at hx;cases hx
      |true=>
      rw[hn0]at hx;simp only[aI,aA,aB]at hx;obtain⟨rfl,rfl⟩:=hx;rw[of_decide_eq_true hn0]at he;rw[he]at hargs;obtain⟨u,us,e1,r1,h3⟩:=hargs.cons_inv;rw[h3.nil_inv]at e1;have q1:u= .int .u32 0:=by cases r1;rfl
      subst q1;have q3:args'= #[.int .u32 0]:=by rw[<-Array.toArray_toList (xs:=args'),e1]
      subst q3;obtain⟨g1,g2⟩:=hO.2.2 g k hg w ρ.kept.toKept;refine⟨g1,g2.mono ?_⟩;rintro e w' ⟨⟨b,off,cap,C,t,fr,rfl,hk,hb,hbg⟩,h6⟩;have ρ':=ρ.keep h6;have hO': ∀j o,w0.O j=aa o->(⟨b,off,off+cap,1⟩:Place).b≠j:=λj o hj=>by
       show b≠j;have h7:=ρ.kept.oth j o hj;rcases hbg with h8|h8
       .obtain⟨q,h9,h10,_⟩:=ρ.glob b h8;have:=h7.2 b q h9;omega
       .have:=xB h7.1;omega
      refine⟨_,.slice (aa ⟨b,off,ad⟩) k cap,rfl,?_,ρ'.opq (p:=⟨b,off,off+cap,1⟩) hb hO' rfl,⟨mM _ (ρ.dom _ (aS _)),λid hi=>jD (by omega)⟩,Nat.le_succ _⟩
      exact .slc H.next 0 k (k+1) cap ⟨b,off,off+cap,1⟩ (kV _ _ _) (λe=>by omega) hk (.inl (by simp))
     .cases hx
  cases jd:Ca P f args.size with
  |false=>rw[jd]at h;cases h
  |true=>
  rw[jd,aI]at h;split at h<;>try cases h
  rename_i fn hf;split at h<;>try cases h
  rename_i c hb;rcases hC1 f fn c hf hb with⟨hf,fy⟩|⟨g1,g2⟩
  rotate_left
  .exact⟨g1,g2 _ L ih _ _ _ _ _ _ _ h ρ hargs jd⟩
  exact HK du hf hb fy ih1 h ρ hargs
end
end Go.AI
namespace Go.AI
section
variable{P:aw}{ops:Array Oper}{base i:Nat}{l:List Oper}{S:Slots}{H:St}{Q:Slots->St->Prop}{d:Option Tmp}{ty:av}{pos:String}{af:Array Edge}
def gT(P:aw)(op:BinOp)(t:av)(x y:az)(a b:au):Option au:=
 bif cN a&&cN b then cS P (do eqGuard op t x y a b;binOp op t a b)
 else match P.underlying t with
  |some (.slice _)=>UU op a b
  |_=>ad
def aIH(P:aw)(s t:av)(a:au):Option au:=bif bQ a then cS P (convert s t a)else ad
end
end Go.AI
namespace Go.AI
section
variable{P:aw}{S:Slots}{H:St}{Q:Fl->Slots->St->Prop}
section
variable{t:av}{x y:az}{k:IntKind}{a b:Int}
def bDH:gT P .lss t x y (.int k a) (.int k b)=aa (.bool (aj (a<b))):=by cases k<;>rfl
def bDI:gT P .leq t x y (.int k a) (.int k b)=aa (.bool (aj (a<=b))):=by cases k<;>rfl
def bDJ:gT P .gtr t x y (.int k a) (.int k b)=aa (.bool (aj (b<a))):=by cases k<;>rfl
def bDK:gT P .geq t x y (.int k a) (.int k b)=aa (.bool (aj (b<=a))):=by cases k<;>rfl
def bDL:gT P .eql t x y (.int k a) (.int k b)=aa (.bool (a==b)):=by cases k<;>rfl
def bDE:gT P .neq t x y (.int k a) (.int k b)=aa (.bool (a !=b)):=by cases k<;>rfl
def bDO:gT P .add t x y (.int k a) (.int k b)=aa (.int k (k.wrap (a+b))):=by cases k<;>rfl
def bDz:gT P .sub t x y (.int k a) (.int k b)=aa (.int k (k.wrap (a-b))):=by cases k<;>rfl
def bDG:gT P .mul t x y (.int k a) (.int k b)=aa (.int k (k.wrap (a*b))):=by cases k<;>rfl
def bDD(h:b≠0):gT P .quo t x y (.int k a) (.int k b)=aa (.int k (k.wrap (a.tdiv b))):=by
 cases k<;>simp[gT,cN,bQ,cS,bM,eqGuard,binOp,Op.intDiv,h,bS]
def bDC(h:b≠0):gT P .rem t x y (.int k a) (.int k b)=aa (.int k (a.tmod b)):=by
 cases k<;>simp[gT,cN,bQ,cS,bM,eqGuard,binOp,Op.intDiv,h,bS]
def bDB{k':IntKind}(h:0<=b):gT P .shl t x y (.int k a) (.int k' b)=aa (.int k (k.wrap (a*2^(min b.toNat k.bits)))):=by
 have: ¬b<0:=by omega
 cases k<;>simp[gT,cN,bQ,cS,bM,eqGuard,binOp,Op.shift,this,bS]
def bDA{k':IntKind}(h:0<=b):gT P .shr t x y (.int k a) (.int k' b)=aa (.int k (a.fdiv (2^(min b.toNat k.bits)))):=by
 have: ¬b<0:=by omega
 cases k<;>simp[gT,cN,bQ,cS,bM,eqGuard,binOp,Op.shift,this,bS]
def bDN:gT P .and t x y (.int k a) (.int k b)=aa (.int k (k.wrap ((BitVec.ofInt k.bits a&&&BitVec.ofInt k.bits b).toNat:Int))):=by cases k<;>rfl
def bLa:gT P .or t x y (.int k a) (.int k b)=aa (.int k (k.wrap ((BitVec.ofInt k.bits a|||BitVec.ofInt k.bits b).toNat:Int))):=by cases k<;>rfl
def bDy:gT P .xor t x y (.int k a) (.int k b)=aa (.int k (k.wrap ((BitVec.ofInt k.bits a^^^BitVec.ofInt k.bits b).toNat:Int))):=by cases k<;>rfl
def aGC:gT P .andNot t x y (.int k a) (.int k b)=aa (.int k (k.wrap ((BitVec.ofInt k.bits a&&& ~~~ BitVec.ofInt k.bits b).toNat:Int))):=by cases k<;>rfl
def aAT{c e:Bool}(ht:P.underlying t=aa .bool):cJ P (Op.equal t (.bool c) (.bool e))=aa (c==e):=by
 unfold Op.equal;rw[show Op.maxDepth=Nat.succ 9999 from rfl,Op.equalIn.eq_2,bM,bU,ht];rfl
def bDM{c e:Bool}(ht:P.underlying t=aa .bool):gT P .eql t x y (.bool c) (.bool e)=aa (.bool (c==e)):=by
 simp only[gT,cN,bQ,Bool.and_self,aI,cS,bM,eqGuard,bD,Bool.false_eq_true,if_false,bS,aL,binOp,aAT ht]
def bDF{c e:Bool}(ht:P.underlying t=aa .bool):gT P .neq t x y (.bool c) (.bool e)=aa (.bool (!(c==e))):=by
 simp only[gT,cN,bQ,Bool.and_self,aI,cS,bM,eqGuard,bD,Bool.false_eq_true,if_false,bS,aL,binOp,aAT ht]
def a27{s:av}{d:TypeDesc}{k':IntKind}(hs:P.underlying s=aa d)(ht:P.underlying t=aa (.int k')):aIH P s t (.int k a)=aa (.int k' (k'.wrap a)):=by
 unfold aIH;simp only[bQ,aI,cS,convert,bM,bU,hs,ht,aL,Conv.intToInt,bS,cN]
end
end
end Go.AI
namespace Go.AI
mutual
def mI: ∀(a:au),fM a a=ae
 | .bool a| .int j a| .float j a| .complex j a c| .pointer a| .slice a l c| .map a| .chan a| .nilFunc| .nilIface=>by simp[fM]
 | .string a=>by simp[fM]
 | .func f ⟨xs⟩ ⟨ys⟩=>by simp[fM,mJ xs,mJ ys]
 | .iface t v=>by simp[fM,mI v]
 | .agg ⟨xs⟩=>by simp[fM,mJ xs]
 | .tuple ⟨xs⟩=>by simp[fM,mJ xs]
def mJ: ∀(a:List au),qX a a=ae
 |[]=>by simp[qX]
 |x::xs=>by simp[qX,mI x,mJ xs]
end
def D2: ∀(a:List (au×au)),AE a a=ae
 |[]=>by simp[AE]
 |x::xs=>by simp[AE,mI,D2 xs]
def GG(m:uJ):uS m m=ae:=by simp[uS,dN]
def AD(a:AObj):pR a a=ae:=by
 cases a with
 |cells cs m=>simp[pR,mJ,GG]
 |map es=>simp[pR,D2]
end Go.AI
namespace Go.PI
open Go.AI
def Rz(H H':St):Prop:= ∀a cs m,H.get a=aa (.cells cs m)->∃cx b,H'.get a=aa (.cells cx {m with tip:=b})
def aPj:Ga:=λ_=>ad
section
variable{P:aw}{J J':Nu}{I I1 I':Ga}{H H':St}{S:PS}{A:Slots}{base:Nat}
def Qt.put{id:Nat}{o:AObj}(hf:H.get id=ad):Qt H (H.put id o):=
 ⟨rfl,λa ob h=> .inl (by rw[bZ,bH (λe=>by rw[e,hf]at h;cases h)];exact h)⟩
def Qt.row(q:Qt H H'){id:Nat}{cs:List au}{m:uJ}(h:H.row id=aa (cs,m)): ∃b,H'.row id=aa (cs,{m with tip:=b}):=by
 obtain⟨h1,h2⟩:=fD h;rcases q.get id _ h1 with e|⟨cx,m',b,e1,_,e2⟩
 .exact⟨m.tip,row_of_get e (by rw[oN q.vers];exact h2)⟩
 .simp only[AObj.cells.injEq]at e1;obtain⟨rfl,rfl⟩:=e1;exact⟨b,row_of_get e2 (by rw[oN q.vers];exact h2)⟩
def aDj{t:av}{w u:au}(bh: ∀id cs m,H.row id=aa (cs,m)->∃m',H'.row id=aa (cs,m'))(h:kT P H t w=aa u):kT P H' t w=aa u:=by
 unfold kT at h⊢;split at h
 .split at h
  .rename_i cs m hr;obtain⟨m',ca⟩:=bh _ _ _ hr;simp only[ca];exact h
  .cases h
 .cases h
def UQ{t:av}{w u:au}{lo hi mx:Option au}(bh: ∀id cs m,H.row id=aa (cs,m)->∃cx m',H'.row id=aa (cx,m')/\m'.z=m.z)
    (hex: ∀id off n c,w= .slice (aa ⟨id,off,ad⟩) n c->∃cs m,H.row id=aa (cs,m)) (h:wE P H t w lo hi mx=aa u):wE P H' t w lo hi mx=aa u:=by
 unfold wE at h⊢;split at h
 .exact h
 .rename_i e he;split at h
  .rename_i a len c;split at h
   .rename_i z l hh m e1 e2 e3 e4;cases hc:aj (0<=l.getD 0)&&aj (l.getD 0<=hh.getD (len:Int))&&aj (hh.getD (len:Int)<=(len:Int))with
    |false=>simp only[hc,aJ]at h;cases h
    |true=>
     simp only[hc,aI]at h⊢;split at h
     .exact h
     .rename_i id off;obtain⟨cs,mm,hr⟩:=hex id off len c rfl;obtain⟨cx,m',ca,jx⟩:=bh _ _ _ hr;have:qD H' id z=qD H id z:=by simp only[qD,hr,ca,jx]
      rw[this];exact h
     .exact h
   .cases h
  .cases h
 .split at h
  .rename_i id off _ _;cases hz:qD H id 0 with
   |false=>rw[hz]at h;cases h
   |true=>
    have:qD H' id 0=ae:=by
     unfold qD at hz⊢;split at hz
     .rename_i cs m hr;obtain⟨cx,m',ca,jx⟩:=bh _ _ _ hr;simp only[ca,jx];exact hz
     .cases hz
    rw[hz]at h;rw[this];exact h
  .cases h
 .cases h
def aIF(q:Qt H H'){Z:az->au}{o:Oper}{t:av}{a:az}(ho:o.op= .load t a){v:au}(h:kS P H Z o=aa v):kS P H' Z o=aa v:=by
 simp only[kS,ho]at h⊢;refine aDj (λid cs m hr=>?_) h
 obtain⟨b,hb⟩:=q.row hr;exact⟨_,hb⟩
def Fx(q:Qt H H'){r:iV}(hl:r.ob=ad->∃t a,r.o.op= .load t a)(hb: ∀ob,r.ob=aa ob->(∀a,H.get a=aa ob->H'.get a=aa ob))(h:check P base H r=ae):check P base H' r=ae:=by
 unfold check at h⊢;split at h
 .rename_i e;split at h
  .rename_i v hv;obtain⟨t,a,ho⟩:=hl e;simp only[aIF q ho hv];exact h
  .cases h
 .rename_i ob e;split at h
  .rename_i ob' hg;have:=D1 h;subst this;simp only[hb ob' e _ hg];exact h
  .cases h
def Stab(P:aw)(base:Nat)(J:Nu)(H:St)(r:iV):Prop:= ∀J' H',Keep J aPj H H'->Mon H J J'->Rz H H'->check P base H' r=ae
def Stab.adv{p p':PSt}{r:iV}(h:Stab P base J H r)(a:Adv J I p H J' I' p' H'):Stab P base J' H' r:=by
 intro J'' H'' k m z;refine h J'' H'' (Keep.trans (I:=aPj) (I':=aPj) (a.keep.weak λ_ h=>by cases h) a.mon k (.refl H _)) (a.mon.trans m a.keep.dom) λx cs mm hx=>?_
 obtain⟨cx,b,h1⟩:=a.rz x cs mm hx;obtain⟨vo,b',h2⟩:=z x cx _ h1;exact⟨vo,b',h2⟩
def aBx(base:Nat)(r:iV)(a:Nat):Prop:=(r.ob=ad/\∃t x off,r.o.op= .load t x/\ev r.S x= .pointer (aa ⟨a,off,ad⟩))∨(r.ob≠ad/\base+r.i=a)
def UJ{r:iV}{a:Nat}(hl:aBx base r a)(hg:H'.get a=H.get a)(hv:H'.vers=H.vers)(h:check P base H r=ae):check P base H' r=ae:=by
 unfold check at h⊢;rcases hl with⟨h1,t,x,off,h2,h3⟩|⟨h1,h2⟩
 .rw[h1]at h⊢;have bh:H'.row a=H.row a:=by
   simp only[St.row,hg];cases H.get a with
   |none=>rfl
   |some o=>cases o with
    |cells cs m=>simp only[oN hv]
    |map es=>rfl
  simp only[kS,h2,kT,h3,bh]at h⊢;exact h
 .cases fi:r.ob with
  |none=>exact absurd fi h1
  |some ob=>rw[fi]at h;simp only[h2,hg]at h⊢;exact h
structure Trk(P:aw)(base:Nat)(J:Nu)(p:PSt)(H:St)(q:jU)(r:iV):Prop where
 cl: ∀id,aNp q.o q.a q.v=aa id->id∉p.wr->∃a,J id=aa (aa a)/\aBx base r a/\check P base H r=ae
 i:q.i=r.i
 ok:q.stale=ah->check P base H r=ae
 box:lC q.o=ah->∀ob,r.ob=aa ob->∃cs,ob= .cells cs boxMeta
 rd:r.ob=ad->∃t a,r.o.op= .load t a
 ld: ∀t a,q.o.op= .load t a->r.ob=ad/\r.o=q.o/\R J H q.a (ev r.S a)/\R J H q.v r.v
def Inv(P:aw)(base:Nat)(J:Nu)(p:PSt)(H:St)(Pl:List jU)(Rl:List iV):Prop:= ∀r∈Rl,Stab P base J H r∨∃q∈Pl,Trk P base J p H q r
def Trk.adv_cl{p p':PSt}{q:jU}{r:iV}(T:Trk P base J p H q r)(a:Adv J I p H J' I' p' H'): ∀id,aNp q.o q.a q.v=aa id->id∉p'.wr->∃a,J' id=aa (aa a)/\aBx base r a/\check P base H' r=ae:=by
 intro id hid hd;obtain⟨b,h1,h2,h3⟩:=T.cl id hid λhh=>hd (a.dp.wr id hh)
 obtain⟨e1,e2⟩:=a.bx id b h1 hd;exact⟨b,e2,h2,UJ h2 e1 a.keep.vers h3⟩
mutual
def Qh: ∀{x y:PV},CB x y=ae->x=y
 | .v a,.v b,h=>by rw[qV a b h]
 | .str a,.str b,h=>by simp only[CB,beq_iff_eq]at h;rw[h]
 | .agg xs,.agg ys,h=>by rw[HI h]
 | .v _,.str _,h| .v _,.agg _,h| .v _,.tup _,h| .v _,.nil,h| .v _,.emp,h| .v _,.sl _ _,h| .v _,.pin _ _ _,h| .v _,.ptr _ _,h| .v _,.rs _ _ _,h| .v _,.mp _,h| .v _,.fn _ _ _,h| .v _,.und,h=>by simp[CB]at h
 | .str _,.v _,h| .str _,.agg _,h| .str _,.tup _,h| .str _,.nil,h| .str _,.emp,h| .str _,.sl _ _,h| .str _,.pin _ _ _,h| .str _,.ptr _ _,h| .str _,.rs _ _ _,h| .str _,.mp _,h| .str _,.fn _ _ _,h| .str _,.und,h=>by simp[CB]at h
 | .agg _,.v _,h| .agg _,.str _,h| .agg _,.tup _,h| .agg _,.nil,h| .agg _,.emp,h| .agg _,.sl _ _,h| .agg _,.pin _ _ _,h| .agg _,.ptr _ _,h| .agg _,.rs _ _ _,h| .agg _,.mp _,h| .agg _,.fn _ _ _,h| .agg _,.und,h=>by simp[CB]at h
 | .tup _,_,h| .nil,_,h| .emp,_,h| .sl _ _,_,h| .pin _ _ _,_,h| .ptr _ _,_,h| .rs _ _ _,_,h| .mp _,_,h| .fn _ _ _,_,h| .und,_,h=>by simp[CB]at h
def HI: ∀{xs ys:List PV},DZ xs ys=ae->xs=ys
 |[],[],_=>rfl
 |x::xs,y::ys,h=>by
  simp only[DZ,aC]at h;rw[Qh h.1,HI h.2]
 |[],_::_,h|_::_,[],h=>by simp[DZ]at h
end
def Inv.check{p:PSt}{Pl:List jU}{Rl:List iV}(γ:Inv P base J p H Pl Rl)(M:Mem J I p H)(h:Pl.all (qE P p)=ae):Rl.all (AI.check P base H)=ae:=by
 rw[bJ]at h⊢;intro r hr;rcases γ r hr with hs|⟨q,hq,T⟩
 .exact hs J H (.refl J aPj H) (.refl H J) λa cs m h=>⟨cs,m.tip,h⟩
 .have hc:=h q hq;unfold qE at hc;cases cf:q.stale with
  |false=>exact T.ok cf
  |true=>
   rw[cf]at hc;simp only[bD,Bool.false_or,b9]at hc;rcases hc with hc|hc
   .cases vk:aNp q.o q.a q.v with
    |none=>rw[vk]at hc;cases hc
    |some id=>
     rw[vk]at hc;simp only[aA1,Bool.not_eq_true',List.contains_eq_mem,bC]at hc;obtain⟨_,_,_,h3⟩:=T.cl id vk hc;exact h3
   split at hc
   .rename_i t a ho;simp only[aC]at hc;obtain⟨h1,h2,h3,h4⟩:=T.ld t a ho;cases hv:aDx q.v with
    |none=>rw[hv]at hc;simp at hc
    |some w=>
     split at hc
     .rename_i v' hl;have:=Qh hc.2;subst this;obtain⟨u,hu,ca⟩:=Ek M h3 hl;obtain⟨rfl,_⟩:=JP hv ca;obtain⟨e,_⟩:=JP hv h4;unfold AI.check;rw[h1];simp only[kS,h2,ho,hu];rw[e];exact mI _
     .simp at hc
   .cases hc
def UX{id:Nat}{c:Call}{s x u:au}(hf:H.get id=ad)(h1:mR P H id c s x=aa (u,H')):Qt H H':=by
 unfold mR at h1;split at h1
 .split at h1
  .rename_i e d _ _;cases hc:GX d x with
   |false=>rw[hc,aJ]at h1;cases h1
   |true=>
    rw[hc,aI]at h1;split at h1
    .rename_i info _;split at h1
     .rename_i n xs z _ _;cases hc2:xs.all one&&an 1 info.size&&an 1 info.bytes&&am z.cells.size info.size&&gO s with
      |false=>rw[hc2,aJ]at h1;cases h1
      |true=>
       rw[hc2,aI]at h1;cases hc3:am n 0 with
       |true=>rw[hc3,aI]at h1;simp only[aA,aB]at h1;obtain⟨_,rfl⟩:=h1;exact .refl H
       |false=>
        rw[hc3,aJ]at h1;unfold mE at h1;split at h1
        .cases hc4:an (n*info.bytes) 1073741824 with
         |false=>rw[hc4,aJ]at h1;cases h1
         |true=>rw[hc4,aI]at h1;simp only[aA,aB]at h1;obtain⟨_,rfl⟩:=h1;exact .put hf
        .rename_i id0 off len k;cases hc4:an ((len+n)*info.bytes) 1073741824 with
         |false=>rw[hc4,aJ]at h1;cases h1
         |true=>
          rw[hc4,aI]at h1;split at h1
          .rename_i cs m bh;split at h1
           .rename_i old _;cases hc5:am k len with
            |true=>rw[hc5,aI]at h1;simp only[aA,aB]at h1;obtain⟨_,rfl⟩:=h1;exact .put hf
            |false=>
             rw[hc5,aJ]at h1;cases hc6:m.tip&&m.wr&&am m.z info.size&&am (off+len*info.size) cs.length&&m.grp.isSome with
             |false=>rw[hc6,aJ]at h1;cases h1
             |true=>
              rw[hc6,aI]at h1;simp only[aA,aB]at h1;obtain⟨_,rfl⟩:=h1;simp only[aC]at hc6;refine⟨rfl,λa ob hg=>?_⟩
              rw[bZ,bH (λe=>by rw[e,hf]at hg;cases hg),bZ]
              by_cases e2:a=id0
              .subst e2;rw[(fD bh).1]at hg;simp only[aA]at hg;subst hg;rw[bI rfl];exact .inr ⟨cs,m,ah,rfl,hc6.1.1.1.1,rfl⟩
              .rw[bH e2];exact .inl hg
           .cases h1
          .cases h1
        .rename_i b0 o0 s0 l0 k0;cases hc4:am s0 1&&an (n*info.bytes) 1073741824 with
         |false=>rw[hc4,aJ]at h1;cases h1
         |true=>rw[hc4,aI]at h1;simp only[aA,aB]at h1;obtain⟨_,rfl⟩:=h1;exact .put hf
        .cases h1
     .cases h1
    .cases h1
  .cases h1
 .cases h1
def Inv.qt{p p':PSt}{Pl:List jU}{Rl:List iV}(γ:Inv P base J p H Pl Rl)(a:Adv J I p H J' I' p' H')(q:Qt H H')(hx: ∀q∈Pl,lC q.o=ae->q.stale=ah->∀a ob,H.get a=aa ob->H'.get a=aa ob):Inv P base J' p' H' Pl Rl:=by
 intro r hr;rcases γ r hr with hs|⟨k,hk,T⟩
 .exact .inl (hs.adv a)
 .refine .inr ⟨k,hk,T.adv_cl a,T.i,λcf=>Fx q T.rd (λob fi b hb=>?_) (T.ok cf),T.box,T.rd,λt x ho=>?_⟩
  .cases hm:lC k.o with
   |true=>exact hx k hk hm cf b ob hb
   |false=>
    obtain⟨cs,rfl⟩:=T.box hm ob fi;rcases q.get b _ hb with e|⟨cx,m',b',e1,e2,_⟩
    .exact e
    .simp only[AObj.cells.injEq]at e1;obtain⟨rfl,rfl⟩:=e1;cases e2
  .obtain⟨h1,h2,h3,h4⟩:=T.ld t x ho;exact⟨h1,h2,h3.keep a.keep a.mon,h4.keep a.keep a.mon⟩
def Inv.filter{p:PSt}{Pl:List jU}{Rl:List iV}(γ:Inv P base J p H Pl Rl)(f:Nat->Bool):Inv P base J p H (Pl.filter λq=>f q.i) (Rl.filter λr=>f r.i):=by
 intro r hr;rw[List.mem_filter]at hr;rcases γ r hr.1 with hs|⟨k,hk,T⟩
 .exact .inl hs
 .exact .inr ⟨k,List.mem_filter.2 ⟨hk,by rw[T.i];exact hr.2⟩,T⟩
def Inv.stale{p p':PSt}{Pl:List jU}{Rl:List iV}(γ:Inv P base J p H Pl Rl)(a:Adv J I p H J' I' p' H'):Inv P base J' p' H' (Pl.map λq=>{q with stale:=ae}) Rl:=by
 intro r hr;rcases γ r hr with hs|⟨k,hk,T⟩
 .exact .inl (hs.adv a)
 .refine .inr ⟨_,List.mem_map.2 ⟨k,hk,rfl⟩,T.adv_cl a,T.i,λh=>(by cases h),T.box,T.rd,λt x ho=>?_⟩
  obtain⟨h1,h2,h3,h4⟩:=T.ld t x ho;exact⟨h1,h2,h3.keep a.keep a.mon,h4.keep a.keep a.mon⟩
def Inv.some{p p':PSt}{Pl:List jU}{Rl:List iV}(γ:Inv P base J p H Pl Rl)(a:Adv J I p H J' I' p' H')(q:Qt H H'):Inv P base J' p' H' (Pl.map λq=>bif !lC q.o then q else{q with stale:=ae}) Rl:=by
 intro r hr;rcases γ r hr with hs|⟨k,hk,T⟩
 .exact .inl (hs.adv a)
 .cases hm:lC k.o with
  |true=>
   refine .inr ⟨{k with stale:=ae},List.mem_map.2 ⟨k,hk,by simp[hm]⟩,T.adv_cl a,T.i,λh=>(by cases h),T.box,T.rd,λt x ho=>?_⟩
   obtain⟨h1,h2,h3,h4⟩:=T.ld t x ho;exact⟨h1,h2,h3.keep a.keep a.mon,h4.keep a.keep a.mon⟩
  |false=>
   refine .inr ⟨k,List.mem_map.2 ⟨k,hk,by simp[hm]⟩,T.adv_cl a,T.i,λcf=>Fx q T.rd (λob fi b hb=>?_) (T.ok cf),T.box,T.rd,λt x ho=>?_⟩
   .obtain⟨cs,rfl⟩:=T.box hm ob fi;rcases q.get b _ hb with e|⟨cx,m',b',e1,e2,_⟩
    .exact e
    .simp only[AObj.cells.injEq]at e1;obtain⟨rfl,rfl⟩:=e1;cases e2
   .obtain⟨h1,h2,h3,h4⟩:=T.ld t x ho;exact⟨h1,h2,h3.keep a.keep a.mon,h4.keep a.keep a.mon⟩
def R.vid{p:PSt}(M:Mem J I p H){v:PV}{u:au}{id:Nat}(r:R J H v u)(hv:PI.vid v=Option.some id)(hg: ∃o,p.get id=Option.some o/\o≠ .gone):
    ∃a,J id=Option.some (Option.some a)/\((∃off,u= .pointer (Option.some ⟨a,off,ad⟩))∨∃off n c,u= .slice (Option.some ⟨a,off,ad⟩) n c):=by
 obtain⟨o,ho,bn⟩:=hg;have hν: ∃a,J id=Option.some (Option.some a):=by
  have:=M.get id o ho;cases o with
  |box cs=>obtain⟨a,us,h1,_⟩:=this;exact⟨a,h1⟩
  |row z ag cs=>obtain⟨a,us,h1,_⟩:=this;exact⟨a,h1⟩
  |map es=>exact this.elim
  |gone=>exact absurd rfl bn
 obtain⟨a,ha⟩:=hν;refine⟨a,ha,?_⟩;cases v<;>simp only[PI.vid,aA]at hv<;>try cases hv
 .cases r with
  |ptr _ fq a' h=>rw[ha]at h;simp only[aA]at h;subst h;exact .inl ⟨_,rfl⟩
  |ptr0 _ off a' h=>rw[ha]at h;cases h
 .cases r with
  |rs _ fq se c a' h=>rw[ha]at h;simp only[aA]at h;subst h;exact .inr ⟨_,_,_,rfl⟩
  |rs0 _ off len c a' h=>rw[ha]at h;cases h
def nF{N:Type}{c:Bool}{A:Option N}{x:N}(h:(bif c then A else ad)=Option.some x):A=Option.some x:=by cases c with
 |false=>cases h
 |true=>exact h
def aIu{N:Type}{c:Bool}{A B x:N}(h:(bif c then A else B)=x):A=x∨B=x:=by cases c with
 |false=>exact .inr h
 |true=>exact .inl h
def MW{Z:az->au}{o:Oper}{id a:Nat}{u:au}{ob:AObj}(h:iF P Z o id=Option.some (u,ob))(hu:(∃off,u= .pointer (Option.some ⟨a,off,ad⟩))∨∃off n c,u= .slice (Option.some ⟨a,off,ad⟩) n c):id=a:=by
 have fin: ∀{off n k:Nat},u= .pointer (Option.some ⟨id,off,ad⟩)∨u= .slice (Option.some ⟨id,off,ad⟩) n k∨u= .map (Option.some id)->id=a:=by
  rintro off n k (rfl|rfl|rfl)<;>rcases hu with⟨o2,e⟩|⟨o2,n2,c2,e⟩<;>first|(cases e;rfl)|cases e
 obtain⟨dst,op,ty,pos,af,g⟩:=o;cases op<;>simp only[iF]at h<;>try cases h
 .split at h<;>try cases h
  have h:=nF h;simp only[aA,aB]at h;exact fin (n:=0) (k:=0) (.inl h.1.symm)
 .have h:=nF h;simp only[aA,aB]at h;exact fin (n:=0) (k:=0) (.inl h.1.symm)
 .split at h<;>try cases h
  split at h<;>try cases h
  split at h<;>try cases h
  have h:=nF h;simp only[aF,aB]at h;obtain⟨cs,_,h2,_⟩:=h;exact fin (.inr (.inl h2.symm))
 .split at h<;>try cases h
  split at h<;>try cases h
  split at h<;>try cases h
  have h:=nF h;rcases aIu h with h|h
  .simp only[aA,aB]at h;exact fin (.inr (.inl h.1.symm))
  .simp only[aA,aB]at h;exact fin (.inr (.inl h.1.symm))
def Inv.cons{p:PSt}{Pl:List jU}{Rl:List iV}(γ:Inv P base J p H Pl Rl){r:iV}(h:Stab P base J H r):Inv P base J p H Pl (r::Rl):=by
 intro x hx;rcases List.mem_cons.1 hx with rfl|hx
 .exact .inl h
 .exact γ x hx
def Inv.cons2{p:PSt}{Pl:List jU}{Rl:List iV}(γ:Inv P base J p H Pl Rl){r:iV}{q:jU}(h:Trk P base J p H q r):Inv P base J p H (q::Pl) (r::Rl):=by
 intro x hx;rcases List.mem_cons.1 hx with rfl|hx
 .exact .inr ⟨q,aH ..,h⟩
 .rcases γ x hx with h|⟨k,hk,T⟩
  .exact .inl h
  .exact .inr ⟨k,aG _ hk,T⟩
end
end Go.PI
namespace Go.PI
open Go.AI
section
variable{P:aw}{J J':Nu}{I I1 I':Ga}{H H':St}{S:PS}{A:Slots}{base:Nat}
def Q6{o:Oper}(h:dG o= .pure)(S:PS):kG o S=ah:=by
 obtain⟨dst,op,ty,pos,af,g⟩:=o;cases op<;>first|rfl|(simp[dG]at h)
def aCe{p p1:PSt}{o:Oper}{take own:Bool}{v:PV}{u:au}{i:Nat}(M:Mem J I p H)(F:FR J I H S A)(ho:o.op.operands.all (cG P)=ae)(hp:mX P p S o take=aa (v,own,p1))(hn:kG o S=ah)
    (hu:kS P H (ev A) o=aa u):Stab P base J H ⟨i,o,A,u,ad⟩:=by
 intro J' H' k m z;have ci:kS P H' (ev A) o=aa u->check P base H' ⟨i,o,A,u,ad⟩=ae:=by
  intro h;simp only[check,h];exact mI u
 apply ci
 replace ho:=vE ho
 obtain⟨dst,op,ty,pos,af,g⟩:=o;cases op with
 |load t a=>
  simp only[Op.operands,aP,List.all_nil,bE]at ho;have ra:=cZ F ho;simp only[kS]at hu⊢;simp only[mX]at hp;split at hp
  .rename_i v' hl;simp only[kG]at hn;cases ti:cQ S a<;>rw[ti]at hl hn ra<;>simp only[jZ]at hl<;>(try cases hl)<;>(try cases hn)
   generalize ev A a=w at ra hu⊢;cases ra with
   |pin zz _ _ _ id b rcs mm hs hr hb hh=>
    obtain⟨bb,hf⟩:=hr.keep k m;simp only[kT,hr.1]at hu;simp only[kT,hf.1];exact hu
  .cases hp
 |slice t x lo hi mx=>
  simp only[kS]at hu⊢;simp only[Op.operands,Array.toList_append,List.all_append,aC]at ho;have rx:=cZ F (P:=P) (x:=x) (by simpa using ho.1.1.1)
  simp only[mX,aF,aB]at hp;obtain⟨⟨w,fp⟩,hw,_⟩:=hp;refine UQ (λid cs mm hr=>?_) (λid off n c hxx=>?_) hu
  .obtain⟨h1,h2⟩:=fD hr;obtain⟨cx,b,h3⟩:=z id cs mm h1;exact⟨cx,_,row_of_get h3 (by rw[oN k.vers];exact h2),rfl⟩
  .rw[hxx]at rx;generalize cQ S x=xv at rx hw;cases rx with
   |emp1 _ _ _ rcs m hr=>exact⟨_,_,hr.1⟩
   |sl _ _ _ _ _ rcs m hz hs hr hm hb hh=>exact⟨_,_,hr.1⟩
   |rs bu _ _ _ a hν=>
    obtain⟨o',gq⟩:=M.live _ _ hν;have:=M.get _ _ gq;cases o' with
    |box cs=>obtain⟨a',us,h1,h2,_⟩:=this;rw[hν]at h1;simp only[aA]at h1;subst h1;exact⟨_,_,row_of_get h2 rfl⟩
    |row z ag cs=>obtain⟨a',us,h1,h2,_⟩:=this;rw[hν]at h1;simp only[aA]at h1;subst h1;exact⟨_,_,row_of_get h2 rfl⟩
    |map es=>exact this.elim
    |gone=>rw[show J bu=aa ad from this]at hν;cases hν
   |v _ hp=>simp[bQ]at hp
   |und _=>
    unfold kZ at hw;split at hw
    .simp at hw
    .split at hw<;>simp at hw
    .cases hw
   |rs0 bu _ _ _ a hν=>
    unfold kZ at hw;split at hw
    .simp at hw
    .split at hw
     .split at hw
      .split at hw
       .rename_i hg;obtain⟨a',us,h1,_⟩:=M.get _ _ hg
        simp_all
       .cases hw
      all_goals simp_all
     .cases hw
    .cases hw
 |_=>simp only[mX]at hp;cases hp
def aEf{v:PV}{id off n c:Nat}(r:R J H v (.slice (aa ⟨id,off,ad⟩) n c))(hv:v= .emp∨∃z es,v= .sl z es): ∀k,J k≠aa (aa id):=by
 rcases hv with rfl|⟨z,es,rfl⟩
 .cases r with|emp1 _ _ _ rcs m hr=>exact hr.2
 .cases r with|sl _ _ _ _ _ rcs m hz hs hr hm hb hh=>exact hr.2
def aOX(z:Nat)(es:List PV):eD z es= .emp∨∃z' es',eD z es= .sl z' es':=by
 cases es with
 |nil=>exact .inl rfl
 |cons e es=>exact .inr ⟨z,_,rfl⟩
def aEA{pc:jB}{ac:FuncId->Array au->St->Option (au×St)}(bj:oL pc ac){ops:Array Oper}{ms:List Nat}(dq: ∀o∈ops.toList,o.op.operands.all (cG P)=ae):
    ∀(sc:List Bw) (Pl:List jU) (Rl:List iV) (J:Nu) (I:Ga) (S:PS) (p:PSt) (A:Slots) (H:St) (S':PS) (p':PSt),(gF sc).Nodup->(∀j∈gF sc,j<ops.size/\H.get (base+j)=ad)->base+ops.size<=H.next->
      Inv P base J p H Pl Rl->Mem J I p H->FR J I H S A->kM P pc ops ms sc Pl S p=aa (S',p')->
      ∃A' H' J' I',gU P ac ops ms base (gF sc) Rl A H=aa (A',H')/\Mem J' I' p' H'/\FR J' I' H' S' A'/\Adv J I p H J' I' p' H'/\(∀j,j<base->H.get j=ad->H'.get j=ad):=by
 intro sc;induction sc with
 |nil=>
  intro Pl Rl J I S p A H S' p' _ _ hb γ M F h;simp only[kM]at h;cases hc:Pl.all (qE P p)with
  |false=>rw[hc,aJ]at h;cases h
  |true=>
   rw[hc,aI]at h;simp only[aA,aB]at h;obtain⟨rfl,rfl⟩:=h;refine⟨A,H,J,I,?_,M,F,.refl J I p H,λj _ hj=>hj⟩
   simp only[gF,gU,γ.check M hc,aI]
 |cons s sc ih=>
  intro Pl Rl J I S p A H S' p' gi cj hb γ M F h;cases s with
  |freeze t=>
   simp only[kM]at h;split at h
   .rename_i S1 p1 h1;obtain⟨J1,M1,F1,A1⟩:=zY M F h1;obtain⟨A',H',J',I',k1,k2,k3,k4,k5⟩:=ih Pl Rl J1 I S1 p1 A H S' p' gi cj hb (γ.qt A1 (.refl H) λ_ _ _ _ _ _ h=>h) M1 F1 h
    exact⟨A',H',J',I',k1,k2,k3,A1.trans k4,k5⟩
   .cases h
  |app a i s=>
   simp only[gF]at gi cj⊢;obtain⟨ha,hfa⟩:=cj a (by simp)
   obtain⟨hi,hfi⟩:=cj i (by simp)
   obtain⟨hs,hfs⟩:=cj s (by simp)
   simp only[List.nodup_cons,List.mem_cons,not_or]at gi;simp only[kM]at h;have hopA:ops[a]?=aa ops[a]:=Array.getElem?_eq_getElem ha;have hopI:ops[i]?=aa ops[i]:=Array.getElem?_eq_getElem hi;have hopS:ops[s]?=aa ops[s]:=Array.getElem?_eq_getElem hs;rw[hopA,hopI,hopS]at h;simp only at h;split at h
   .rename_i S1 h1;cases hc0:Pl.all (qE P p)&&(Pl.filter λr=> !lI (ms.getD a 0) r.i).all (λr=> !lC r.o)with
    |false=>rw[hc0,aJ]at h;cases h
    |true=>
     rw[hc0,aI]at h;simp only[aC]at hc0;obtain⟨hc,lz⟩:=hc0;rw[bJ]at lz;obtain⟨u1,u2,H1,H2,I2,q1,q2,q3,q4,q5,q6,q7,q8,q9,q10,q11,M2,F2,A2,qt1,qt2,q12,q13⟩:=QI (ac:=ac) (base:=base) (iA:=a) (iI:=i) (iS:=s) M F hfa (by omega) (dq _ (by simp)) (dq _ (by simp)) (dq _ (by simp)) h1
     have hw: ∀{o:Oper} {A0:Slots},o.guard=ad->wanted ops A0 o=ae:=λhg=>by simp only[wanted,hg]
     have kr: ∀j∈gF sc,j<ops.size/\H2.get (base+j)=ad:=λj hj=>by
      obtain⟨h2,h3⟩:=cj j (by simp[hj])
      exact⟨h2,(q13 _ (λe=>gi.1.2.2 (by rw[show a=j by omega];exact hj)) h3).2⟩
     have If:=γ.filter λk=> !lI (ms.getD a 0) k
     have nv:(Rl.filter λr=> !lI (ms.getD a 0) r.i).all (check P base H1)=ae:=by
      rw[bJ];intro r hr;have hr0:=List.mem_filter.1 hr;have dh:=γ.check M hc;rw[bJ]at dh;have hcr:=dh r hr0.1;rcases If r hr with cf|⟨q,hq,T⟩
      .have hk3:Keep J aPj H H1:=by
        refine⟨qt1.vers,by rw[q12];exact aS _,λx hx=>?_,λx hn cs m hg=>?_⟩
        .cases hxx:H.get x with
         |none=>rfl
         |some ob=>
          rcases qt1.get x ob hxx with e|⟨_,_,_,_,_,e⟩<;>rw[hx]at e<;>cases e
        .rcases qt1.get x _ hg with e|⟨cx,m',b',e1,e2,e3⟩
         .exact⟨m.tip,e,λh=>h,λ_=>rfl⟩
         .simp only[AObj.cells.injEq]at e1;obtain⟨rfl,rfl⟩:=e1;exact⟨b',e3,λh=>(by rw[e2]at h;cases h),λh=>(by cases h)⟩
       exact cf J H1 hk3 (.refl H J) λx cs m hx=>by
        rcases qt1.get x _ hx with e|⟨cx,m',b',e1,e2,e3⟩
        .exact⟨cs,m.tip,e⟩
        .simp only[AObj.cells.injEq]at e1;obtain⟨rfl,rfl⟩:=e1;exact⟨_,b',e3⟩
      .refine Fx qt1 T.rd (λob fi b hb=>?_) hcr
       have hm:lC q.o=ah:=by simpa using lz q hq
       obtain⟨cs,rfl⟩:=T.box hm ob fi;rcases qt1.get b _ hb with e|⟨cx,m',b',e1,e2,_⟩
       .exact e
       .simp only[AObj.cells.injEq]at e1;obtain⟨rfl,rfl⟩:=e1;cases e2
     have γ2:=(If.some A2 qt2).filter λk=> !lI (ms.getD s 0) k
     obtain⟨A',H',J',I',j1,j2,j3,j4,j5⟩:=ih _ _ J I2 _ p _ H2 S' p' gi.2.2.2 kr (Nat.le_trans hb A2.keep.next) γ2 M2 F2 h
     refine⟨A',H',J',I',?_,j2,j3,A2.trans j4,λj hj hn=>j5 j hj (q13 j (by omega) hn).2⟩
     simp only[gU,hopA,hopI,hopS,hw q7,hw q8,hw q9,aI,q4,q5,q6,γ.check M hc,q1,q2,nv,q3];rw[q10];exact j1
   .cases h
  |op i take=>
   simp only[gF]at gi cj⊢;rw[List.nodup_cons]at gi;obtain⟨hi,hfi⟩:=cj i (aH ..);simp only[kM]at h;have mh:ops[i]?=aa ops[i]:=Array.getElem?_eq_getElem hi;rw[mh]at h;simp only at h;simp only[gU,mh];have qz:=dq ops[i] (by simp)
   generalize ops[i]=o at*;split at h
   .rename_i hw;rw[rY F hw,aI];split at h
    .rename_i v own S1 p1 h1;obtain⟨u,H1,J1,I1,k1,k2,k3,k4,k5,k6⟩:=ZG bj M F hfi (by omega) qz h1
     have kr: ∀j∈gF sc,j<ops.size/\H1.get (base+j)=ad:=λj hj=>by
      obtain⟨h2,h3⟩:=cj j (aG _ hj);exact⟨h2,k6 _ (by omega) (λe=>gi.1 (by rw[show i=j by omega];exact hj)) h3⟩
     have bp:=Nat.le_trans hb k5.keep.next
     have fin: ∀{Pl' Rl'},Inv P base J1 p1 H1 Pl' Rl'->kM P pc ops ms sc Pl' (S1.put o.dst v own) p1=aa (S',p')->
              ∃A' H' J' I',gU P ac ops ms base (gF sc) Rl' (A.store o.dst u) H1=aa (A',H')/\Mem J' I' p' H'/\FR J' I' H' S' A'/\Adv J I p H J' I' p' H'/\(∀j,j<base->H.get j=ad->H'.get j=ad):=by
      intro Pl' Rl' γ' h';obtain⟨A',H',J',I',j1,j2,j3,j4,j5⟩:=ih Pl' Rl' J1 I1 _ p1 _ H1 S' p' gi.2 kr bp γ' k3 k4 h';exact⟨A',H',J',I',j1,j2,j3,k5.trans j4,λj hj hn=>j5 j hj (k6 j (by omega) (by omega) hn)⟩
     cases hk:dG o with
     |pure=>
      simp only[lL,hk,aF,aB]at k1;obtain⟨u',jz,rfl,rfl⟩:=k1;have hu:mD P (ev A) o=aa u':=by
       simp only[HQ,hk,aF,aB]at h1;obtain⟨⟨v',fp,S''⟩,hp,rfl,rfl,rfl,rfl⟩:=h1;unfold Ei at hp;split at hp
       .rename_i r hpp;obtain⟨r1,r2,r3⟩:=r;obtain⟨u2,_,h2,_⟩:=QC F qz hpp;unfold sY at jz;rw[h2]at jz⊢;exact jz
       .cases hp
      simp only[hu];rw[show kP o=ah by simp[kP,hk]]at h
      simp only[aJ,Q6 hk S]at h;exact fin (γ.qt k5 (.refl H) λ_ _ _ _ _ _ h=>h) h
     |read=>
      simp only[lL,hk,aF,aB]at k1;obtain⟨u',hu,rfl,rfl⟩:=k1;simp only[hu];rw[show kP o=ah by simp[kP,hk]]at h
      simp only[aJ]at h;have γ':=γ.qt k5 (.refl H) λ_ _ _ _ _ _ h=>h
      have hpr: ∃fp p'',mX P p S o take=aa (v,fp,p''):=by
       simp only[HQ,hk,aF,aB]at h1;obtain⟨⟨v',fp,p''⟩,hp,rfl,rfl,rfl,rfl⟩:=h1;exact⟨_,_,hp⟩
      obtain⟨fp,p'',hpr⟩:=hpr;cases qg:kG o S with
      |false=>
       rw[qg,aJ]at h;exact fin (γ'.cons ((aCe M F qz hpr qg hu).adv k5)) h
      |true=>
       rw[qg,aI]at h;have nv:check P base H ⟨i,o,A,u',ad⟩=ae:=by simp only[check,hu];exact mI u'
       refine fin (γ'.cons2 ⟨λid hid hd=>?_,rfl,λ_=>nv,λ_ ob fi=>(by cases fi),λ_=>?_,λt a ky=>?_⟩) h
       .simp only[kG]at qg;split at qg
        .rename_i t a ky;simp only[aNp,pG,ky]at hid;have bz:cG P a=ae:=by
          have:=vE qz;rw[ky]at this;simpa [Op.operands]using this
         have di: ∃v2,jZ P p t (cQ S a)=aa v2:=by
          simp only[mX,ky]at hpr;split at hpr
          .exact⟨_,by assumption⟩
          .cases hpr
         obtain⟨v2,di⟩:=di;have hvd:PI.vid (cQ S a)=aa id:=by
          cases hh:cQ S a<;>rw[hh]at hid<;>simp only[a81]at hid<;>first|exact hid|cases hid
         obtain⟨b,hb1,hb2⟩:=R.vid M (cZ F bz) hvd (by
          cases hh:cQ S a<;>rw[hh]at hid di<;>simp only[a81]at hid<;>try cases hid
          simp only[jZ]at di;split at di
          .exact⟨_,by assumption,by simp⟩
          .exact⟨_,by assumption,by simp⟩
          .cases di)
         have hb3:=(k5.bx id b hb1 hd).2;refine⟨b,hb3,.inl ⟨rfl,t,a,?_⟩,nv⟩;rcases hb2 with⟨off,e⟩|⟨off,n,c,e⟩
         .exact⟨off,ky,e⟩
         .exfalso;have hr:=cZ F bz;rw[e]at hr;cases hh:cQ S a<;>rw[hh]at hid hr<;>simp only[a81]at hid<;>try cases hid
          cases hr
        .rename_i e;simp[dG,e]at hk
        .rename_i e;simp[dG,e]at hk
        .rename_i e;simp[dG,e]at hk
        .cases qg
       .simp only[kG]at qg;split at qg
        .rename_i t a e;exact⟨t,a,e⟩
        .rename_i e;simp[dG,e]at hk
        .rename_i e;simp[dG,e]at hk
        .rename_i e;simp[dG,e]at hk
        .cases qg
       refine⟨rfl,rfl,?_,k2⟩;simp only at ky;simp only[pG,ky];have:cG P a=ae:=by
        have:=vE qz;rw[ky]at this;simpa [Op.operands]using this
       exact(cZ F this).keep k5.keep k5.mon
     |alloc=>
      simp only[lL,hk,aF,aB]at k1;obtain⟨⟨u',ob⟩,hu,rfl,rfl⟩:=k1;simp only[hu];rw[show kP o=ah by simp[kP,hk]]at h
      simp only[aJ]at h;have γ':=γ.qt k5 (.put hfi) λ_ _ _ _ a ob h=>by rw[bZ,bH (λe=>by rw[e,hfi]at h;cases h)];exact h
      have nv:check P base (H.put (base+i) ob) ⟨i,o,A,u',aa ob⟩=ae:=by
       simp only[check,bZ,if_true];exact AD ob
      simp only[HQ,hk,aF,aB]at h1;obtain⟨⟨v',fp,p''⟩,hp,fe,rfl,rfl,rfl⟩:=h1;simp only at fe;subst fe;have fc:(∃o2,p''.get p.next=aa o2/\o2≠ .gone)->∀id,PI.vid v'=aa id->(PI.vid v'=aa id->id=p.next)->∃a,J1 id=aa (aa a)/\aBx base ⟨i,o,A,u',aa ob⟩ a/\check P base (H.put (base+i) ob) ⟨i,o,A,u',aa ob⟩=ae:=by
       intro hg id hid hid2;have:=hid2 hid;subst this;obtain⟨b,hb1,hb2⟩:=R.vid k3 k2 hid hg;exact⟨b,hb1,.inr ⟨by simp,MW hu hb2⟩,nv⟩
      obtain⟨dst,op,ty,pos,af,g⟩:=o;cases op with
      |alloc t=>
       have vj: ∀id,PI.vid v'=aa id->id∉p''.wr->_:=λid hid _=>fc (by
        simp only[fB]at hp;split at hp<;>try cases hp
        exact⟨_,by rw[lG,bI rfl],by simp⟩) id hid (λ_=>by
        simp only[fB]at hp;split at hp<;>try cases hp
        simp only[PI.vid,aA]at hid;exact hid.symm)
       refine fin (γ'.cons2 (q:=⟨i,⟨dst,.alloc t,ty,pos,af,g⟩,pG ⟨dst,.alloc t,ty,pos,af,g⟩ S,v',ah⟩) ⟨vj,rfl,λ_=>nv,λ_ ob' fi=>?_,λh=>(by cases h),λt a ky=>by cases ky⟩) h
       simp only[aA]at fi;subst fi;simp only[iF]at hu;split at hu
       .rename_i zz _;cases hc:zz.cells.toList.all bQ with
        |false=>rw[hc,aJ]at hu;cases hu
        |true=>rw[hc,aI]at hu;simp only[aA,aB]at hu;exact⟨_,hu.2.symm⟩
       .cases hu
      |box t x=>
       have vj: ∀id,PI.vid v'=aa id->id∉p''.wr->_:=λid hid _=>fc (by
        simp only[fB]at hp;have hp:=nF hp;simp only[aA,aB]at hp;obtain⟨_,_,rfl⟩:=hp;exact⟨_,by rw[lG,bI rfl],by simp⟩) id hid (λ_=>by
        simp only[fB]at hp;have hp:=nF hp;simp only[aA,aB]at hp;obtain⟨rfl,_,_⟩:=hp;simp only[PI.vid,aA]at hid;exact hid.symm)
       refine fin (γ'.cons2 (q:=⟨i,⟨dst,.box t x,ty,pos,af,g⟩,pG ⟨dst,.box t x,ty,pos,af,g⟩ S,v',ah⟩) ⟨vj,rfl,λ_=>nv,λ_ ob' fi=>?_,λh=>(by cases h),λt a ky=>by cases ky⟩) h
       simp only[aA]at fi;subst fi;simp only[iF]at hu;cases hc:(ev A x).cells.toList.all one with
       |false=>rw[hc,aJ]at hu;cases hu
       |true=>rw[hc,aI]at hu;simp only[aA,aB]at hu;exact⟨_,hu.2.symm⟩
      |makeSlice t l c=>
       have lz: ∀id,PI.vid v'=aa id->id=p.next/\∃o2,p''.get p.next=aa o2/\o2≠ .gone:=by
        intro id hid;simp only[fB]at hp;split at hp<;>try cases hp
        split at hp<;>try cases hp
        split at hp<;>try cases hp
        have hp:=nF hp;rcases aIu hp with hp|hp
        .simp only[aA,aB]at hp;obtain⟨rfl,_,_⟩:=hp;simp only[PI.vid]at hid;cases hid
        .have hp:=nF hp;simp only[aA,aB]at hp;obtain⟨rfl,_,rfl⟩:=hp;simp only[PI.vid,aA]at hid;exact⟨hid.symm,_,by rw[lG,bI rfl],by simp⟩
       exact fin (γ'.cons2 (q:=⟨i,⟨dst,.makeSlice t l c,ty,pos,af,g⟩,pG ⟨dst,.makeSlice t l c,ty,pos,af,g⟩ S,v',ah⟩) ⟨λid hid _=>fc (lz id hid).2 id hid (λ_=>(lz id hid).1),rfl,λ_=>nv,λhm=>(by cases hm),λh=>(by cases h),λt a ky=>by cases ky⟩) h
      |buildSlice t len parts=>
       refine fin (γ'.cons ?_) h;have fi: ∃cs s,ob= .cells cs (eG s)/\u'= .slice (aa ⟨base+i,0,ad⟩) len len:=by
        simp only[iF]at hu;split at hu
        .split at hu
         .rename_i s _;split at hu
          .rename_i z _;cases hc:z.cells.toList.all bQ&&an (len*s) 1000000&&am z.cells.size s&&an 1 s with
           |false=>rw[hc,aJ]at hu;cases hu
           |true=>
            rw[hc,aI]at hu;simp only[aF,aB]at hu;obtain⟨cs,_,h2,h3⟩:=hu;exact⟨_,s,h3.symm,h2.symm⟩
          .cases hu
         .cases hu
        .cases hu
       obtain⟨cs,s,rfl,rfl⟩:=fi;have jy:v'= .emp∨∃z es,v'= .sl z es:=by
        simp only[fB]at hp;split at hp
        .split at hp
         .rename_i s a z _ _ _;cases hc:an (len*s) 1000000&&am z.length s&&an 1 s&&(a||am s 1)with
          |false=>rw[hc,aJ]at hp;cases hp
          |true=>
           rw[hc,aI]at hp;split at hp
           .simp only[aA,aB]at hp;rw[<-hp.1];exact aOX _ _
           .cases hp
         .cases hp
        .cases hp
       have dj:=aEf k2 jy;intro J'' H'' kk mm zz;obtain⟨b,hb1,hb2,_⟩:=kk.row (base+i) dj cs (eG s) (by rw[bZ,bI rfl])
       have hbf:=hb2 rfl;subst hbf;simp only[check,hb1];exact AD _
      |_=>simp only[fB]at hp;cases hp
     |eff=>
      have k1':Al P ac H (ev A) o (base+i)=aa (u,H1):=by simpa only[lL,hk]using k1
      rw[show kP o=ae by simp[kP,hk]]at h
      simp only[aI]at h;cases hc:Pl.all (qE P p)with
      |false=>rw[hc,aJ]at h;cases h
      |true=>
       rw[hc,aI]at h;simp only[γ.check M hc,aI,k1'];have If:=γ.filter λk=> !lI (ms.getD i 0) k
       cases ha:oW o with
       |false=>
        rw[ha]at h;simp only[Bool.false_and,aJ]at h;exact fin (If.stale k5) h
       |true=>
        rw[ha]at h;simp only[Bool.true_and]at h;have hqt:Qt H H1:=by
         obtain⟨dst,op,ty,pos,af,g⟩:=o;cases op<;>simp only[oW]at ha<;>(try cases ha)
         rename_i c;obtain⟨callee,cargs,ats⟩:=c;cases callee with
         |builtin b=>
          cases b<;>(try cases ha)
          simp only[Al]at k1';split at k1'
          .exact UX hfi k1'
          .cases k1'
         |_=>cases ha
        exact fin (If.some k5 hqt) h
    .cases h
   .rename_i hw;rw[rY F hw,aJ];obtain⟨I1,M1,F1,A1⟩:=ZH M F o.dst;obtain⟨A',H',J',I',j1,j2,j3,j4,j5⟩:=ih Pl Rl J I1 _ p _ H S' p' gi.2 (λj hj=>cj j (aG _ hj)) hb γ M1 F1 h
    exact⟨A',H',J',I',j1,j2,j3,A1.trans j4,j5⟩
   .cases h
end
end Go.PI
namespace Go.PI
open Go.AI
def fS{n:Nat}{xs:List PV}:jK n xs=ae↔∀x∈xs,below n x=ae:=by
 induction xs with
 |nil=>simp[jK]
 |cons x xs ih=>simp[jK,ih]
def HP{n:Nat}{x:PV}(h:x.pur=ae):below n x=ae:=by cases x<;>first|rfl|simp[PV.pur]at h
def Ro{es:List PV}(h: ∀e∈es,e.cells.all PV.pur=ae){i:Nat}{x:PV}(hx:(eY es)[i]?=aa x):x.pur=ae:=by
 have:=iD hx;simp only[eY,List.mem_flatMap]at this;obtain⟨e,he,hx⟩:=this;exact(bJ.1 (h e he)) x hx
section
variable{P:aw}{J J' J'':Nu}{I I1 I':Ga}{H H':St}{S:PS}{A:Slots}
def vU{N:Type}{us:List N}{xs:List PV}(hl:xs.length=us.length){x:PV}(hx:x∈xs): ∃(i:Nat) (u:N),xs[i]?=aa x/\us[i]?=aa u:=by
 obtain⟨i,hi,rfl⟩:=List.mem_iff_getElem.1 hx;exact⟨i,us[i],aV hi,aV (by omega)⟩
def R.restrict{n:Nat}(hν: ∀k,k<n->J'' k=J' k)(dc: ∀k a,J'' k=aa (aa a)->J' k=aa (aa a)){x:PV}{u:au}(r:R J' H x u):PI.below n x=ae->R J'' H x u:=by
 have mc: ∀{id cs m},Fz J' H id cs m->Fz J'' H id cs m:=λh=>⟨h.1,λk hk=>h.2 k (dc k _ hk)⟩
 induction r with
 |und u=>intro _;exact .und u
 |v x h=>intro _;exact .v x h
 |str s=>intro _;exact .str s
 |agg xs us hl _ ih=>
  intro hb;simp only[PI.below]at hb;rw[fS]at hb;exact .agg xs us hl λi x u hx hu=>ih i x u hx hu (hb x (iD hx))
 |tup xs us hl _ ih=>
  intro hb;simp only[PI.below]at hb;rw[fS]at hb;exact .tup xs us hl λi x u hx hu=>ih i x u hx hu (hb x (iD hx))
 |nil=>intro _;exact .nil
 |emp0=>intro _;exact .emp0
 |emp1 id off c rcs m hr=>intro _;exact .emp1 id off c rcs m (mc hr)
 |emp2 b o s c=>intro _;exact .emp2 b o s c
 |sl z es id off c rcs m hz hs hr kz hb _ ih=>
  intro _;exact .sl z es id off c rcs m hz hs (mc hr) kz hb λi x u hx hu=>ih i x u hx hu (HP (Ro (λe he=>(hs e he).2) hx))
 |pin z es i off id base rcs m hs hr hb _ ih=>
  intro _;exact .pin z es i off id base rcs m hs (mc hr) hb λi x u hx hu=>ih i x u hx hu (HP (Ro (λe he=>(hs e he).2) hx))
 |ptr id off a h=>
  intro hb;simp only[PI.below,gZ,aD]at hb;exact .ptr id off a (by rw[hν id hb];exact h)
 |ptr0 id off a h=>
  intro hb;simp only[PI.below,gZ,aD]at hb;exact .ptr0 id off a (by rw[hν id hb];exact h)
 |rs id off len c a h=>
  intro hb;simp only[PI.below,gZ,aD]at hb;exact .rs id off len c a (by rw[hν id hb];exact h)
 |rs0 id off len c a h=>
  intro hb;simp only[PI.below,gZ,aD]at hb;exact .rs0 id off len c a (by rw[hν id hb];exact h)
 |fn f xs ys us vs hl _ fa _ ih sf=>
  intro hb;simp only[PI.below,aC]at hb;rw[fS,fS]at hb;exact .fn f xs ys us vs hl (λi x u hx hu=>ih i x u hx hu (hb.1 x (iD hx))) fa λi x u hx hu=>sf i x u hx hu (hb.2 x (iD hx))
def R.low{n:Nat}(hν: ∀k y,J k=aa y->k<n){x:PV}{u:au}(r:R J H x u):PI.below n x=ae:=by
 induction r with
 |agg xs us hl _ ih=>
  simp only[PI.below];rw[fS];intro x hx;obtain⟨i,u,h1,h2⟩:=vU hl hx;exact ih i x u h1 h2
 |tup xs us hl _ ih=>
  simp only[PI.below];rw[fS];intro x hx;obtain⟨i,u,h1,h2⟩:=vU hl hx;exact ih i x u h1 h2
 |ptr id off a h=>simp only[PI.below,gZ,aD];exact hν _ _ h
 |ptr0 id off a h=>simp only[PI.below,gZ,aD];exact hν _ _ h
 |rs id off len c a h=>simp only[PI.below,gZ,aD];exact hν _ _ h
 |rs0 id off len c a h=>simp only[PI.below,gZ,aD];exact hν _ _ h
 |fn f xs ys us vs hl _ fa _ ih sf=>
  simp only[PI.below,aC];rw[fS,fS];refine⟨λx hx=>?_,λx hx=>?_⟩
  .obtain⟨i,u,h1,h2⟩:=vU hl hx;exact ih i x u h1 h2
  .obtain⟨i,u,h1,h2⟩:=vU fa hx;exact sf i x u h1 h2
 |_=>rfl
def Ow.restrict{k:K}(dc: ∀k a,J'' k=aa (aa a)->J' k=aa (aa a)){x:PV}{u:au}(o:Ow J' I H k x u):Ow J'' I H k x u:=by
 have mc: ∀{id cs m},Fz J' H id cs m->Fz J'' H id cs m:=λh=>⟨h.1,λk hk=>h.2 k (dc k _ hk)⟩
 induction o with
 |nil x=>exact .nil x
 |exact x id off len rcs m hr=>exact .exact x id off len rcs m (mc hr)
 |zer x b o=>exact .zer x b o
 |tup x xs u us hx _ ih=>exact .tup x xs u us hx ih
 |tip z es id off c rcs m hr ht hw hg hb hk=>exact .tip z es id off c rcs m (mc hr) ht hw hg hb hk
def ObjR.restrict{n id:Nat}(hν: ∀k,k<n->J'' k=J' k)(dc: ∀k a,J'' k=aa (aa a)->J' k=aa (aa a))(hid:id<n){o:kL}(h:ObjR J' I H id o)(hb:sU n o=ae):ObjR J'' I H id o:=by
 cases o with
 |box cs=>
  obtain⟨a,us,h1,h2,h3,h4⟩:=h;simp only[sU,bJ]at hb;refine⟨a,us,by rw[hν id hid];exact h1,h2,h3,λi x b u hx hu=>?_⟩
  obtain⟨h5,h6,h7⟩:=h4 i x b u hx hu;exact⟨h5.restrict hν dc (hb _ (iD hx)),h6,λbp=>(h7 bp).restrict dc⟩
 |row z ag cs=>
  obtain⟨a,us,h1,h2,h3,h5,h4⟩:=h;simp only[sU]at hb;rw[fS]at hb;exact⟨a,us,by rw[hν id hid];exact h1,h2,h3,h5,λi x u hx hu=>(h4 i x u hx hu).restrict hν dc (hb x (iD hx))⟩
 |map es=>exact h
 |gone=>show J'' id=aa ad;rw[hν id hid];exact h
def ObjR.low{n id:Nat}(hν: ∀k y,J k=aa y->k<n){o:kL}(h:ObjR J I H id o):sU n o=ae:=by
 cases o with
 |box cs=>
  obtain⟨a,us,h1,h2,h3,h4⟩:=h;simp only[sU,bJ];intro c hc;obtain⟨i,hi,rfl⟩:=List.mem_iff_getElem.1 hc;have hx:cs[i]?=aa (cs[i].1,cs[i].2):=aV hi;have hu:us[i]?=aa (us[i]'(by omega)):=aV _
  exact(h4 i _ _ _ hx hu).1.low hν
 |row z ag cs=>
  obtain⟨a,us,h1,h2,h3,h5,h4⟩:=h;simp only[sU];rw[fS];intro x hx;obtain⟨i,u,e1,e2⟩:=vU h3.symm hx;exact(h4 i x u e1 e2).low hν
 |map es=>exact h.elim
 |gone=>rfl
def fE{old d:List Nat}{k:Nat}:k∈old.foldr Gy d↔k∈old∨k∈d:=by
 induction old with
 |nil=>simp
 |cons x old ih=>simp only[List.foldr_cons,mQ,ih,List.mem_cons,or_assoc]
def B0{mem q:Tr kL}{old:List Nat}(hf: ∀id∈old,q.get id≠ad)(k:Nat):(old.foldr (aIy q) mem).get k=if k∈old then q.get k else mem.get k:=by
 induction old with
 |nil=>simp
 |cons x old ih=>
  simp only[List.foldr_cons];have ih:=ih λid hid=>hf id (aG _ hid)
  cases hx:q.get x with
  |none=>exact absurd hx (hf x (aH ..))
  |some o=>
   simp only[aIy,hx,Tr.get_set];by_cases e:k=x
   .subst e;simp[hx]
   .rw[bH e,ih];by_cases e2:k∈old
    .rw[bI e2,bI (aG _ e2)]
    .rw[bH e2,bH (by simp[e,e2])]
def aCi{p p':PSt}(M:Mem J I p H)(M':Mem J' I' p' H')(adv:Adv J I (a8J p) H J' I' p' H'){v:PV}{u:au}{own:Bool}(r:R J' H' v u)(ho:own=ae->Ow J' I' H' .hand v u):
    ∃J'',R J'' H' v u/\(own=ae->Ow J'' I' H' .hand v u)/\Mem J'' I' (settle p v p') H'/\Adv J I p H J'' I' (settle p v p') H':=by
 have hn:p.next<=p'.next:=adv.dp.next
 have nq: ∀k,k<p.next->k∉p'.dirty->p'.mem.get k=p.mem.get k:=adv.dp.mem
 unfold settle;cases hc:below p.next v&&(p'.dirty.filter λid=>Nat.blt id p.next).all (wD p.next p'.mem)with
 |false=>
  simp only[aJ];refine⟨J',r,ho,⟨M'.le,M'.lt,M'.inj,M'.live,M'.get,M'.free,M'.ver⟩,⟨adv.keep,adv.mon,adv.out,⟨hn,λid hid=>fE.2 (.inr hid),λid hid=>fE.2 (.inr hid),λk hk hd=>?_⟩,adv.rz,λid a hi hd=>adv.bx id a hi λhh=>hd (fE.2 (.inl (List.mem_filter.2 ⟨hh,by rw[gZ];simpa using M.le _ _ hi⟩)))⟩⟩
  refine nq k hk λhh=>hd (fE.2 (.inl ?_))
  rw[List.mem_filter];exact⟨hh,by rw[gZ];simpa using hk⟩
 |true=>
  simp only[aI];simp only[aC,bJ]at hc;obtain⟨hv,hold⟩:=hc;have hmo: ∀{k},k∈(p'.dirty.filter λid=>Nat.blt id p.next)↔k∈p'.dirty/\k<p.next:=by
   intro k;rw[List.mem_filter,gZ];simp
  generalize hO:(p'.dirty.filter λid=>Nat.blt id p.next)=old at*
  have hf: ∀id∈old,p'.mem.get id≠ad:=λid hid h=>by
   have:=hold id hid;simp only[wD,h]at this;cases this
  have bc: ∀k,PSt.get ⟨old.foldr (aIy p'.mem) p.mem,p.next,old.foldr Gy p.dirty,(p'.wr.filter λid=>Nat.blt id p.next).foldr Gy p.wr⟩ k=if k<p.next then p'.mem.get k else ad:=by
   intro k;simp only[PSt.get,gZ,Bool.cond_decide];by_cases hk:k<p.next
   .simp only[hk,if_true];rw[B0 hf];by_cases e:k∈old
    .rw[bI e]
    .rw[bH e];exact(nq k hk λhh=>e (hmo.2 ⟨hh,hk⟩)).symm
   .simp[hk]
  have qc: ∀k,k<p.next->p'.get k=p'.mem.get k:=by
   intro k hk;simp only[PSt.get,gZ,Bool.cond_decide];rw[bI (by omega)]
  have hνn: ∀k,k<p.next->(λk=>if k<p.next then J' k else ad) k=J' k:=λk hk=>by simp[hk]
  have dc: ∀k a,(λk=>if k<p.next then J' k else ad) k=aa (aa a)->J' k=aa (aa a):=λk a h=>by
   by_cases hk:k<p.next
   .simpa [hk]using h
   .simp[hk]at h
  refine⟨λk=>if k<p.next then J' k else ad,r.restrict hνn dc hv,λh=>(ho h).restrict dc,⟨λk x hk=>?_,λk a hk=>M'.lt k a (dc k a hk),λi j a hi hj=>M'.inj i j a (dc i a hi) (dc j a hj),λk a hk=>?_,λk o hk=>?_,M'.free,M'.ver⟩,
   ⟨adv.keep,⟨λid x hx=>?_,λid a ha=>adv.mon.2 id a (dc id a ha)⟩,adv.out,⟨aS _,λid hid=>fE.2 (.inr hid),λid hid=>fE.2 (.inr hid),λk hk hd=>?_⟩,adv.rz,λid a hi hd=>by
    have bi:=M.le _ _ hi;obtain⟨e1,e2⟩:=adv.bx id a hi λhh=>hd (fE.2 (.inl (List.mem_filter.2 ⟨hh,by rw[gZ];simpa using bi⟩)))
    exact⟨e1,by show(if id<p.next then J' id else ad)=_;rw[bI bi];exact e2⟩⟩⟩
  .by_cases h:k<p.next
   .exact h
   .simp[h]at hk
  .have h1:=dc k a hk;have pj:k<p.next:=by
    by_cases h:k<p.next
    .exact h
    .simp[h]at hk
   obtain⟨o,gq⟩:=M'.live k a h1;rw[qc k pj]at gq;exact⟨o,by rw[bc,bI pj];exact gq⟩
  .rw[bc]at hk;by_cases pj:k<p.next
   .rw[bI pj]at hk;have hobj:=M'.get k o (by rw[qc k pj];exact hk)
    refine hobj.restrict hνn dc pj ?_;by_cases e:k∈old
    .have:=hold k e;simp only[wD,hk]at this;exact this
    .have h0:p.mem.get k=aa o:=by rw[<-nq k pj λhh=>e (hmo.2 ⟨hh,pj⟩)];exact hk
     have:p.get k=aa o:=by
      simp only[PSt.get,gZ,Bool.cond_decide];rw[bI pj];exact h0
     exact(M.get k o this).low M.le
   .rw[bH pj]at hk;cases hk
  .have hid:=M.le id x hx;rcases adv.mon.1 id x hx with h1|h1
   .left;show(if id<p.next then J' id else ad)=aa x;rw[bI hid];exact h1
   .right;show(if id<p.next then J' id else ad)=aa ad;rw[bI hid];exact h1
  .rw[B0 hf];rw[bH λe=>hd (fE.2 (.inl e))]
end
end Go.PI
namespace Go.PI
open Go.AI
def rR:PC->Prop
 | .region _ ops draw ms sc=>if draw then ms=gG ops.toList []/\gF sc=zI ops ms else gF sc=List.range ops.size
 | .seq a b=>rR a/\rR b
 | .cond _ a b=>rR a/\rR b
 | .block _ c=>rR c
 | .loop c=>rR c
 | .scope c=>rR c
 | .drop _ c=>rR c
 | .ice _ c=>rR c
 |_=>True
def SM{ops:Array Oper}{ms:List Nat}: ∀{l done:List Nat},P6 ops ms l done=ae->l.Nodup/\(∀i∈l,i<ops.size/\i∉done):=by
 intro l;induction l with
 |nil=>intro done _;exact⟨List.nodup_nil,λi hi=>by simp at hi⟩
 |cons i l ih=>
  intro done h;simp only[P6,aC]at h;obtain⟨⟨⟨⟨h1,h2⟩,h3⟩,h4⟩,h5⟩:=h;obtain⟨h6,h7⟩:=ih h5;have hi:i<ops.size:=by rw[gZ]at h1;simpa using h1
  have hd:i∉done:=by simpa using h2
  refine⟨List.nodup_cons.2 ⟨λhh=>(h7 i hh).2 (aH ..),h6⟩,λj hj=>?_⟩
  rcases List.mem_cons.1 hj with rfl|hj
  .exact⟨hi,hd⟩
  .exact⟨(h7 j hj).1,λhh=>(h7 j hj).2 (aG _ hh)⟩
section
variable{P:aw}{J J' J'':Nu}{I I1 I':Ga}{H H':St}{S:PS}{A:Slots}
def GR{ops:Array Oper}(h:Ds ops=ae):(zI ops (gG ops.toList [])).Nodup/\∀i∈zI ops (gG ops.toList []),i<ops.size/\i∉([]:List Nat):=by
 unfold Ds at h;split at h
 .simp only[Ew,aC]at h;exact SM h.1
 .cases h
def aCU{ops:Array Oper}{o:Option (PS×PSt)}{r:PS×PSt}(h:aHG ops o=aa r):o=aa r/\Eu ops r.1 r.2=ae:=by
 unfold aHG at h;split at h
 .rename_i r';cases hb:Eu ops r'.1 r'.2 with
  |true=>rw[hb,aI]at h;cases h;exact⟨rfl,hb⟩
  |false=>rw[hb]at h;cases h
 .cases h
def aOA{ops:Array Oper}{p:PSt}(M:Mem J I p H)(F:FR J I H S A)(h:Eu ops S p=ae):aOB ops A H=ae:=by
 unfold Eu at h;unfold aOB;split at h
 .rename_i e;rw[e]
 .rename_i s t e;rw[e];simp only;have r1:=(F s).1;have r2:=(F t).1;split at h
  .rename_i es i off id o2 e1 e2;rw[e1]at r1;rw[e2]at r2;split at h
   .rename_i cs hg;obtain⟨a,us,n1,n2,_⟩:=M.get _ _ hg;show(match A.at s,A.at t with
     | .pointer (aa ⟨i,_,ad⟩),.pointer (aa ⟨j,_,ad⟩)=> !Nat.beq i j&&(match H.get j with|some (.cells _ m)=>m.grp.isNone|_=>ah)
     |_,_=>ah)=ae
    generalize A.at s=u1 at*;generalize A.at t=u2 at*;cases r1 with
    |pin z _ _ _ bu base rcs m hs hr hb h=>
     cases r2 with
     |ptr _ _ a' hν=>
      rw[hν]at n1;simp only[aA]at n1;subst n1;have:bu≠a':=λe=>hr.2 _ (e▸hν)
      simp only[dN,bG this,n2,boxMeta,Option.isNone_none,Bool.not_false,Bool.and_self]
     |ptr0 _ _ a' hν=>rw[hν]at n1;cases n1
   .cases h
  .cases h
 .cases h
def BS(n:Nat):Keep J kK H {H with next:=H.next+n}:=⟨rfl,Nat.le_add_right _ _,λ_ h=>h,λa _ cs m h=>⟨m.tip,h,λh=>h,λ_=>rfl⟩⟩
def Mem.more{p:PSt}(M:Mem J I p H)(n:Nat):Mem J I p {H with next:=H.next+n}:=
 ⟨M.le,λid a h=>Nat.lt_of_lt_of_le (M.lt id a h) (Nat.le_add_right _ _),M.inj,M.live,λid o h=>(M.get id o h).keep (I1:=kK) (BS n) (.refl H J) rfl (λ_ _=>rfl) λi off hi _=>⟨rfl,hi⟩,
  λa ha=>M.free a (Nat.le_trans (Nat.le_add_right _ _) ha),M.ver⟩
def FR.more(F:FR J I H S A)(n:Nat):FR J I {H with next:=H.next+n} S A:=F.keep (I1:=kK) (BS n) (.refl H J) λi t hi _=>⟨rfl,hi⟩
def Adv.more{p:PSt}(n:Nat):Adv J I p H J I p {H with next:=H.next+n}:=⟨(BS n).weak λ_ _=>rfl,.refl H J,.refl H I,.refl p,λa cs m h=>⟨cs,m.tip,h⟩,λ_ _ h _=>⟨rfl,h⟩⟩
def Mem.cln{p:PSt}(M:Mem J I p H):Mem J I (PI.cln p) H:=⟨M.le,M.lt,M.inj,M.live,M.get,M.free,M.ver⟩
def Mem.dty{p':PSt}(M:Mem J I p' H)(p:PSt):Mem J I (PI.dty p p') H:=⟨M.le,M.lt,M.inj,M.live,M.get,M.free,M.ver⟩
def Adv.dty{p p':PSt}(h:Adv J I (PI.cln p) H J' I' p' H'):Adv J I p H J' I' (PI.dty p p') H':=
 ⟨h.keep,h.mon,h.out,⟨h.dp.next,λid hi=>h.dp.dirty id hi,λid hi=>fE.2 (.inr hi),λk hk hd=>h.dp.mem k hk hd⟩,h.rz,λid a hi hd=>h.bx id a hi λhh=>hd (fE.2 (.inl hh))⟩
def SZ{pc:jB}{ac:FuncId->Array au->St->Option (au×St)}(bj:oL pc ac){α id:Nat}{ops:Array Oper}{draw:Bool}{ms:List Nat}{sc:List Bw}{p p':PSt}{S':PS}
    (bz:fH P α (.region id ops draw)=ae) (dw:rR (.region id ops draw ms sc)) (M:Mem J I p H) (F:FR J I H S A)
    (h:(bif draw then(aHG ops (kM P pc ops ms sc [] S (cln p))).map (λr=>(r.1,dty p r.2))else yO P pc ops sc S p)=aa (S',p')):
    ∃A' H' J' I',iN P ac ops draw A H=aa (A',H')/\Mem J' I' p' H'/\FR J' I' H' S' A'/\Adv J I p H J' I' p' H'/\(∀j,j<H.next->H.get j=ad->H'.get j=ad):=by
 simp only[fH,aC,bJ,b9,Bool.not_eq_true']at bz;obtain⟨dq,hdr⟩:=bz;have qx: ∀o∈ops.toList,o.op.operands.all (cG P)=ae:=λo ho=>by
  have:=dq o ho;simp only[sE,aC]at this;exact this.2
 unfold iN;cases draw with
 |false=>
  simp only[aJ]at h⊢;simp only[rR]at dw;obtain⟨A',H',J',I',h1,h2,h3,h4,h5⟩:=aN6 bj (base:=H.next) qx sc 0 J I S p A {H with next:=H.next+ops.size} S' p' (by simpa [List.range_eq_range']using dw) (a8 _) (aS _)
   (λj _ hj=>M.free _ (Nat.le_add_right _ _)) (M.more _) (F.more _) h
  exact⟨A',H',J',I',h1,h2,h3,(Adv.more _).trans h4,λj hj hn=>h5 j hj hn⟩
 |true=>
  simp only[aI]at h⊢;simp only[rR,if_true]at dw;obtain⟨rfl,dw⟩:=dw;have hD:=hdr.resolve_left (by simp)
  obtain⟨gi,bi⟩:=GR hD;simp only[aF,aB]at h;obtain⟨⟨S2,p2⟩,h,rfl,rfl⟩:=h;obtain⟨h,htw⟩:=aCU h;obtain⟨A',H',J',I',h1,h2,h3,h4,h5⟩:=aEA bj (base:=H.next) qx sc [] [] J I S (cln p) A {H with next:=H.next+ops.size} S2 p2 (by rw[dw];exact gi)
   (λj hj=>⟨(bi j (by rw[<-dw];exact hj)).1,M.free _ (Nat.le_add_right _ _)⟩) (aS _) (λr hr=>by simp at hr) (M.cln.more _) (F.more _) h
  rw[dw]at h1;refine⟨A',H',J',I',?_,h2.dty p,h3,(Adv.more _).trans h4.dty,λj hj hn=>h5 j hj hn⟩
  rw[h1];simp only[aHE,aOA h2 h3 htw,aI]
def a8i(P:aw)(ac:FuncId->Array au->St->Option (au×St))(L:Nat)(run:PS->PSt->Option (Fl×PS×PSt))(qo:Slots->St->Option (Fl×Slots×St)):Prop:=
 ∀(J:Nu) (I:Ga) (S:PS) (p:PSt) (A:Slots) (H:St) (fl:Fl) (S':PS) (p':PSt),Mem J I p H->FR J I H S A->run S p=aa (fl,S',p')->
  ∃A' H' J' I',qo A H=aa (fl,A',H')/\Mem J' I' p' H'/\FR J' I' H' S' A'/\Adv J I p H J' I' p' H'/\(∀j,j<H.next->H.get j=ad->H'.get j=ad)
def aGU{ac:FuncId->Array au->St->Option (au×St)}{L:Nat}{run:PS->PSt->Option (Fl×PS×PSt)}{qo:Slots->St->Option (Fl×Slots×St)}(h:a8i P ac L run qo): ∀n,a8i P ac L (AV run n) (TN qo n):=by
 intro n;induction n with
 |zero=>intro J I S p A H fl S' p' M F hr;simp only[AV]at hr;cases hr
 |succ n ih=>
  intro J I S p A H fl S' p' M F hr;simp only[AV]at hr;simp only[TN];cases hb:run S p with
  |none=>rw[hb]at hr;cases hr
  |some r=>
   obtain⟨f1,S1,p1⟩:=r;rw[hb]at hr;obtain⟨A1,H1,J1,I1,k1,k2,k3,k4,k5⟩:=h J I S p A H f1 S1 p1 M F hb;rw[k1];cases f1 with
   |normal=>
    simp only at hr⊢;obtain⟨A',H',J',I',j1,j2,j3,j4,j5⟩:=ih J1 I1 S1 p1 A1 H1 fl S' p' k2 k3 hr;exact⟨A',H',J',I',j1,j2,j3,k4.trans j4,λj hj hn=>j5 j (Nat.lt_of_lt_of_le hj k4.keep.next) (k5 j hj hn)⟩
   |exit m=>
    simp only[aA,aB]at hr;obtain⟨rfl,rfl,rfl⟩:=hr;exact⟨A1,H1,J1,I1,rfl,k2,k3,k4,k5⟩
   |ret=>
    simp only[aA,aB]at hr;obtain⟨rfl,rfl,rfl⟩:=hr;exact⟨A1,H1,J1,I1,rfl,k2,k3,k4,k5⟩
def aHQ{pc:jB}{ac:FuncId->Array au->St->Option (au×St)}(bj:oL pc ac)(L α:Nat): ∀(c:PC),rR c->fH P α (eS c)=ae->a8i P ac L (eX P pc L c) (cM P ac L (eS c)):=by
 intro c;induction c with
 |skip=>
  intro _ _ J I S p A H fl S' p' M F h;simp only[eX,aA,aB]at h;obtain⟨rfl,rfl,rfl⟩:=h;exact⟨A,H,J,I,rfl,M,F,.refl J I _ H,λj _ h=>h⟩
 |label l=>
  intro _ _ J I S p A H fl S' p' M F h;simp only[eX,aA,aB]at h;obtain⟨rfl,rfl,rfl⟩:=h;exact⟨A,H,J,I,rfl,M,F,.refl J I _ H,λj _ h=>h⟩
 |region id ops draw ms sc=>
  intro hk bz J I S p A H fl S' p' M F h;simp only[eX,aF,aB]at h;obtain⟨⟨S1,p1⟩,hr,rfl,rfl,rfl⟩:=h;obtain⟨A',H',J',I',h1,h2,h3,h4,h5⟩:=SZ bj bz hk M F hr;exact⟨A',H',J',I',by simp only[eS,cM,h1];rfl,h2,h3,h4,h5⟩
 |seq a b ff jk=>
  intro hk bz J I S p A H fl S' p' M F h;simp only[eS,fH,aC]at bz;simp only[eX]at h;simp only[eS,cM];cases hb:eX P pc L a S p with
  |none=>rw[hb]at h;cases h
  |some r=>
   obtain⟨f1,S1,p1⟩:=r;rw[hb]at h;obtain⟨A1,H1,J1,I1,k1,k2,k3,k4,k5⟩:=ff hk.1 bz.1 J I S p A H f1 S1 p1 M F hb;rw[k1];cases f1 with
   |normal=>
    simp only at h⊢;obtain⟨A',H',J',I',j1,j2,j3,j4,j5⟩:=jk hk.2 bz.2 J1 I1 S1 p1 A1 H1 fl S' p' k2 k3 h;exact⟨A',H',J',I',j1,j2,j3,k4.trans j4,λj hj hn=>j5 j (Nat.lt_of_lt_of_le hj k4.keep.next) (k5 j hj hn)⟩
   |exit m=>
    simp only[aA,aB]at h;obtain⟨rfl,rfl,rfl⟩:=h;exact⟨A1,H1,J1,I1,rfl,k2,k3,k4,k5⟩
   |ret=>
    simp only[aA,aB]at h;obtain⟨rfl,rfl,rfl⟩:=h;exact⟨A1,H1,J1,I1,rfl,k2,k3,k4,k5⟩
 |cond x a b ff jk=>
  intro hk bz J I S p A H fl S' p' M F h;simp only[eS,fH,aC]at bz;simp only[eX]at h;have hx:=cZ F bz.1.1;split at h
  .rename_i e;rw[e]at hx;obtain⟨A',H',J',I',k1,k2⟩:=ff hk.1 bz.1.2 J I S p A H fl S' p' M F h;refine⟨A',H',J',I',?_,k2⟩;simp only[eS,cM];generalize ev A x=w at hx;cases hx;exact k1
  .rename_i e;rw[e]at hx;obtain⟨A',H',J',I',k1,k2⟩:=jk hk.2 bz.2 J I S p A H fl S' p' M F h;refine⟨A',H',J',I',?_,k2⟩;simp only[eS,cM];generalize ev A x=w at hx;cases hx;exact k1
  .cases h
 |block id c ih=>
  intro hk bz J I S p A H fl S' p' M F h;simp only[eS,fH]at bz;simp only[eX]at h;simp only[eS,cM];cases hb:eX P pc L c S p with
  |none=>rw[hb]at h;cases h
  |some r=>
   obtain⟨f1,S1,p1⟩:=r;rw[hb]at h;obtain⟨A1,H1,J1,I1,k1,k2,k3,k4,k5⟩:=ih hk bz J I S p A H f1 S1 p1 M F hb;rw[k1];cases f1 with
   |normal=>
    simp only[aA,aB]at h;obtain⟨rfl,rfl,rfl⟩:=h;exact⟨A1,H1,J1,I1,rfl,k2,k3,k4,k5⟩
   |exit m=>
    simp only at h⊢;cases he:am m id with
    |true=>
     simp only[he,aI,aA,aB]at h⊢;obtain⟨rfl,rfl,rfl⟩:=h;exact⟨A1,H1,J1,I1,⟨rfl,rfl,rfl⟩,k2,k3,k4,k5⟩
    |false=>
     simp only[he,aJ,aA,aB]at h⊢;obtain⟨rfl,rfl,rfl⟩:=h;exact⟨A1,H1,J1,I1,⟨rfl,rfl,rfl⟩,k2,k3,k4,k5⟩
   |ret=>
    simp only[aA,aB]at h;obtain⟨rfl,rfl,rfl⟩:=h;exact⟨A1,H1,J1,I1,rfl,k2,k3,k4,k5⟩
 |loop c ih=>
  intro hk bz;simp only[eS,fH]at bz;exact aGU (ih hk bz) L
 |exit id=>
  intro _ _ J I S p A H fl S' p' M F h;simp only[eX,aA,aB]at h;obtain⟨rfl,rfl,rfl⟩:=h;exact⟨A,H,J,I,rfl,M,F,.refl J I _ H,λj _ h=>h⟩
 |ret=>
  intro _ _ J I S p A H fl S' p' M F h;simp only[eX,aA,aB]at h;obtain⟨rfl,rfl,rfl⟩:=h;exact⟨A,H,J,I,rfl,M,F,.refl J I _ H,λj _ h=>h⟩
 |scope c ih=>
  intro hk bz;simp only[eS,fH]at bz;exact ih hk bz
 |other c=>intro _ _ J I S p A H fl S' p' M F h;simp only[eX]at h;cases h
 |drop ts c ih=>
  intro hk bz J I S p A H fl S' p' M F h;simp only[eX]at h;exact ih hk bz J I _ p A H fl S' p' M (F.keeps ts) h
 |ice t c ih=>
  intro hk bz J I S p A H fl S' p' M F h;simp only[eX]at h;split at h
  .rename_i S1 p1 h1;obtain⟨J1,M1,F1,A1⟩:=zY M F h1;obtain⟨A',H',J',I',k1,k2,k3,k4,k5⟩:=ih hk bz J1 I S1 p1 A H fl S' p' M1 F1 h;exact⟨A',H',J',I',k1,k2,k3,A1.trans k4,k5⟩
  .cases h
def Rs: ∀(l:List (PV×Bool)) (i:Nat) (S:PS) (k:Nat),(Bb l i S).at k=if i<=k/\k<i+l.length then(l[k-i]?).getD (.und,ah)else S.at k:=by
 intro l;induction l with
 |nil=>intro i S k;simp[Bb];omega
 |cons x l ih=>
  intro i S k;simp only[Bb,ih,qJ,aM];by_cases h:k=i
  .subst h;simp;omega
  .by_cases h2:i+1<=k/\k<i+1+l.length
   .rw[bI h2,bI (by omega),show k-i=(k-(i+1))+1 by omega,aT]
   .rw[bH h2,bH h,bH (by omega)]
def FR.fill{args:List (PV×Bool)}{us:List au}(r:RL J H (args.map (·.1)) us)(ho: ∀(i:Nat) (x:PV) (w:au),args[i]?=aa (x,ae)->us[i]?=aa w->Ow J I H (.slot i) x w):FR J I H (Bb args 0 .none) (mC us 0 .nil):=by
 intro t;rw[Rs,E9];have hl:args.length=us.length:=by have:=r.1;simpa using this
 by_cases h:0<=t/\t<0+args.length
 .rw[bI h,bI (by rw[<-hl];exact h)]
  have h1:args[t]?=aa (args[t]'(by omega)):=aV _
  obtain⟨u,h2,h3⟩:=r.get (i:=t) (x:=(args[t]'(by omega)).1) (by rw[List.getElem?_map,h1];rfl)
  simp only[Nat.sub_zero,h1,h2,Option.getD_some];refine⟨h3,λhb=>ho t _ u ?_ h2⟩
  rw[h1,<-hb]
 .rw[bH h];exact⟨.und _,λh=>(by cases h)⟩
def QB{p:PSt}(M:Mem J I p H)(F:FR J I H S A): ∀(l:List ResultVar) (vs:List (PV×Bool)),gN P S p l=aa vs->∃us,gJ P A H l=aa us/\RL J H (vs.map (·.1)) us:=by
 intro l;induction l with
 |nil=>intro vs h;simp only[gN,aA]at h;subst h;exact⟨[],rfl,.nil⟩
 |cons r l ih=>
  intro vs h;simp only[gN]at h;split at h
  .rename_i v pe hv jy;simp only[aA]at h;subst h;obtain⟨us,h1,h2⟩:=ih pe jy;have: ∃u,BG P A H r=aa u/\R J H v.1 u:=by
    cases r with
    |tmp t=>simp only[rZ,aA]at hv;subst hv;exact⟨_,rfl,(F t).1⟩
    |cell a t=>
     simp only[rZ,aF]at hv;obtain⟨v',hl,rfl⟩:=hv;exact Ek M (F a).1 hl
   obtain⟨u,h3,h4⟩:=this;exact⟨u::us,by simp only[gJ,h3,h1],.cons h4 h2⟩
  .cases h
def aHH{p:PSt}(M:Mem J I p H)(F:FR J I H S A){r:ResultVar}{l:List ResultVar}{v:PV×Bool}{vs:List (PV×Bool)}(h:gN P S p (r::l)=aa (v::vs)){u:au}{us:List au}(h1:gJ P A H (r::l)=aa (u::us))(h3:R J H v.1 u):
    ∃I',(((v.2||kN v.1)&& !K2 v.1)=ae->Ow J I' H .hand (wk v.1) u)/\G2 I I':=by
 cases r with
 |tmp t=>
  have hv:v=S.at t:=by
   simp only[gN,rZ]at h;split at h
   .rename_i v' pe e1 e2;simp only[aA,List.cons.injEq]at h e1;rw[<-h.1,<-e1]
   .cases h
  have hu:u=A.at t:=by
   simp only[gJ,BG]at h1;split at h1
   .rename_i v' pe e1 e2;simp only[aA,List.cons.injEq]at h1 e1;rw[<-h1.1,<-e1]
   .cases h1
  refine⟨PI.mv (.slot t) .hand I,λho=>?_,.mv (by simp) (by simp)⟩
  simp only[aC]at ho;subst hv;subst hu;have how:Ow J (PI.mv (.slot t) .hand I) H .hand (S.at t).1 (A.at t):=by
   cases hs:(S.at t).2 with
   |true=>exact((F t).2 hs).mv (k':= .hand)
   |false=>
    rw[hs,Bool.false_or]at ho;have h5:=(F t).1;cases hx:(S.at t).1 with
    |nil=>rw[hx]at h5;generalize A.at t=w at h5⊢;cases h5;exact .nil _
    |_=>rw[hx]at ho;cases ho.1
  exact how.wk (by simpa using ho.2)
 |cell a t=>
  refine⟨I,λho=>?_,.refl I⟩
  simp only[gN,rZ]at h;split at h
  .rename_i v' pe e1 e2;simp only[aA,List.cons.injEq]at h;simp only[aF]at e1;obtain⟨v2,_,rfl⟩:=e1;simp only[<-h.1,Bool.false_or,aC]at ho⊢;rw[<-h.1]at h3;cases v2 with
   |nil=>cases h3;exact .nil _
   |_=>cases ho.1
  .cases h
def UT{p:PSt}(M:Mem J I p H)(F:FR J I H S A){l:List ResultVar}{vs:List (PV×Bool)}(h:gN P S p l=aa vs):
    ∃us I',gJ P A H l=aa us/\R J H (eJ vs).1 (Cb us)/\((eJ vs).2=ae->Ow J I' H .hand (eJ vs).1 (Cb us))/\G2 I I':=by
 obtain⟨us,h1,h2⟩:=QB M F l vs h;cases vs with
 |nil=>
  have:=h2.nil_inv;subst this;exact⟨[],I,h1,.mkTup .nil,λh=>(by cases h),.refl I⟩
 |cons v vs=>
  cases l with
  |nil=>simp[gN]at h
  |cons r l=>
   obtain⟨u,jg,rfl,h3,h4⟩:=h2.cons_inv;obtain⟨I',g1,g2⟩:=aHH M F h h1 h3;cases vs with
   |nil=>
    have:=h4.nil_inv;subst this;exact⟨[u],I',h1,h3.wk,g1,g2⟩
   |cons v2 vs=>
    obtain⟨u2,us'',rfl,h5,h6⟩:=h4.cons_inv;refine⟨_,I',h1,.mkTup h2.wks,λh=>?_,g2⟩
    simp only[eJ]at h;rw[aC]at h;refine .tup _ _ u _ ?_ (g1 h.1);have h5:=h.2;show(wk v.1).one=ae;generalize v.1=x at h5⊢;cases x with
    |sl z es=>cases es<;>rfl
    |emp=>rfl
    |nil=>rfl
    |_=>cases h5
end
end Go.PI
namespace Go.PI
open Go.AI
def a9X:List Nat->List Nat->List Nat
 |[],l=>l
 |x::xs,l=>bif l.contains x then a9X xs l else x::a9X xs l
def del(l:List Nat)(k:List Nat):List Nat:=l.filter λx=> !k.contains x
def aSu:az->List Nat
 | .tmp t=>[t]
 |_=>[]
def aWs(ops:Array Oper)(o:Oper):List Nat:=
 o.op.operands.toList.flatMap aSu++(match o.guard with|some (j,_)=>(match ops[j]? with|some q=>q.dst.toList|none=>[])|none=>[])
def aAC(ops:Array Oper):List Oper->List Nat->List Nat
 |[],out=>out
 |o::os,out=>a9X (aWs ops o) (del (aAC ops os out) o.dst.toList)
def lv(rs:List Nat):Code->List Nat->List (Nat×List Nat)->List Nat
 | .region _ ops _,out,_=>aAC ops ops.toList out
 | .seq a b,out,ex=>lv rs a (lv rs b out ex) ex
 | .cond c a b,out,ex=>a9X (aSu c) (a9X (lv rs a out ex) (lv rs b out ex))
 | .block id c,out,ex=>lv rs c out ((id,out)::ex)
 | .loop c,_,ex=>lv rs c [] ex
 | .exit id,_,ex=>match ex.find? λe=>am e.1 id with|some e=>e.2|none=>[]
 | .ret,_,_=>rs
 | .scope c,out,ex=>lv rs c out ex
 |_,out,_=>out
def aTj(ops:Array Oper)(a i s:Nat):Bool:=
 match ops[a]?,ops[i]?,ops[s]? with
 |some oA,aa oI,aa oS=>
  match oA.op,oA.dst,oI.op,oI.dst,oS.op with
  | .call c,aa d,.indexAddr _ (.tmp d') _,aa b,.store _ (.tmp b') _=>oW oA&&am d d'&&am b b'
  |_,_,_,_,_=>ah
 |_,_,_=>ah
end Go.PI
namespace Go.PI
open Go.AI
section
variable{P:aw}{J J' J'':Nu}{I I1 I':Ga}{H H':St}{S:PS}{A:Slots}
def bKV:OV->PV
 | .s l=> .str l
 | .t=> .v (.bool ae)
def aOw(O:DD)(f:FuncId)(args:List (PV×Bool)):Option OV:=
 bif am f O.n then(match args with
 |[(.v (.int .i64 a),_),(.v (.int .i64 b),_)]=>(O.s a b).map .s
 |_=>ad)else bif am f O.m then(match args with
 |[]=>aa .t
 |_=>ad)else ad
def aTn(O:DD)(f:FuncId)(args:List (PV×Bool)):Bool:=
 bif am f O.n then(match args with
 |[(.v (.int .i64 a),_),(.v (.int .i64 b),_)]=>ae
 |_=>ah)else bif am f O.m then(match args with
 |[]=>ae
 |_=>ah)else ae
variable(P) in
def HG(pc:jB)(L:Nat)(c:PC)(rs:List ResultVar)(args:List (PV×Bool))(p:PSt):Option (PV×Bool×PSt):=match eX P pc L c (Bb args 0 .none) (a8J p)with
 |some (.exit _,_,_)=>ad
 |some (_,S,p')=>match gN P S p' rs with
  |some vs=>aa ((eJ vs).1,(eJ vs).2,settle p (eJ vs).1 p')
  |none=>ad
 |none=>ad
variable(P) in
def sS(O:DD)(G:aKv)(L:Nat):Nat->jB
 |0,_,_,_=>ad
 |n+1,f,args,p=>match aOw O f args with
  |some s=>aa (bKV s,ah,p)
  |none=>bif !aTn O f args|| !Ca P f args.length then ad else match G f with
   |some (c,rs)=>HG P (sS O G L n) L c rs args p
   |none=>ad
def R.int_inv{x:Int}{k:IntKind}{u:au}(h:R J H (.v (.int k x)) u):u= .int k x:=by cases h;rfl
def aF9{O:DD}{f:FuncId}{args:List (PV×Bool)}{us:Array au}(r:RL J H (args.map (·.1)) us.toList)(h:aTn O f args=ae):bC4 O f us=(aOw O f args).map OV.v:=by
 unfold aTn at h;unfold bC4 aOw;cases hf:am f O.n with
 |false=>
  rw[hf,aJ]at h;simp only[aJ];cases hm:am f O.m with
  |false=>rfl
  |true=>
   rw[hm,aI]at h;simp only[aI];split at h
   .obtain⟨hl,_⟩:=r
    match hu:us.toList,hl with
    |[],_=>rfl
   .cases h
 |true=>
  rw[hf,aI]at h;simp only[aI];split at h
  .rename_i a o1 b o2;obtain⟨hl,hr⟩:=r
   match hu:us.toList,hl,hr with
   |[u,v],_,hr=>
    have e1:=R.int_inv (hr 0 _ u rfl rfl);have e2:=R.int_inv (hr 1 _ v rfl rfl);rw[e1,e2]
  .cases h
def a5V{O:DD}{f:FuncId}{args:List (PV×Bool)}{s:OV}(h:aOw O f args=aa s):aTn O f args=ae:=by
 unfold aOw at h;unfold aTn;cases hf:am f O.n with
 |false=>
  rw[hf,aJ]at h;rw[aJ];cases hm:am f O.m with
  |false=>rfl
  |true=>
   rw[hm,aI]at h;rw[aI];split at h
   .rfl
   .cases h
 |true=>
  rw[hf,aI]at h;rw[aI];split at h
  .rfl
  .cases h
def WH(P C:aw)(G:aKv):Prop:=
 ∀f c rs,G f=aa (c,rs)->∃fn,C.funcs[f]?=aa fn/\fn.body=aa (eS c)/\rs=fn.results.toList/\rR c/\fH P fn.ntmps (eS c)=ae
def aEc{pc:jB}{ac:FuncId->Array au->St->Option (au×St)}(ih:oL pc ac){L:Nat}{c:PC}{fn:Func}(h4:rR c)(h5:fH P fn.ntmps (eS c)=ae){args:List (PV×Bool)}{p p':PSt}{v:PV}{own:Bool}
    (h:HG P pc L c fn.results.toList args p=aa (v,own,p')) {J:Nu} {I:Ga} {H:St} {us:Array au} (M:Mem J I p H) (r:RL J H (args.map (·.1)) us.toList)
    (ho: ∀(i:Nat) (x:PV) (w:au),args[i]?=aa (x,ae)->us.toList[i]?=aa w->Ow J I H (.slot i) x w):
    ∃u H' J' I',eO P fn (cM P ac L (eS c) (mC us.toList 0 .nil) H)=aa (u,H')/\R J' H' v u/\(own=ae->Ow J' I' H' .hand v u)/\Mem J' I' p' H'/\Adv J I p H J' I' p' H'/\∀j,j<H.next->H.get j=ad->H'.get j=ad:=by
 unfold HG at h;have M0:Mem J I (a8J p) H:=⟨M.le,M.lt,M.inj,M.live,M.get,M.free,M.ver⟩;have key: ∀fl S' p1,eX P pc L c (Bb args 0 .none) (a8J p)=aa (fl,S',p1)->(∀k,fl≠ .exit k)->∀vs,gN P S' p1 fn.results.toList=aa vs->
      v=(eJ vs).1->own=(eJ vs).2->p'=settle p (eJ vs).1 p1->
      ∃u H' J' I',eO P fn (cM P ac L (eS c) (mC us.toList 0 .nil) H)=aa (u,H')/\R J' H' v u/\(own=ae->Ow J' I' H' .hand v u)/\Mem J' I' p' H'/\Adv J I p H J' I' p' H'/\∀j,j<H.next->H.get j=ad->H'.get j=ad:=by
  intro fl S' p1 he bn vs jy hv hown qc;obtain⟨A',H1,J1,I1,k1,k2,k3,k4,k5⟩:=aHQ ih L fn.ntmps c h4 h5 J I _ _ (mC us.toList 0 .nil) H fl S' p1 M0 (FR.fill r ho) he;obtain⟨jg,I2,j1,j2,j3,j4⟩:=UT k2 k3 jy;obtain⟨J3,m1,m2,m3,m4⟩:=aCi (own:=(eJ vs).2) M (k2.g2 j4) (k4.trans (.g j4.out)) j2 j3;rw[k1];subst hv;subst hown;subst qc;refine⟨Cb jg,H1,J3,I2,?_,m1,m2,m3,m4,k5⟩;cases fl with
  |normal=>simp only[eO,j1];rfl
  |ret=>simp only[eO,j1];rfl
  |exit k=>exact absurd rfl (bn k)
 split at h
 .cases h
 .rename_i fl S' p1 bn he;split at h
  .rename_i vs jy;simp only[aA,aB]at h;exact key fl S' p1 he (λk e=>bn k e) vs jy h.1.symm h.2.1.symm h.2.2.symm
  .cases h
 .cases h
def aC8{C:aw}{O:DD}{G:aKv}(hw:O.w=ad)(hG:WH P C G)(L:Nat): ∀n,oL (sS P O G L n) (vZ P C O L n):=by
 intro n;induction n with
 |zero=>intro g args p v own p' h;simp only[sS]at h;cases h
 |succ n ih=>
  intro g args p v own p' h J I H us M r ho;simp only[sS]at h;split at h
  .rename_i s hs;simp only[aA,aB]at h;obtain⟨rfl,rfl,rfl⟩:=h;refine⟨s.v,H,J,I,by simp only[vZ,aF9 r (a5V hs),hs,aK],(match s with| .s l=>R.str ⟨l.toArray⟩| .t=>R.v _ rfl),λh=>(by cases h),M,Adv.refl J I p H,λj _ h=>h⟩
  rename_i dj;cases pk:aTn O g args with
  |false=>rw[pk]at h;cases h
  |true=>
  rw[pk]at h;cases jd:Ca P g args.length with
  |false=>rw[jd]at h;cases h
  |true=>
  rw[jd]at h;simp only[bD,Bool.or_self,aJ]at h;have hus:us.size=args.length:=by have:=r.1;simpa using this.symm
  have lu:bC4 O g us=ad:=by rw[aF9 r pk,dj];rfl
  have hnw:bIp O g us H=ad:=by unfold bIp;rw[hw]
  split at h
  .rename_i c rs hg;obtain⟨fn,h1,h2,rfl,h4,h5⟩:=hG g c rs hg;simp only[vZ,lu,hnw,hus,jd,aI,h1,h2];exact aEc ih h4 h5 h M r ho
  .cases h
end
end Go.PI
