import Derived.Test.YtgddcoodncbkoaaGreatDoorKe
set_option linter.unusedVariables false
set_option linter.unusedSimpArgs false
set_option linter.constructorNameAsVariable false
set_option linter.defProp false
namespace Go.AI
section
variable{w0:W0}{P:Program}{Y:Mp}{H:St}{w:World}
def Sim.untip(S:Sim w0 P Y H w){id:Nat}{cs:List Value}{m:Mta}(hg:H.get id=some (.cells cs m)):Sim w0 P Y (H.put id (.cells cs {m with tip:=false})) w:=by
 have bf: ∀{k ds n},(H.put id (.cells cs {m with tip:=false})).get k=some (.cells ds n)->∃n',H.get k=some (.cells ds n')/\n.wr=n'.wr/\n.z=n'.z/\n.grp=n'.grp/\(n.tip=true->n'.tip=true/\n.lim=n'.lim):=by
  intro k ds n h;rw[St.get_put]at h;split at h
  ·rename_i e;subst e;cases h;exact⟨m,hg,rfl,rfl,rfl,λh=>by cases h⟩
  ·exact⟨n,h,rfl,rfl,rfl,λh=>⟨h,rfl⟩⟩
 have ll: ∀{k es},(H.put id (.cells cs {m with tip:=false})).get k=some (.map es)->H.get k=some (.map es):=by
  intro k es h;rw[St.get_put]at h;split at h
  ·cases h
  ·exact h
 have bc: ∀{n n':Mta},n.grp=n'.grp->H.good n=true->H.good n'=true:=by
  intro n n' e h;rw[St.good_iff]at h⊢;intro g v e';exact h g v (e.trans e')
 have ci: ∀{a a' b b':Mta},a.grp=a'.grp->b.grp=b'.grp->fI a' b'->fI a b:=by
  rintro a a' b b' e1 e2 ⟨g,v,v',h1,h2⟩;exact⟨g,v,v',e1.trans h1,e2.trans h2⟩
 refine⟨S.kept,S.dom,S.glob,?_,?_,?_,?_,?_,?_,?_⟩
 ·intro k q ds n hq h nk;obtain⟨n',h',e1,e2,e3,e4⟩:=bf h;obtain⟨⟨D,t,fr,hD,ky,cp⟩,h2,h3,h4,h5⟩:=S.row k q ds n' hq h' (bc e3 nk);exact⟨⟨D,t,fr,hD,ky,λht=>cp (e4 ht).1⟩,λhw=>h2 (e1▸hw),λht=>h3 (e4 ht).1,by rw[h4,e2],λhw=>h5 (e1▸hw)⟩
 ·intro k q es hq h;exact S.map k q es hq (ll h)
 ·intro i j a b as bs n1 n2 bm ha hb h1 h2 g1 g2 hw hs;obtain⟨m1,f1,a1,a2,a3,a4⟩:=bf h1;obtain⟨m2,f2,b1,b2,b3,b4⟩:=bf h2;exact S.off i j a b as bs m1 m2 bm ha hb f1 f2 (bc a3 g1) (bc b3 g2) (a1▸hw) (λh=>hs (ci a3 b3 h))
 ·intro i j a b as bs n1 n2 bm ha hb h1 h2 g1 g2 hw;obtain⟨m1,f1,a1,a2,a3,a4⟩:=bf h1;obtain⟨m2,f2,b1,b2,b3,b4⟩:=bf h2;have:=S.tip i j a b as bs m1 m2 bm ha hb f1 f2 (bc a3 g1) (bc b3 g2) (a4 hw).1;exact⟨this.1,λh=>this.2 (b4 h).1⟩
 ·intro i j a b es fs bm ha hb h1 h2;exact S.maps i j a b es fs bm ha hb (ll h1) (ll h2)
 ·intro k ds n g v h e;obtain⟨n',h',_,_,e3,_⟩:=bf h;exact S.vers k ds n' g v h' (e3▸e)
 ·intro i j a b as bs n1 n2 bm ha hb h1 h2 g1 g2 hw;obtain⟨m1,f1,a1,a2,a3,a4⟩:=bf h1;obtain⟨m2,f2,b1,b2,b3,b4⟩:=bf h2;rw[(a4 hw).2];exact S.lim i j a b as bs m1 m2 bm ha hb f1 f2 (bc a3 g1) (bc b3 g2) (a4 hw).1
def Sim.extend(S:Sim w0 P Y H w){id bp:Nat}{p:fN}{cs xs us:List Value}{m:Mta}{C:Array Value}{t:TypeId}{off:Nat}(hp:Y id=some p)(hg:H.get id=some (.cells cs m))(bc:H.good m=true)
    (cp:m.tip=true) (fq:m.wr=true) (ph:m.grp.isSome=true) (hC:w.heap[p.b]?=some (.cells C t (0,0))) (jn:off<=cs.length) (hxs:VRL Y xs us) (jp:p.o+cs.length+xs.length<=p.e)
    (hid:Y bp=none) (bi:bp<H.next):
    Sim w0 P (upd Y bp ⟨p.b,p.o+off,p.e,p.z⟩) ((H.put id (.cells cs {m with tip:=false})).put bp (.cells (cs.drop off++xs) {m with lim:=(cs.drop off).length}))
      (w.setRow p.b (C.toList.take (p.o+cs.length)++us++C.toList.drop (p.o+cs.length+us.length)).toArray):=by
 have bu:bp≠id:=by intro e;subst e;rw[hid]at hp;cases hp
 have cf:=iD (⟨p.b,p.o+off,p.e,p.z⟩:fN) hid;have R:=S.row id p cs m hp hg bc;have hCe:p.e<=C.size:=by
  obtain⟨D,u,fr,hD,_,ht⟩:=R.row;rw[hC]at hD;cases hD;exact ht cp
 have hin:p.o+cs.length+us.length<=C.toList.length:=by have:=hxs.1;simp;omega
 generalize hC':(C.toList.take (p.o+cs.length)++us++C.toList.drop (p.o+cs.length+us.length)).toArray=C';have bf: ∀k,C'[k]?=if p.o+cs.length<=k/\k<p.o+cs.length+us.length then us[k-(p.o+cs.length)]? else C[k]?:=by
  intro k;rw[<-hC'];have:=aJB C.toList us (p.o+cs.length) k hin;simpa using this
 have co:C'.size=C.size:=by rw[<-hC'];have:=wI C.toList us (p.o+cs.length) hin;simpa using this
 have fu:=hxs.1;have kf:(cs.drop off++xs).length=cs.length-off+xs.length:=by simp
 have dh: ∀{k q ds n},upd Y bp ⟨p.b,p.o+off,p.e,p.z⟩ k=some q->((H.put id (.cells cs {m with tip:=false})).put bp (.cells (cs.drop off++xs) {m with lim:=(cs.drop off).length})).get k=some (.cells ds n)->
      (k=bp/\q=⟨p.b,p.o+off,p.e,p.z⟩/\ds=cs.drop off++xs/\n={m with lim:=(cs.drop off).length})∨(k=id/\q=p/\ds=cs/\n={m with tip:=false})∨(k≠bp/\k≠id/\Y k=some q/\H.get k=some (.cells ds n)):=by
  intro k q ds n hq h;by_cases e:k=bp
  ·subst e;rw[gC]at hq;cases hq;rw[St.get_put,if_pos rfl]at h;cases h;exact .inl ⟨rfl,rfl,rfl,rfl⟩
  ·rw[fQ e]at hq;rw[St.get_put,if_neg e,St.get_put]at h;by_cases e2:k=id
   ·subst e2;rw[hp]at hq;cases hq;rw[if_pos rfl]at h;cases h;exact .inr (.inl ⟨rfl,rfl,rfl,rfl⟩)
   ·rw[if_neg e2]at h;exact .inr (.inr ⟨e,e2,hq,h⟩)
 have hcaseM: ∀{k q es},upd Y bp ⟨p.b,p.o+off,p.e,p.z⟩ k=some q->((H.put id (.cells cs {m with tip:=false})).put bp (.cells (cs.drop off++xs) {m with lim:=(cs.drop off).length})).get k=some (.map es)->Y k=some q/\H.get k=some (.map es):=by
  intro k q es hq h;rw[St.get_put]at h;split at h
  ·cases h
  ·rename_i e;rw[fQ e]at hq;rw[St.get_put]at h;split at h
   ·cases h
   ·exact⟨hq,h⟩
 have hsg:fI m {m with tip:=false}:=by
  obtain⟨⟨g,v⟩,e⟩:=Option.isSome_iff_exists.1 ph;exact⟨g,v,v,e,e⟩
 have hsg':fI {m with tip:=false} m:=by
  obtain⟨⟨g,v⟩,e⟩:=Option.isSome_iff_exists.1 ph;exact⟨g,v,v,e,e⟩
 refine⟨(S.kept.upd (id:=bp) (q:=⟨p.b,p.o+off,p.e,p.z⟩) (λk o hk=>(S.kept.oth k o hk).2 id p hp) (S.kept.bnd id p hp)).setRow (R.wr fq) (λk o hk=>(S.kept.oth k o hk).2 id p hp) C',?_,?_,?_,?_,?_,?_,?_,?_,?_⟩
 ·intro k hk;have ge:H.next<=k:=hk
  rw[fQ (by omega)];exact S.dom k ge
 ·intro g bn;obtain⟨q,hq,h1,h2⟩:=S.glob g bn;exact⟨q,cf g q hq,h1,h2⟩
 ·intro k q ds n hq h nk;rcases dh hq h with⟨rfl,rfl,rfl,rfl⟩|⟨rfl,rfl,rfl,rfl⟩|⟨h1,h2,fm,h'⟩
  ·obtain⟨⟨D,u,fr,hD,ky,_⟩,h2,h3,h4,h5⟩:=R;rw[hC]at hD;cases hD;refine⟨⟨C',_,_,setRow_heap w p.b C C' _ _ hC,λi v hi=>?_,λ_=>by rw[co];exact hCe⟩,h2,λ_=>by rw[kf];show p.o+off+_<=p.e;omega,h4,λ_ C1 t1 fr1 e1=>by have e2:=(setRow_heap w p.b C C' _ _ hC).symm.trans e1;cases e2;rfl⟩
   show∃u,C'[p.o+off+i]?=some u/\_;rw[bf];rw[List.getElem?_append]at hi;split at hi
   ·rename_i hl;rw[List.length_drop]at hl;rw[if_neg (by omega)]
    rw[List.getElem?_drop]at hi;obtain⟨u,hu,hr⟩:=ky _ _ hi;exact⟨u,by rw[show p.o+off+i=p.o+(off+i) by omega];exact hu,hr.mono' cf⟩
   ·rename_i hl;rw[List.length_drop]at hl hi;have pe:i-(cs.length-off)<xs.length:=by
     rcases Nat.lt_or_ge (i-(cs.length-off)) xs.length with h'|h'
     ·exact h'
     ·rw[List.getElem?_eq_none h']at hi;cases hi
    rw[if_pos (by omega)]
    obtain⟨u,hu,hr⟩:=hxs.get hi;exact⟨u,by rw[show p.o+off+i-(p.o+cs.length)=i-(cs.length-off) by omega];exact hu,hr.mono' cf⟩
  ·obtain⟨⟨D,u,fr,hD,ky,_⟩,h2,h3,h4,h5⟩:=R;rw[hC]at hD;cases hD;refine⟨⟨C',_,_,setRow_heap w q.b C C' _ _ hC,λi v hi=>?_,λht=>by cases ht⟩,h2,(λht=>by cases ht),h4,λ_ C1 t1 fr1 e1=>by have e2:=(setRow_heap w q.b C C' _ _ hC).symm.trans e1;cases e2;rfl⟩
   have hil:i<ds.length:=by
    rcases Nat.lt_or_ge i ds.length with h'|h'
    ·exact h'
    ·rw[List.getElem?_eq_none h']at hi;cases hi
   rw[bf,if_neg (by omega)]
   obtain⟨u,hu,hr⟩:=ky i v hi;exact⟨u,hu,hr.mono' cf⟩
  ·have Rk:=(S.row k q ds n fm h' nk).other hC co (λhb i hi=>by
    rw[bf,if_neg];intro h3;exact(S.tip id k p q cs ds m n (Ne.symm h2) hp fm hg h' bc nk cp).1 hb.symm (q.o+i) (by omega) (by omega) (by omega) (by omega))
   obtain⟨⟨D,u,fr,hD,ky,ht⟩,g2,g3,g4,g5⟩:=Rk;exact⟨⟨D,u,fr,hD,λi v hi=>let ⟨u,hu,hr⟩:=ky i v hi;⟨u,hu,hr.mono' cf⟩,ht⟩,g2,g3,g4,g5⟩
 ·intro k q es hq h;obtain⟨fm,h'⟩:=hcaseM hq h;obtain⟨⟨ES,c,h1,h2,h3⟩,h4⟩:=(S.map k q es fm h').other hC (C':=C');exact⟨⟨ES,c,h1,h2.mono' cf,h3.mono' cf⟩,h4⟩
 ·intro i j a b as bs n1 n2 bm ha hb h1 h2 g1 g2 hw hs;rcases dh ha h1 with⟨rfl,rfl,rfl,rfl⟩|⟨rfl,rfl,rfl,rfl⟩|⟨i1,i2,cz,h1'⟩
  ·rcases dh hb h2 with⟨rfl,_⟩|⟨rfl,rfl,rfl,rfl⟩|⟨j1,j2,bv,h2'⟩
   ·exact absurd rfl bm
   ·exact absurd hsg hs
   ·intro hbb x x1 x2 x3 x4;rw[kf]at x2;simp only at x1 x2 hbb;by_cases hx:x<p.o+cs.length
    ·exact S.off id j p b cs bs m n2 (Ne.symm j2) hp bv hg h2' bc g2 fq hs hbb x (by omega) hx x3 x4
    ·exact(S.tip id j p b cs bs m n2 (Ne.symm j2) hp bv hg h2' bc g2 cp).1 hbb x (by omega) (by omega) x3 x4
  ·rcases dh hb h2 with⟨rfl,rfl,rfl,rfl⟩|⟨rfl,_⟩|⟨j1,j2,bv,h2'⟩
   ·exact absurd hsg' hs
   ·exact absurd rfl bm
   ·exact S.off i j _ b _ bs m n2 bm hp bv hg h2' bc g2 fq (λh=>hs (by obtain⟨g,v,v',e1,e2⟩:=h;exact⟨g,v,v',e1,e2⟩))
  ·rcases dh hb h2 with⟨rfl,rfl,rfl,rfl⟩|⟨rfl,rfl,rfl,rfl⟩|⟨j1,j2,bv,h2'⟩
   ·intro hbb x x1 x2 x3 x4;rw[kf]at x4;simp only at x3 x4 hbb;by_cases hx:x<p.o+cs.length
    ·exact S.off i id a p as cs n1 m i2 cz hp h1' hg g1 bc hw hs hbb x x1 x2 (by omega) hx
    ·exact(S.tip id i p a cs as m n1 (Ne.symm i2) hp cz hg h1' bc g1 cp).1 hbb.symm x (by omega) (by omega) x1 x2
   ·exact S.off i j a b as bs n1 m bm cz hp h1' hg g1 bc hw (λh=>hs (by obtain⟨g,v,v',e1,e2⟩:=h;exact⟨g,v,v',e1,e2⟩))
   ·exact S.off i j a b as bs n1 n2 bm cz bv h1' h2' g1 g2 hw hs
 ·intro i j a b as bs n1 n2 bm ha hb h1 h2 g1 g2 hw;rcases dh ha h1 with⟨rfl,rfl,rfl,rfl⟩|⟨rfl,rfl,rfl,rfl⟩|⟨i1,i2,cz,h1'⟩
  ·rcases dh hb h2 with⟨rfl,_⟩|⟨rfl,rfl,rfl,rfl⟩|⟨j1,j2,bv,h2'⟩
   ·exact absurd rfl bm
   ·refine⟨λhbb x x1 x2 x3 x4=>?_,(λh=>by cases h)⟩
    rw[kf]at x1;simp only at x1;omega
   ·have T:=S.tip id j p b cs bs m n2 (Ne.symm j2) hp bv hg h2' bc g2 cp;refine⟨λhbb x x1 x2 x3 x4=>?_,λht hbb x x1 x2 x3 x4=>?_⟩
    ·rw[kf]at x1;simp only at x1 x2 hbb;exact T.1 hbb x (by omega) x2 x3 x4
    ·rw[kf]at x1;simp only at x1 x2 hbb;exact T.2 ht hbb x (by omega) x2 x3 x4
  ·cases hw
  ·rcases dh hb h2 with⟨rfl,rfl,rfl,rfl⟩|⟨rfl,rfl,rfl,rfl⟩|⟨j1,j2,bv,h2'⟩
   ·have T:=S.tip i id a p as cs n1 m i2 cz hp h1' hg g1 bc hw;refine⟨λhbb x x1 x2 x3 x4=>?_,λht hbb x x1 x2 x3 x4=>?_⟩
    ·rw[kf]at x4;simp only at x3 x4 hbb;by_cases hx:x<p.o+cs.length
     ·exact T.1 hbb x x1 x2 (by omega) hx
     ·exact T.2 cp hbb x x1 x2 (by omega) (by omega)
    ·rw[kf]at x3;simp only at x3 x4 hbb;exact T.2 cp hbb x x1 x2 (by omega) x4
   ·have T:=S.tip i j a b as bs n1 m bm cz hp h1' hg g1 bc hw;exact⟨T.1,(λh=>by cases h)⟩
   ·exact S.tip i j a b as bs n1 n2 bm cz bv h1' h2' g1 g2 hw
 ·intro i j a b es fs bm ha hb h1 h2;obtain⟨a1,a2⟩:=hcaseM ha h1;obtain⟨b1,b2⟩:=hcaseM hb h2;exact S.maps i j a b es fs bm a1 b1 a2 b2
 ·intro k ds n g v h e;rw[St.get_put]at h;split at h
  ·cases h;exact S.vers id _ _ g v hg e
  ·rw[St.get_put]at h;split at h
   ·cases h;exact S.vers id _ _ g v hg e
   ·exact S.vers k ds n g v h e
 ·intro i j a b as bs n1 n2 bm ha hb h1 h2 g1 g2 hw;rcases dh ha h1 with⟨rfl,rfl,rfl,rfl⟩|⟨rfl,rfl,rfl,rfl⟩|⟨i1,i2,cz,h1'⟩
  ·rcases dh hb h2 with⟨rfl,_⟩|⟨rfl,rfl,rfl,rfl⟩|⟨j1,j2,bv,h2'⟩
   ·exact absurd rfl bm
   ·intro hbb x x1 x2 x3 x4;simp only[List.length_drop]at x1;omega
   ·intro hbb x x1 x2 x3 x4;rw[kf]at x2;simp only[List.length_drop]at x1 x2 hbb;exact(S.tip id j p b cs bs m n2 (Ne.symm j2) hp bv hg h2' bc g2 cp).1 hbb x (by omega) (by omega) x3 x4
  ·cases hw
  ·rcases dh hb h2 with⟨rfl,rfl,rfl,rfl⟩|⟨rfl,rfl,rfl,rfl⟩|⟨j1,j2,bv,h2'⟩
   ·intro hbb x x1 x2 x3 x4;rw[kf]at x4;simp only at x3 x4 hbb;by_cases hx:x<p.o+cs.length
    ·exact S.lim i id a p as cs n1 m i2 cz hp h1' hg g1 bc hw hbb x x1 x2 (by omega) hx
    ·exact(S.tip id i p a cs as m n1 (Ne.symm i2) hp cz hg h1' bc g1 cp).1 hbb.symm x (by omega) (by omega) (by omega) x2
   ·exact S.lim i j a b as bs n1 m bm cz hp h1' hg g1 bc hw
   ·exact S.lim i j a b as bs n1 n2 bm cz bv h1' h2' g1 g2 hw
def aIz{z:Nat}{x x':Value}{n:Nat}{xs:List Value}{t1:TypeId}{u:TypeDesc}(S:Sim w0 P Y H w)(r:VR Y x x')(hu:P.underlying t1=some u)
    (hk:fits u x=true) (fh:xs.all one=true) (h:mU H z x=some (n,xs)):
    ∃news,Src P z t1 x' n news w/\VRL Y xs news:=by
 unfold mU at h;split at h<;>try cases h
 ·obtain⟨rfl,rfl,rfl⟩:=r.nilslc_inv;cases u<;>simp only[fits,dQ,bnT,Bool.false_eq_true]at hk;exact⟨[],Src.ofNil w hu 0,.nil⟩
 ·rename_i id off len c;split at h<;>try cases h
  rename_i cs m' bh;rw[mjE]at h;obtain⟨l,hl,he⟩:=h;cases he;obtain⟨hg,bc⟩:=St.row_some bh;obtain⟨p,cap,hp,rfl,_⟩:=r.slc_inv;obtain⟨C,ty,fr,hC,hcs,_⟩:=(S.row id p cs _ hp hg bc).row;obtain⟨rfl,hle⟩:=sA hl;have hv:=zU hcs hle;cases u<;>simp only[fits,dQ,bnT,Bool.false_eq_true]at hk;refine⟨_,Src.ofSlice w hu _ n cap _ (by rw[<-hv.1];simp;omega) (λj v hj=>?_) (λv dr=>?_),hv⟩
  ·rw[eW,aAJ hC];rw[List.getElem?_take]at hj;split at hj
   ·rw[List.getElem?_drop]at hj;simpa using hj
   ·cases hj
  ·rw[aBp];have:=hv.one_eq;rw[fh]at this;exact List.all_eq_true.1 this v dr
 ·rename_i s;obtain rfl:=r.string_inv;rw[cG,Bool.cond_decide]at h;split at h
  ·rename_i hz;cases h;subst hz;cases u<;>simp only[fits,dQ,Bool.not_false,Bool.false_eq_true]at hk;refine⟨_,Src.ofString w hu s,VRL.same ?_⟩;rw[List.all_eq_true];intro v hv;obtain⟨_,_,rfl⟩:=List.mem_map.1 hv;rfl
  ·cases h
 ·cases r with
  |same _ hp=>simp[aE]at hp
  |emp a s cap h=>
   cases u<;>simp only[fits,dQ,bnT,Bool.false_eq_true]at hk;exact⟨[],Src.ofSlice w hu a 0 cap [] (by simp) (λj v hj=>by simp at hj) (λv dr=>by simp at dr),.nil⟩
def room_run{t tx ty e:TypeId}{i:TypeInfo}(ht:P.underlying t=some (.slice e))(hi:P.info? e=some i){b off sLen sCap:Nat}{x:Value}{n:Nat}{news:List Value}(hs:Src P i.size tx x n news w)
    (ji:sLen+n<=sCap) {cur:Array Value} {te:TypeId} (hC:w.heap[b]?=some (.cells cur te (0,0))) (jp:off+sLen*i.size+news.length<=cur.size):
    (Builtin.append_ #[t,tx] ty #[.slice (some ⟨b,off,none⟩) sLen sCap,x]).run P w=
      .ok (.slice (some ⟨b,off,none⟩) (sLen+n) sCap) (w.setRow b (cur.toList.take (off+sLen*i.size)++news++cur.toList.drop (off+sLen*i.size+news.length)).toArray):=by
 have bw:=run_storeCells_at P b (off+sLen*i.size) te news 0 cur w hC (by simpa using jp) hs.one
 simp only[Nat.add_zero]at bw;rcases hs.kind with⟨e',hk⟩|hk<;>simp[Builtin.append_,run_underlying ht,run_underlying hk,Go.sizeOf,typeInfo,hi,hs.len,ji,hs.cells,Addr.add_lit,bw]
def vF(z:Array Value)(n:Nat):(Builtin.zeroCells z n).size=n*z.size:=by simp[Builtin.zeroCells]
def aAz{t tx ty e:TypeId}{i:TypeInfo}{z:Value}(S:Sim w0 P Y H w)(ht:P.underlying t=some (.slice e))(hi:P.info? e=some i)(hz:i.zero=some z)(ja:z.cells.size=i.size)
    {base:Option Addr} {sLen sCap:Nat} {old olds:List Value} (hold:(Builtin.firstCells i.size sLen (.slice base sLen sCap)).run P w.drew= .ok olds.toArray w.drew) (qa:olds.length=sLen*i.size) (hor:VRL Y old olds)
    {x:Value} {n:Nat} {xs news:List Value} (hs:Src P i.size tx x n news w) (ng:VRL Y xs news) (hg:sCap<sLen+n) (hb1:1<=i.bytes) (hb:(sLen+n)*i.bytes<=1073741824)
    {bp:Nat} {mt:Mta} (hid:Y bp=none) (bi:bp<H.next) (hmt:mt.z=i.size) (dw:H.get bp=some (.cells (old++xs) mt)):
    ∃v' w' p,(Builtin.append_ #[t,tx] ty #[.slice base sLen sCap,x]).run P w= .ok v' w'/\VR (upd Y bp p) (.slice (some ⟨bp,0,none⟩) (sLen+n) (sLen+n+1)) v'/\Sim w0 P (upd Y bp p) H w':=by
 have kf:sLen+n<=(sLen+n)*i.bytes:=Nat.le_mul_of_pos_right _ (by omega)
 have fk:=run_append_grow_src w t tx ty e i z ht hi hz base sLen sCap olds hold x n news hs hg (by omega) (growslice_fits hg (by omega))
 have fa:=grownCap_ge w (sLen+n) sCap e;refine⟨_,_,⟨w.heap.size,0,grownCap w (sLen+n) sCap e*i.size,i.size⟩,fk,.slc bp 0 _ _ _ _ (gC _ _ _) (λe=>by omega) fa (.inl (by simp)),?_⟩
 refine(S.drawn (w.drawn+1)).alloc hid bi dw ⟨_,e,rfl,λj v hj=>?_,λ_=>?_,by simp[hmt]⟩ rfl rfl
 ·obtain⟨u,hu,hr⟩:=(hor.append ng).get hj;refine⟨u,?_,hr⟩;have qh:j<(olds++news).length:=by
   rcases Nat.lt_or_ge j (olds++news).length with h'|h'
   ·exact h'
   ·rw[List.getElem?_eq_none h']at hu;cases hu
  rw[Array.getElem?_append_left (by simpa using qh)]
  simpa using hu
 ·constructor
  ·rw[(hor.append ng).1];simp only[lnA,qa,hs.newsLen,<-Nat.add_mul];exact Nat.mul_le_mul_right _ fa
  ·simp only[Array.size_append,List.size_toArray,lnA,qa,hs.newsLen,vF,ja,<-Nat.add_mul];exact Nat.mul_le_mul_right _ (by omega)
def aIy{c:Call}{ty:TypeId}{s s' x x' v:Value}{H':St}{bp:Nat}(S:Sim w0 P Y H w)(rs:VR Y s s')(rx:VR Y x x')(hid:Y bp=none)(bi:bp<H.next)(h:iH P H bp c s x=some (v,H')):
    ∃v' w' Y',(Builtin.append_ c.argTypes ty #[s',x']).run P w= .ok v' w'/\VR Y' v v'/\Sim w0 P Y' H' w'/\(∀k p,Y k=some p->Y' k=some p)/\(∀k,k≠bp->Y' k=Y k)/\H'.next=H.next:=by
 unfold iH at h;split at h<;>try cases h
 rename_i t t1 ju;have hts':c.argTypes= #[t,t1]:=by
  apply Array.toList_inj.1;rw[ju]
 rw[hts'];split at h<;>try cases h
 rename_i e u hu hu1;cases hk:fits u x with
 |false=>rw[hk]at h;cases h
 |true=>
  rw[hk]at h;simp only[cdt]at h;split at h<;>try cases h
  rename_i info hi;split at h<;>try cases h
  rename_i n xs z ml hz;cases hc:(xs.all one&&Nat.ble 1 info.size&&Nat.ble 1 info.bytes&&Nat.beq z.cells.size info.size&&dQ s)with
  |false=>rw[hc]at h;cases h
  |true=>
   rw[hc]at h;simp only[bjE,aIb,cG,djE]at hc;obtain⟨⟨⟨⟨fh,hz1⟩,hb1⟩,ja⟩,cr⟩:=hc;simp only[cdt]at h;obtain⟨news,hs,ng⟩:=aIz S rx hu1 hk fh ml;rw[cG,Bool.cond_decide]at h;split at h
   ·rename_i hn;subst hn;simp only[ojE,pjE]at h;obtain⟨rfl,rfl⟩:=h;have hnews:news=[]:=by have:=hs.newsLen;simpa using this
    subst hnews;cases s<;>simp only[dQ,Bool.false_eq_true]at cr;rename_i a l c';refine⟨s',w,Y,?_,rs,S,λ_ _ h=>h,λ_ _=>rfl,rfl⟩
    have: ∃base len cap,s'= .slice base len cap/\len<=cap:=by
     cases a with
     |none=>obtain⟨rfl,rfl,rfl⟩:=rs.nilslc_inv;exact⟨none,0,0,rfl,nlR _⟩
     |some a=>
      cases rs with
      |same _ h=>simp[aE]at h
      |slc id off len c cap p h hc hl he=>exact⟨_,_,_,rfl,hl⟩
      |emp a s cap h=>exact⟨_,_,_,rfl,Nat.zero_le _⟩
    obtain⟨base,len,cap,rfl,hle⟩:=this;exact run_append_nothing w t t1 ty e info hu hi base len cap hle x' hs
   ·rename_i hn;unfold kC at h;split at h<;>try cases h
    ·
     obtain⟨rfl,rfl,rfl⟩:=rs.nilslc_inv;rw[aIb,Bool.cond_decide]at h;split at h
     ·rename_i hb;simp only[ojE,pjE]at h;obtain⟨rfl,rfl⟩:=h;have S1:Sim w0 P Y (H.put bp (.cells xs (dO info.size bp))) w:=S.put_new hid (λcs m g v e1 e2=>by cases e1;simp only[dO,ojE,pjE]at e2;omega)
      obtain⟨v',w',p,h1,h2,h3⟩:=aAz (ty:=ty) S1 hu hi hz ja (base:=none) (sLen:=0) (sCap:=0) (old:=[]) (olds:=[]) (run_firstCells_none _ _ _ _ _) (by simp) .nil hs ng (by omega) hb1 (by simpa using hb) hid bi (mt:=dO info.size bp) rfl
       (by rw[St.get_put,if_pos rfl];rfl)
      refine⟨v',w',_,h1,by simpa using h2,h3,iD p hid,λk hk=>fQ hk,rfl⟩
     ·cases h
    ·rename_i id off len k;obtain⟨p,cap,hp,rfl,my,hlc,he⟩:=rs.slc_inv;rw[aIb,Bool.cond_decide]at h;split at h
     ·rename_i hb;split at h<;>try cases h
      rename_i cs m bh;obtain⟨hg,bc⟩:=St.row_some bh;have R:=S.row id p cs m hp hg bc;obtain⟨C,te,fr,hC,hcs,htipC⟩:=R.row;split at h<;>try cases h
      rename_i old se;obtain⟨rfl,hle⟩:=sA se;have hor:=zU hcs hle;have qa:((C.toList.drop (p.o+off)).take (len*info.size)).length=len*info.size:=by rw[<-hor.1];simp;omega
      have hold:(Builtin.firstCells info.size len (.slice (some ⟨p.b,p.o+off,none⟩) len cap)).run P w.drew= .ok ((C.toList.drop (p.o+off)).take (len*info.size)).toArray w.drew:=
       run_firstCells_some _ _ _ _ _ _ _ qa (λj v hj=>by
        rw[eW,aAJ (w:=w.drew) (show w.drew.heap[p.b]?=_ from hC)]
        rw[List.getElem?_take]at hj;split at hj
        ·rw[List.getElem?_drop]at hj;simpa using hj
        ·cases hj)
      rw[cG,Bool.cond_decide]at h;split at h
      ·
       rename_i hkl;have fa:=my hkl;simp only[ojE,pjE]at h;obtain⟨rfl,rfl⟩:=h;have S1:Sim w0 P Y (H.put bp (.cells ((cs.drop off).take (len*info.size)++xs) (dO info.size bp))) w:=S.put_new hid (λcs m g v e1 e2=>by cases e1;simp only[dO,ojE,pjE]at e2;omega)
       obtain⟨v',w',q,h1,h2,h3⟩:=aAz (ty:=ty) S1 hu hi hz ja hold qa hor hs ng (by omega) hb1 hb hid bi (mt:=dO info.size bp) rfl (by rw[St.get_put,if_pos rfl])
       exact⟨v',w',_,h1,h2,h3,iD q hid,λk hk=>fQ hk,rfl⟩
      ·cases hc2:(m.tip&&m.wr&&Nat.beq m.z info.size&&Nat.beq (off+len*info.size) cs.length&&m.grp.isSome)with
       |false=>rw[hc2]at h;cases h
       |true=>
        rw[hc2]at h;simp only[bjE,cG,djE]at hc2;obtain⟨⟨⟨⟨cp,fq⟩,kv⟩,hend⟩,ph⟩:=hc2;simp only[cdt,ojE,pjE]at h;obtain⟨rfl,rfl⟩:=h;have fp:(cs.drop off).take (len*info.size)=cs.drop off:=List.take_of_length_le (by simp;omega)
        have qp:p.z=info.size:=R.z.trans kv;by_cases ji:len+n<=cap
        ·
         have hfr:=R.fz fq C te fr hC;subst hfr;have gm:xs.length=n*info.size:=by rw[ng.1];exact hs.newsLen
         have hmul:(len+n)*info.size<=cap*info.size:=Nat.mul_le_mul_right _ ji;rw[Nat.add_mul]at hmul;have htl:=R.tip cp;have he:p.o+off+cap*info.size<=p.e:=by
          rw[qp]at he;rcases he with he|he
          ·exact he
          ·rw[he]at hend⊢;omega
         have jp:p.o+cs.length+xs.length<=p.e:=by rw[gm];omega
         have hCe:=htipC cp;have fk:=room_run (ty:=ty) hu hi hs ji hC (off:=p.o+off) (by rw[hs.newsLen];omega)
         have hpos:p.o+off+len*info.size=p.o+cs.length:=by omega
         rw[hpos]at fk;refine⟨_,_,upd Y bp ⟨p.b,p.o+off,p.e,p.z⟩,fk,?_,?_,iD _ hid,λk hk=>fQ hk,rfl⟩
         ·exact .slc bp 0 (len+n) (len+n+1) cap _ (gC _ _ _) (λe=>by omega) ji (.inl (by rw[qp];simp;omega))
         ·rw[fp];exact S.extend hp hg bc cp fq ph hC (by omega) ng jp hid bi
        ·
         have bu:bp≠id:=by intro e;subst e;rw[hid]at hp;cases hp
         have S1:Sim w0 P Y ((H.put id (.cells cs {m with tip:=false})).put bp (.cells ((cs.drop off).take (len*info.size)++xs) {m with lim:=((cs.drop off).take (len*info.size)).length})) w:=
          (S.untip hg).put_new hid (λcx m' g v e1 e2=>by cases e1;exact S.vers id cs m g v hg e2)
         obtain⟨v',w',q,h1,h2,h3⟩:=aAz (ty:=ty) S1 hu hi hz ja hold qa hor hs ng (by omega) hb1 hb hid bi (mt:={m with lim:=((cs.drop off).take (len*info.size)).length}) kv (by rw[St.get_put,if_pos rfl])
         exact⟨v',w',_,h1,h2,h3,iD q hid,λk hk=>fQ hk,rfl⟩
     ·cases h
    ·
     rename_i b0 o0 s0 len k;cases hb0:(Nat.beq s0 1&&Nat.ble (n*info.bytes) 1073741824)with
     |false=>rw[hb0]at h;cases h
     |true=>
      rw[hb0]at h;simp only[bjE,cG,aIb,djE]at hb0;simp only[cdt,ojE,pjE]at h;obtain⟨rfl,rfl⟩:=h;cases rs with
      |same _ h=>simp[aE]at h
      |emp a s cap fa=>
       obtain rfl:=fa hb0.1;have S1:Sim w0 P Y (H.put bp (.cells xs (dO info.size bp))) w:=S.put_new hid (λcs m g v e1 e2=>by cases e1;simp only[dO,ojE,pjE]at e2;omega)
       obtain⟨v',w',p,h1,h2,h3⟩:=aAz (ty:=ty) S1 hu hi hz ja (base:=some a) (sLen:=0) (sCap:=0) (old:=[]) (olds:=[]) (run_firstCells_some _ _ _ _ _ _ ([]:List Value) (by simp) (λj v hj=>by simp at hj)) (by simp) .nil hs ng (by omega) hb1 (by simpa using hb0.2) hid bi (mt:=dO info.size bp) rfl
        (by rw[St.get_put,if_pos rfl];rfl)
       refine⟨v',w',_,h1,by simpa using h2,h3,iD p hid,λk hk=>fQ hk,rfl⟩
end
end Go.AI
namespace Go.AI
section
variable{w0:W0}{P:Program}{Y:Mp}{H:St}{w:World}
structure AR(Y:Mp)(S:Slots)(α:Nat)(a:Act):Prop where
 size:α<=a.tmps.size
 defers:a.defers=[]
 slot: ∀i,VR Y (S.at i) (a.tmps.getD i undef)
def AR.mono{S:Slots}{α:Nat}{a:Act}{Y':Mp}(A:AR Y S α a)(h: ∀k p,Y k=some p->Y' k=some p):AR Y' S α a:=⟨A.size,A.defers,λi=>(A.slot i).mono' h⟩
def Slots.at_store(S:Slots)(d:Option Tmp)(v:Value)(i:Nat):(S.store d v).at i=if d=some i then v else S.at i:=by
 cases d with
 |none=>simp[Slots.store]
 |some d=>
  simp only[Slots.store,Slots.at,Tr.get_set,ojE];by_cases e:i=d
  ·subst e;simp
  ·rw[if_neg e,if_neg (Ne.symm e)]
def aAB(a:Act)(d:Option Tmp)(v:Value)(i:Nat)(h: ∀t,d=some t->t<a.tmps.size):(a.put d v).tmps.getD i undef=if d=some i then v else a.tmps.getD i undef:=by
 cases d with
 |none=>simp[Act.put]
 |some d=>
  have hd:=h d rfl;simp only[Act.put,ojE,Array.getD_eq_getD_getElem?];by_cases e:d=i
  ·subst e;rw[if_pos rfl,Array.getElem?_setIfInBounds_self_of_lt hd];rfl
  ·rw[if_neg e,Array.getElem?_setIfInBounds_ne e]
def AR.put{S:Slots}{α:Nat}{a:Act}(A:AR Y S α a){d:Option Tmp}(hd: ∀t,d=some t->t<α){v v':Value}(r:VR Y v v'):AR Y (S.store d v) α (a.put d v'):=by
 refine⟨?_,?_,λi=>?_⟩
 ·have:=A.size;cases d<;>simp[Act.put,this]
 ·cases d<;>simp[Act.put,A.defers]
 ·rw[Slots.at_store,aAB _ _ _ _ (λt e=>Nat.lt_of_lt_of_le (hd t e) A.size)]
  split
  ·exact r
  ·exact A.slot i
def ev_ok{S:Slots}{α:Nat}{a:Act}(A:AR Y S α a)(ρ:Sim w0 P Y H w){x:Operand}(h:aM P x=true):VR Y (ev S x) (a.eval x):=by
 cases x with
 |tmp t=>exact A.slot t
 |const v=>exact .same1 h
 |global g=>
  simp only[aM,iN,djE]at h;obtain⟨p,hp,hb,ho⟩:=ρ.glob g h;have:=VR.ptr (Y:=Y) g 0 p hp;rw[hb,ho]at this;exact this
 |func f=>exact .fn _ _ _ _ _ rfl (λi x u h=>by simp at h) rfl (λi x u h=>by simp at h)
def VR.of_bool{x:Value}{b:Bool}(r:VR Y x (.bool b)):x= .bool b:=by cases r;rfl
def wD{S:Slots}{a:Act}(ops:Array Oper)(o:Oper)(A: ∀j want d,o.guard=some (j,want)->ops[j]?.bind (·.dst)=some d->VR Y (S.at d) (a.tmps.getD d undef)):wanted ops S o=Region.wanted o (yielded ops a.tmps):=by
 unfold wanted Region.wanted;cases hg:o.guard with
 |none=>rfl
 |some jw=>
  obtain⟨j,want⟩:=jw;simp only[yielded];cases hd:ops[j]?.bind (·.dst)with
  |none=>simp
  |some d=>
   simp only[omS,obS];have r:=A j want d hg hd;rw[Array.getD_eq_getD_getElem?]at r;cases ht:a.tmps[d]? with
   |none=>
    rw[ht]at r;simp only[Option.getD_none]at r;cases hs:S.at d<;>first|rfl|skip
    rw[hs]at r;have:=r.bool_inv;cases this
   |some u=>
    rw[ht]at r;simp only[Option.getD_some]at r;cases hs:S.at d with
    |bool b=>rw[hs]at r;rw[r.bool_inv];cases b<;>cases want<;>rfl
    |_=>
     cases u with
     |bool b=>rw[r.of_bool]at hs;cases hs
     |_=>rfl
def aJa{S:Slots}{α:Nat}{a:Act}(A:AR Y S α a)(ops:Array Oper)(o:Oper):wanted ops S o=Region.wanted o (yielded ops a.tmps):=
 wD ops o (λ_ _ d _ _=>A.slot d)
def CallOK(w0:W0)(P:Program)(call:FuncId->Array Value->St->Option (Value×St)):Prop:=
 ∀f args args' H H' w Y r,call f args H=some (r,H')->Sim w0 P Y H w->VRL Y args.toList args'.toList->
  (∃ fn c, P.funcs[f]? = some fn ∧ fn.body = some c ∧ (fn.name == "runtime.NumGoroutine") = false) ∧
  Calls P f args' w λe w'=> ∃Y' r',e= .returned r'/\VR Y' r r'/\Sim w0 P Y' H' w'/\Ext H.next Y Y'/\H.next<=H'.next
def Left(w0:W0)(P:Program)(Y:Mp)(H H':St)(id:Nat)(a:Act)(o:Oper)(v:Value)(a':Act)(w':World):Prop:=
 ∃Y' v',a'=a.put o.dst v'/\VR Y' v v'/\Sim w0 P Y' H' w'/\(∀k p,Y k=some p->Y' k=some p)/\(∀k,k<H.next->k≠id->Y' k=Y k)/\H.next<=H'.next
def nE{a:Act}{o:Oper}{v':Value}{w':World}{K:Act->World->Prop}{Q:Exit->Act->World->Prop}(h:(execOp a.eval o).run P w= .ok (.value v') w')(k:K (a.put o.dst v') w'):o.wp P a w K Q:=by
 unfold Oper.wp;rw[h];exact k
def wp_skip'{a:Act}{o:Oper}{w':World}{K:Act->World->Prop}{Q:Exit->Act->World->Prop}(h:(execOp a.eval o).run P w= .ok .skip w')(k:K (a.put o.dst undef) w'):o.wp P a w K Q:=by
 unfold Oper.wp;rw[h];exact k
def aJO{Z:Operand->Value}{a:Act}{o:Oper}{v:Value}{Q:Exit->Act->World->Prop}(id:Nat)(ρ:Sim w0 P Y H w)(hρ: ∀x∈o.op.operands,VR Y (Z x) (a.eval x))(h:iT P H Z o=some v):
    o.wp P a w (Left w0 P Y H H id a o v) Q:=by
 obtain⟨v',h1,h2⟩:=aread_ok ρ hρ h;exact nE h1 ⟨Y,v',rfl,h2,ρ,λ_ _ h=>h,λ_ _ _=>rfl,nlR _⟩
def aKi{Z:Operand->Value}{a:Act}{o:Oper}{v:Value}{Q:Exit->Act->World->Prop}(id:Nat)(ρ:Sim w0 P Y H w)(hρ: ∀x∈o.op.operands,VR Y (Z x) (a.eval x))(h:jN P Z o=some v):
    o.wp P a w (Left w0 P Y H H id a o v) Q:=by
 obtain⟨v',h1,h2⟩:=apure_ok (Y:=Y) hρ h;exact nE (eE h1 w) ⟨Y,v',rfl,h2,ρ,λ_ _ h=>h,λ_ _ _=>rfl,nlR _⟩
def aGF{Z:Operand->Value}{a:Act}{o:Oper}{v:Value}{ob:AObj}{id:Nat}{Q:Exit->Act->World->Prop}(ρ:Sim w0 P Y H w)(hρ: ∀x∈o.op.operands,VR Y (Z x) (a.eval x))
    (hid:Y id=none) (bi:id<H.next) (h:eO P Z o id=some (v,ob)) (dw:H.get id=some ob):o.wp P a w (Left w0 P Y H H id a o v) Q:=by
 obtain⟨v',O,p,h1,hb,ho,hN,hv⟩:=aMU (Y:=Y) w hρ h;exact nE h1 ⟨upd Y id p,v',rfl,hv _ (gC _ _ _),ρ.alloc hid bi dw hN hb ho,iD p hid,λk _ hk=>fQ hk,nlR _⟩
def yX{Z:Operand->Value}{o:Oper}{id:Nat}{v:Value}{ob:AObj}(h:eO P Z o id=some (v,ob)): ∀cs m g u,ob= .cells cs m->m.grp=some (g,u)->u<=0:=by
 intro cs m g u e hg;subst e;unfold eO at h;split at h<;>try cases h
 ·split at h<;>try cases h
  simp only[cond_eq_ite]at h;split at h<;>cases h;cases hg
 ·simp only[cond_eq_ite]at h;split at h<;>cases h;cases hg
 ·split at h<;>try cases h
  split at h<;>try cases h
  split at h<;>try cases h
  simp only[cond_eq_ite]at h;split at h<;>try cases h
  rw[mjE]at h;obtain⟨_,_,e⟩:=h;cases e;cases hg
 ·split at h<;>try cases h
  split at h<;>try cases h
  split at h<;>try cases h
  simp only[cond_eq_ite]at h;split at h<;>try cases h
  split at h<;>cases h
  ·cases hg
  ·simp only[ojE,pjE]at hg;omega
def eff_wp{call:FuncId->Array Value->St->Option (Value×St)}(bj:CallOK w0 P call){S:Slots}{a:Act}{o:Oper}{v:Value}{H':St}{id:Nat}{Q:Exit->Act->World->Prop}
    (ρ:Sim w0 P Y H w) (hρ: ∀x∈o.op.operands,VR Y (ev S x) (a.eval x)) (hid:Y id=none) (bi:id<H.next) (h:aA6 P call H (ev S) o id=some (v,H')):
    o.wp P a w (Left w0 P Y H H' id a o v) Q:=by
 unfold aA6 at h;cases ho:o.op<;>simp only[ho]at h hρ<;>try cases h
 case store t p x=>
  rw[mjE]at h;obtain⟨H1,h,he⟩:=h;cases he;obtain⟨w',h1,h2,h3⟩:=aMJ ρ (hρ p (by simp[Op.operands])) (hρ x (by simp[Op.operands])) h
  refine wp_skip' (w':=w') ?_ ⟨Y,undef,rfl,.undef,h2,λ_ _ h=>h,λ_ _ _=>rfl,by omega⟩
  unfold execOp;rw[ho];simp[h1]
 case call c=>
  have hargs:=aA3 (Y:=Y) (Z:=ev S) (Z':=a.eval) c.args.toList (λx hx=>hρ x (dV c x hx))
  split at h
  ·rename_i hc;split at h<;>try cases h
   rename_i s x hsx;have fy:c.args= #[s,x]:=by apply Array.toList_inj.1;rw[hsx]
   obtain⟨v',w',Y',h1,h2,h3,h4,h5,h6⟩:=aIy (ty:=o.type) ρ (hρ s (dV c s (by rw[hsx];simp))) (hρ x (dV c x (by rw[hsx];simp))) hid bi h
   refine nE (v':=v') (w':=w') ?_ ⟨Y',v',rfl,h2,h3,h4,λk _ hk=>h5 k hk,by omega⟩
   unfold execOp;rw[ho];simp only[resolve,hc,Sem.run_bind,Sem.run_pure,Result.andThen_ok,invoke,builtin];rw[fy];simp[h1]
  ·split at h<;>try cases h
   rename_i g args mz;unfold aAV at mz;split at mz<;>try cases mz
   rename_i f hc;split at mz<;>try cases mz
   rename_i first captured hf
   have gf:=hρ f (by simp[Op.operands,Call.operands,hc])
   rw[hf]at gf;have fi: ∃us vs,a.eval f= .func (.func g) us vs/\VRL Y first.toList us.toList/\VRL Y captured.toList vs.toList:=by
    generalize a.eval f=y at gf;cases gf with
    |same _ h=>simp[aE]at h
    |fn _ xs ys us vs hl h dj h'=>exact⟨us,vs,rfl,⟨hl,h⟩,⟨dj,h'⟩⟩
   obtain⟨us,vs,hfe,hr1,hr2⟩:=fi;have ch:VRL Y (first++c.args.map (ev S)++captured).toList (us++c.args.map a.eval++vs).toList:=by
    simp only[Array.toList_append,Array.toList_map];exact(hr1.append hargs).append hr2
   obtain⟨⟨fn,code,fi,hbody,hname⟩,hC⟩:=bj g _ _ H H' w Y v h ρ ch;have fk:(execOp a.eval o).run P w= .ok (.enter g (us++c.args.map a.eval++vs)) w:=by
    unfold execOp;rw[ho];simp only[resolve,hc,hfe,Deferred.ofValue,Sem.run_bind,Sem.run_pure,Result.andThen_ok,invoke,callFunc,run_program,fi,hname,hbody,Option.isNone_some,Bool.false_eq_true,if_false]
   unfold Oper.wp;rw[fk,Oper.upon_enter];refine hC.mono λe w' ⟨Y',r',he,hr,hZ,hE,hn⟩=>?_
   subst he;exact⟨Y',r',rfl,hr,hZ,hE.1,λk hk _=>hE.2 k hk,hn⟩
def aop_ok{call:FuncId->Array Value->St->Option (Value×St)}(bj:CallOK w0 P call){S:Slots}{α:Nat}{a:Act}{o:Oper}{v:Value}{H':St}{base i:Nat}{Q:Exit->Act->World->Prop}
    (A:AR Y S α a) (ρ:Sim w0 P Y H w) (dg: ∀x∈o.op.operands,aM P x=true) (hid:Y (base+i)=none) (bi:base+i<H.next) (h:aop P call base i o S H=some (v,H')):
    o.wp P a w (Left w0 P Y H H' (base+i) a o v) Q:=by
 have hρ: ∀x∈o.op.operands,VR Y (ev S x) (a.eval x):=λx hx=>ev_ok A ρ (dg x hx)
 unfold aop at h;split at h
 ·rw[mjE]at h;obtain⟨_,h,e⟩:=h;cases e;unfold qZ at h;split at h
  ·rename_i v' dr;cases h;exact aKi _ ρ hρ dr
  ·split at h<;>try cases h
   rename_i s d x ho;have h1:=aMS ρ (hρ x (by rw[ho];simp[Op.operands])) h
   have dd: ∃ba,v= .string ba:=by
    unfold oT at h;split at h<;>try cases h
    split at h<;>try cases h
    split at h<;>try cases h
    ·split at h<;>try cases h
     split at h<;>try cases h
     rw[mjE]at h;obtain⟨ns,_,rfl⟩:=h;exact⟨_,rfl⟩
    ·exact⟨_,rfl⟩
   obtain⟨ba,rfl⟩:=dd;refine nE (v':= .string ba) ?_ ⟨Y,_,rfl,.same _ rfl,ρ,λ_ _ h=>h,λ_ _ _=>rfl,nlR _⟩
   unfold execOp;rw[ho];simp[h1]
 ·rw[mjE]at h;obtain⟨_,h,e⟩:=h;cases e;exact aJO _ ρ hρ h
 ·rw[mjE]at h;obtain⟨⟨v1,ob⟩,h,e⟩:=h;cases e;have Z1:Sim w0 P Y (H.put (base+i) ob) w:=ρ.put_new hid (λcs m g u e1 e2=>by have:=yX h cs m g u e1 e2;omega)
  exact aGF Z1 hρ hid bi h (by rw[St.get_put,if_pos rfl])
 ·exact eff_wp bj ρ hρ hid bi h
def pM{α:Nat}{o:Oper}(h:gY P α o=true): ∀t,o.dst=some t->t<α:=by
 intro t e;unfold gY at h;simp only[e,iN,bjE,djE]at h;exact h.1
def wY{α:Nat}{o:Oper}(h:gY P α o=true): ∀x∈o.op.operands,aM P x=true:=by
 intro x hx;unfold gY at h;simp only[bjE]at h;have:=h.2;rw[Array.all_eq_true']at this;exact this x hx
def iV(w0:W0)(P:Program)(Y:Mp)(n:Nat)(α:Nat)(S':Slots)(H':St)(Q:Act->World->Prop):Prop:=
 ∀a' w' Y',AR Y' S' α a'->Sim w0 P Y' H' w'->Ext n Y Y'->n<=H'.next->Q a' w'
def aJG{call:FuncId->Array Value->St->Option (Value×St)}(bj:CallOK w0 P call){ops:Array Oper}{base α n0:Nat}{Q:Exit->Act->World->Prop}(hn0:n0<=base)(bz: ∀o∈ops.toList,gY P α o=true):
    ∀(l:List Oper) (i:Nat) (S S':Slots) (H H':St) (a:Act) (w:World) (Y Y0:Mp),(∀j,l[j]?=ops[i+j]?)->i+l.length=ops.size->
      AR Y S α a->Sim w0 P Y H w->Ext n0 Y0 Y->base+ops.size<=H.next->(∀j,i<=j->j<ops.size->Y (base+j)=none)->
      dL P call ops base l i S H=some (S',H')->iV w0 P Y0 n0 α S' H' (Q .normal)->wpOps P ops Q (List.range' i l.length) a w:=by
 intro l;induction l with
 |nil=>
  intro i S S' H H' a w Y Y0 hl hlen A ρ E ke ca h cq;simp only[dL,ojE,pjE]at h;obtain⟨rfl,rfl⟩:=h;exact cq a w Y A ρ E (by omega)
 |cons o l ih=>
  intro i S S' H H' a w Y Y0 hl hlen A ρ E ke ca h cq;have qb:ops[i]?=some o:=by simpa using (hl 0).symm
  have kg:o∈ops.toList:=by
   have:ops.toList[i]?=some o:=by simpa using qb
   exact List.mem_of_getElem? this
  have lj:=bz o kg;simp only[lcS]at hlen;have dj: ∀j,l[j]?=ops[i+1+j]?:=λj=>by have:=hl (j+1);rw[show i+1+j=i+(j+1) by omega,<-this];simp
  simp only[lcS,List.range'_succ,wpOps,qb];unfold dL at h;rw[aJa A ops o]at h;cases hw:Region.wanted o (yielded ops a.tmps)with
  |false=>
   rw[hw]at h;simp only[cdf]at h;simp only[Bool.false_eq_true,if_false];exact ih (i+1) _ S' H H' _ w Y Y0 dj (by omega) (A.put (pM lj) .undef) ρ E ke (λj hj pd=>ca j (by omega) pd) h cq
  |true=>
   rw[hw]at h;simp only[cdt]at h;simp only[if_true];split at h<;>try cases h
   rename_i v H1 ly;refine .inl (Oper.wp_mono (λa' w' hL=>?_) (aop_ok bj A ρ (wY lj) (ca i (nlR _) (by omega)) (by omega) ly (Q:=Q)))
   obtain⟨Y',v',rfl,hv,hZ,cf,ci,hnx'⟩:=hL;exact ih (i+1) _ S' H1 H' _ w' Y' Y0 dj (by omega) ((A.mono cf).put (pM lj) hv) hZ
    ⟨λk p hk=>cf k p (E.1 k p hk),λk hk=>(ci k (by omega) (by omega)).trans (E.2 k hk)⟩ (by omega)
    (λj hj pd=>(ci (base+j) (by omega) (by omega)).trans (ca j (by omega) pd)) h cq
end
end Go.AI
namespace Go.AI
mutual
def lB: ∀(a b:Value),dY a b=true->a=b
 | .bool a,b,h=>by cases b<;>simp[dY]at h;rw[h]
 | .int j a,b,h=>by cases b<;>simp[dY]at h;rw[h.1,h.2]
 | .float j a,b,h=>by cases b<;>simp[dY]at h;rw[h.1,h.2]
 | .complex j a c,b,h=>by cases b<;>simp[dY]at h;rw[h.1.1,h.1.2,h.2]
 | .string a,b,h=>by
  cases b with
  |string b=>
   simp only[dY,beq_iff_eq]at h;cases a;cases b;have:=Array.toList_inj.1 h;simp only at this;rw[this]
  |_=>simp[dY]at h
 | .pointer a,b,h=>by cases b<;>simp[dY]at h;rw[h]
 | .slice a l c,b,h=>by cases b<;>simp[dY]at h;rw[h.1.1,h.1.2,h.2]
 | .map a,b,h=>by cases b<;>simp[dY]at h;rw[h]
 | .chan a,b,h=>by cases b<;>simp[dY]at h;rw[h]
 | .func f ⟨xs⟩ ⟨ys⟩,b,h=>by
  cases b with
  |func g us vs=>
   obtain⟨us⟩:=us;obtain⟨vs⟩:=vs;simp[dY]at h;rw[h.1.1,lC xs us h.1.2,lC ys vs h.2]
  |_=>simp[dY]at h
 | .nilFunc,b,h=>by cases b<;>simp[dY]at h;rfl
 | .iface t v,b,h=>by
  cases b with
  |iface u w=>simp[dY]at h;rw[h.1,lB v w h.2]
  |_=>simp[dY]at h
 | .nilIface,b,h=>by cases b<;>simp[dY]at h;rfl
 | .agg ⟨xs⟩,b,h=>by
  cases b with
  |agg ys=>obtain⟨ys⟩:=ys;simp[dY]at h;rw[lC xs ys h]
  |_=>simp[dY]at h
 | .tuple ⟨xs⟩,b,h=>by
  cases b with
  |tuple ys=>obtain⟨ys⟩:=ys;simp[dY]at h;rw[lC xs ys h]
  |_=>simp[dY]at h
def lC: ∀(a b:List Value),pF a b=true->a=b
 |[],b,h=>by cases b<;>simp[pF]at h;rfl
 |x::xs,b,h=>by
  cases b with
  |nil=>simp[pF]at h
  |cons y ys=>simp[pF]at h;rw[lB x y h.1,lC xs ys h.2]
end
def aDa{m n:Mta}(h:nJ m n=true):m=n:=by
 simp only[nJ,cG,bjE,beq_iff_eq,djE]at h;cases m;cases n;simp_all
def aFl: ∀(a b:List (Value×Value)),zT a b=true->a=b
 |[],b,h=>by cases b<;>simp[zT]at h;rfl
 |x::xs,b,h=>by
  cases b with
  |nil=>simp[zT]at h
  |cons y ys=>
   simp only[zT,bjE]at h;rw[Prod.ext (lB _ _ h.1.1) (lB _ _ h.1.2),aFl xs ys h.2]
def wK{a b:AObj}(h:kG a b=true):a=b:=by
 cases a with
 |cells cs m=>cases b with
  |cells ds n=>simp only[kG,bjE]at h;rw[lC _ _ h.1,aDa h.2]
  |map _=>simp[kG]at h
 |map es=>cases b with
  |cells _ _=>simp[kG]at h
  |map fs=>rw[aFl es fs h]
section
variable{P:Program}{call:FuncId->Array Value->St->Option (Value×St)}{ops:Array Oper}{ms:List Nat}{base:Nat}{S':Slots}{H':St}
structure Rec where
 i:Nat
 o:Oper
 S:Slots
 v:Value
def vD(P:Program)(base:Nat)(H:St)(r:iW):Prop:=
 match r.ob with
 |none=>iT P H (ev r.S) r.o=some r.v
 |some ob=>H.get (base+r.i)=some ob
def sB{H:St}{r:iW}(h:check P base H r=true):vD P base H r:=by
 unfold check at h;unfold vD;cases hr:r.ob with
 |none=>
  simp only[hr]at h⊢;split at h
  ·rename_i v hv;rw[hv,lB _ _ h]
  ·cases h
 |some ob=>
  simp only[hr]at h⊢;split at h
  ·rename_i v hv;rw[hv,wK h]
  ·cases h
inductive Cert(P:Program)(call:FuncId->Array Value->St->Option (Value×St))(ops:Array Oper)(ms:List Nat)(base:Nat)(S':Slots)(H':St):List Rec->List St->List Nat->List iW->Slots->St->Prop where
 |nil (pend:List iW) (h: ∀p∈pend,vD P base H' p):Cert P call ops ms base S' H' [] [H'] [] pend S' H'
 |skip (r:Rec) (rs:List Rec) (Cs:List St) (Es:List Nat) (pend:List iW) (H:St) (ho:ops[r.i]?=some r.o) (hw:wanted ops r.S r.o=false) (hv:r.v=undef)
      (h:Cert P call ops ms base S' H' rs Cs Es pend (r.S.store r.o.dst r.v) H):Cert P call ops ms base S' H' (r::rs) Cs Es pend r.S H
 |pure (r:Rec) (rs:List Rec) (Cs:List St) (Es:List Nat) (pend:List iW) (H:St) (ho:ops[r.i]?=some r.o) (hw:wanted ops r.S r.o=true) (hk:aW r.o= .pure) (hv:jN P (ev r.S) r.o=some r.v)
      (h:Cert P call ops ms base S' H' rs Cs Es pend (r.S.store r.o.dst r.v) H):Cert P call ops ms base S' H' (r::rs) Cs Es pend r.S H
 |read (r:Rec) (rs:List Rec) (Cs:List St) (Es:List Nat) (pend:List iW) (H:St) (ho:ops[r.i]?=some r.o) (hw:wanted ops r.S r.o=true) (hk:aW r.o= .read)
      (h:Cert P call ops ms base S' H' rs Cs Es (⟨r.i,r.o,r.S,r.v,none⟩::pend) (r.S.store r.o.dst r.v) H):Cert P call ops ms base S' H' (r::rs) Cs Es pend r.S H
 |alloc (r:Rec) (rs:List Rec) (Cs:List St) (Es:List Nat) (pend:List iW) (H:St) (ob:AObj) (ho:ops[r.i]?=some r.o) (hw:wanted ops r.S r.o=true) (hk:aW r.o= .alloc) (hv:eO P (ev r.S) r.o (base+r.i)=some (r.v,ob))
      (h:Cert P call ops ms base S' H' rs Cs Es (⟨r.i,r.o,r.S,r.v,some ob⟩::pend) (r.S.store r.o.dst r.v) (H.put (base+r.i) ob)):Cert P call ops ms base S' H' (r::rs) Cs Es pend r.S H
 |eff (r:Rec) (rs:List Rec) (Cs:List St) (Es:List Nat) (pend:List iW) (H H1:St) (ho:ops[r.i]?=some r.o) (hw:wanted ops r.S r.o=true) (hk:aW r.o= .eff) (hc: ∀p∈pend,vD P base H p)
      (hv:aA6 P call H (ev r.S) r.o (base+r.i)=some (r.v,H1)) (h:Cert P call ops ms base S' H' rs Cs Es (pend.filter λp=> !bit (ms.getD r.i 0) p.i) (r.S.store r.o.dst r.v) H1):
      Cert P call ops ms base S' H' (r::rs) (H::Cs) (r.i::Es) pend r.S H
def aEv: ∀(order:List Nat) (pend:List iW) (S:Slots) (H:St),bG P call ops ms base order pend S H=some (S',H')->
    ∃rs Cs Es,rs.map (·.i)=order/\Cert P call ops ms base S' H' rs Cs Es pend S H:=by
 intro order;induction order with
 |nil=>
  intro pend S H h;simp only[bG]at h;cases hc:pend.all (check P base H)with
  |false=>rw[hc]at h;cases h
  |true=>
   rw[hc]at h;simp only[cdt,ojE,pjE]at h;obtain⟨rfl,rfl⟩:=h;exact⟨[],_,[],rfl,.nil pend λp hp=>sB (List.all_eq_true.1 hc p hp)⟩
 |cons i rest ih=>
  intro pend S H h;simp only[bG]at h;split at h<;>try cases h
  rename_i o ho;cases hw:wanted ops S o with
  |false=>
   rw[hw]at h;simp only[cdf]at h;obtain⟨rs,Cs,Es,hm,hC⟩:=ih _ _ _ h;exact⟨⟨i,o,S,undef⟩::rs,Cs,Es,by simp[hm],.skip ⟨i,o,S,undef⟩ rs Cs Es pend H ho hw rfl hC⟩
  |true=>
   rw[hw]at h;simp only[cdt]at h;split at h
   ·rename_i hk;split at h<;>try cases h
    rename_i v hv;obtain⟨rs,Cs,Es,hm,hC⟩:=ih _ _ _ h;exact⟨⟨i,o,S,v⟩::rs,Cs,Es,by simp[hm],.pure ⟨i,o,S,v⟩ rs Cs Es pend H ho hw hk hv hC⟩
   ·rename_i hk;split at h<;>try cases h
    rename_i v hv;obtain⟨rs,Cs,Es,hm,hC⟩:=ih _ _ _ h;exact⟨⟨i,o,S,v⟩::rs,Cs,Es,by simp[hm],.read ⟨i,o,S,v⟩ rs Cs Es pend H ho hw hk hC⟩
   ·rename_i hk;split at h<;>try cases h
    rename_i v ob hv;obtain⟨rs,Cs,Es,hm,hC⟩:=ih _ _ _ h;exact⟨⟨i,o,S,v⟩::rs,Cs,Es,by simp[hm],.alloc ⟨i,o,S,v⟩ rs Cs Es pend H ob ho hw hk hv hC⟩
   ·rename_i hk;cases hc:pend.all (check P base H)with
    |false=>rw[hc]at h;cases h
    |true=>
     rw[hc]at h;simp only[cdt]at h;split at h<;>try cases h
     rename_i v H1 hv;obtain⟨rs,Cs,Es,hm,hC⟩:=ih _ _ _ h;exact⟨⟨i,o,S,v⟩::rs,H::Cs,i::Es,by simp[hm],.eff ⟨i,o,S,v⟩ rs Cs Es pend H H1 ho hw hk (λp hp=>sB (List.all_eq_true.1 hc p hp)) hv hC⟩
def Cert.lens{rs:List Rec}{Cs:List St}{Es:List Nat}{pend:List iW}{S:Slots}{H:St}(h:Cert P call ops ms base S' H' rs Cs Es pend S H):Cs.length=Es.length+1/\Cs[Es.length]?=some H':=by
 induction h with
 |nil=>exact⟨rfl,rfl⟩
 |skip=>assumption
 |pure=>assumption
 |read=>assumption
 |alloc=>assumption
 |eff r rs Cs Es pend H H1 ho hw hk hc hv h ih=>exact⟨by simp[ih.1],by simpa using ih.2⟩
def Cert.pending{rs:List Rec}{Cs:List St}{Es:List Nat}{pend:List iW}{S:Slots}{H:St}(h:Cert P call ops ms base S' H' rs Cs Es pend S H):
    ∀p∈pend,∀(j:Nat) (s:St),Cs[j]?=some s->(∀(q e:Nat),q<j->Es[q]?=some e->bit (ms.getD e 0) p.i=false)->vD P base s p:=by
 induction h with
 |nil pend h=>
  intro p hp j s hj _;cases j with
  |zero=>simp at hj;subst hj;exact h p hp
  |succ j=>simp at hj
 |skip r rs Cs Es pend H ho hw hv h ih=>exact ih
 |pure r rs Cs Es pend H ho hw hk hv h ih=>exact ih
 |read r rs Cs Es pend H ho hw hk h ih=>exact λp hp=>ih p (mtE _ hp)
 |alloc r rs Cs Es pend H ob ho hw hk hv h ih=>exact λp hp=>ih p (mtE _ hp)
 |eff r rs Cs Es pend H H1 ho hw hk hc hv h ih=>
  intro p hp j s hj hq;cases j with
  |zero=>simp at hj;subst hj;exact hc p hp
  |succ j=>
   have hb:=hq 0 r.i (by omega) (by simp)
   exact ih p (List.mem_filter.2 ⟨hp,by simp only[hb,Bool.not_false]⟩) j s (by simpa using hj) (λq e hqj he=>hq (q+1) e (by omega) (by simpa using he))
variable{w0:W0}
def Cert.first{rs:List Rec}{Cs:List St}{Es:List Nat}{pend:List iW}{S:Slots}{H:St}(h:Cert P call ops ms base S' H' rs Cs Es pend S H):
    ∃s,Cs[0]?=some s/\s.next=H.next/\∀(Y:Mp) (w:World),(∀r∈rs,Y (base+r.i)=none)->Sim w0 P Y H w->Sim w0 P Y s w:=by
 induction h with
 |nil pend h=>exact⟨_,rfl,rfl,λ_ _ _ h=>h⟩
 |skip r rs Cs Es pend H ho hw hv h ih=>obtain⟨s,h1,h2,h3⟩:=ih;exact⟨s,h1,h2,λY w hn hS=>h3 Y w (λr hr=>hn r (mtE _ hr)) hS⟩
 |pure r rs Cs Es pend H ho hw hk hv h ih=>obtain⟨s,h1,h2,h3⟩:=ih;exact⟨s,h1,h2,λY w hn hS=>h3 Y w (λr hr=>hn r (mtE _ hr)) hS⟩
 |read r rs Cs Es pend H ho hw hk h ih=>obtain⟨s,h1,h2,h3⟩:=ih;exact⟨s,h1,h2,λY w hn hS=>h3 Y w (λr hr=>hn r (mtE _ hr)) hS⟩
 |alloc r rs Cs Es pend H ob ho hw hk hv h ih=>
  obtain⟨s,h1,h2,h3⟩:=ih;exact⟨s,h1,h2,λY w hn hS=>h3 Y w (λr hr=>hn r (mtE _ hr)) (hS.put_new (hn r (by simp)) (λcs m g u e1 e2=>by have:=yX hv cs m g u e1 e2;omega))⟩
 |eff r rs Cs Es pend H H1 ho hw hk hc hv h ih=>exact⟨H,rfl,rfl,λ_ _ _ h=>h⟩
def Cert.at_eff{rs:List Rec}{Cs:List St}{Es:List Nat}{pend:List iW}{S:Slots}{H:St}(h:Cert P call ops ms base S' H' rs Cs Es pend S H){q e:Nat}(he:Es[q]?=some e):
    e<ops.size/\∃r∈rs,r.i=e/\ops[e]?=some r.o/\aW r.o= .eff/\wanted ops r.S r.o=true:=by
 induction h generalizing q with
 |nil=>simp at he
 |skip r rs Cs Es pend H ho hw hv h ih=>obtain⟨h1,r',h2,h3⟩:=ih he;exact⟨h1,r',mtE _ h2,h3⟩
 |pure r rs Cs Es pend H ho hw hk hv h ih=>obtain⟨h1,r',h2,h3⟩:=ih he;exact⟨h1,r',mtE _ h2,h3⟩
 |read r rs Cs Es pend H ho hw hk h ih=>obtain⟨h1,r',h2,h3⟩:=ih he;exact⟨h1,r',mtE _ h2,h3⟩
 |alloc r rs Cs Es pend H ob ho hw hk hv h ih=>obtain⟨h1,r',h2,h3⟩:=ih he;exact⟨h1,r',mtE _ h2,h3⟩
 |eff r rs Cs Es pend H H1 ho hw hk hc hv h ih=>
  cases q with
  |zero=>simp at he;subst he;exact⟨(Array.getElem?_eq_some_iff.1 ho).1,r,by simp,rfl,ho,hk,hw⟩
  |succ q=>obtain⟨h1,r',h2,h3⟩:=ih (q:=q) (by simpa using he);exact⟨h1,r',mtE _ h2,h3⟩
def Cert.effs_nodup{rs:List Rec}{Cs:List St}{Es:List Nat}{pend:List iW}{S:Slots}{H:St}(h:Cert P call ops ms base S' H' rs Cs Es pend S H)(hn:(rs.map (·.i)).Nodup):Es.Nodup:=by
 induction h with
 |nil=>exact List.nodup_nil
 |skip r rs Cs Es pend H ho hw hv h ih=>exact ih (List.nodup_cons.1 hn).2
 |pure r rs Cs Es pend H ho hw hk hv h ih=>exact ih (List.nodup_cons.1 hn).2
 |read r rs Cs Es pend H ho hw hk h ih=>exact ih (List.nodup_cons.1 hn).2
 |alloc r rs Cs Es pend H ob ho hw hk hv h ih=>exact ih (List.nodup_cons.1 hn).2
 |eff r rs Cs Es pend H H1 ho hw hk hc hv h ih=>
  have hn':=List.nodup_cons.1 hn;refine List.nodup_cons.2 ⟨λhm=>hn'.1 ?_,ih hn'.2⟩
  obtain⟨q,hq⟩:=List.getElem?_of_mem hm;obtain⟨_,r',h2,h3,_⟩:=h.at_eff hq;exact List.mem_map.2 ⟨r',h2,h3⟩
def vK{N:Type}: ∀(l:List N),(∀l1 i l2,l=l1++i::l2->i∉l1)->l.Nodup:=by
 intro l;induction l with
 |nil=>intro _;exact List.nodup_nil
 |cons a t ih=>
  intro h;refine List.nodup_cons.2 ⟨λhm=>?_,ih λl1 i l2 e=>λhi=>h (a::l1) i l2 (by rw[e];rfl) (mtE _ hi)⟩
  obtain⟨m1,m2,e⟩:=List.append_of_mem hm;exact h (a::m1) a m2 (by rw[e];rfl) (by simp)
def fV(w0:W0)(P:Program)(call:FuncId->Array Value->St->Option (Value×St))(ops:Array Oper)(ms:List Nat)(base:Nat)(Cs:List St)(Es:List Nat)(later:List Rec)(r:Rec)(je:Nat):Prop:=
 (wanted ops r.S r.o=false/\r.v=undef)∨
 (wanted ops r.S r.o=true/\aW r.o= .pure/\jN P (ev r.S) r.o=some r.v)∨
 (wanted ops r.S r.o=true/\aW r.o= .read/\∀(j:Nat) (s:St),je<=j->Cs[j]?=some s->(∀(q e:Nat),je<=q->q<j->Es[q]?=some e->bit (ms.getD e 0) r.i=false)->iT P s (ev r.S) r.o=some r.v)∨
 (wanted ops r.S r.o=true/\aW r.o= .alloc/\∃ob,eO P (ev r.S) r.o (base+r.i)=some (r.v,ob)/\
  ∀(j:Nat) (s:St),je<=j->Cs[j]?=some s->(∀(q e:Nat),je<=q->q<j->Es[q]?=some e->bit (ms.getD e 0) r.i=false)->s.get (base+r.i)=some ob)∨
 (wanted ops r.S r.o=true/\aW r.o= .eff/\Es[je]?=some r.i/\∃s H1 s',Cs[je]?=some s/\aA6 P call s (ev r.S) r.o (base+r.i)=some (r.v,H1)/\Cs[je+1]?=some s'/\s'.next=H1.next/\
  ∀(Y:Mp) (w:World),(∀r∈later,Y (base+r.i)=none)->Sim w0 P Y H1 w->Sim w0 P Y s' w)
def Cert.at: ∀(l1:List Rec) (r:Rec) (l2:List Rec) (Cs:List St) (Es:List Nat) (pend:List iW) (S:Slots) (H:St),Cert P call ops ms base S' H' (l1++r::l2) Cs Es pend S H->
    ops[r.i]?=some r.o/\∃je,je<=Es.length/\(∀q e,q<je->Es[q]?=some e->∃r'∈l1,r'.i=e/\iP r'.o=true/\ops[r'.i]?=some r'.o)/\fV w0 P call ops ms base Cs Es l2 r je:=by
 intro l1;induction l1 with
 |nil=>
  intro r l2 Cs Es pend S H h;simp only[nlA]at h;cases h with
  |skip _ _ _ _ _ _ ho hw hv h=>exact⟨ho,0,Nat.zero_le _,λq e hq=>by omega,.inl ⟨hw,hv⟩⟩
  |pure _ _ _ _ _ _ ho hw hk hv h=>exact⟨ho,0,Nat.zero_le _,λq e hq=>by omega,.inr (.inl ⟨hw,hk,hv⟩)⟩
  |read _ _ _ _ _ _ ho hw hk h=>
   refine⟨ho,0,Nat.zero_le _,λq e hq=>by omega,.inr (.inr (.inl ⟨hw,hk,λj s _ hj hq=>?_⟩))⟩
   exact h.pending _ (mhE) j s hj (λq e hqj he=>hq q e (by omega) hqj he)
  |alloc _ _ _ _ _ _ ob ho hw hk hv h=>
   refine⟨ho,0,Nat.zero_le _,λq e hq=>by omega,.inr (.inr (.inr (.inl ⟨hw,hk,ob,hv,λj s _ hj hq=>?_⟩)))⟩
   exact h.pending _ (mhE) j s hj (λq e hqj he=>hq q e (by omega) hqj he)
  |eff _ _ Cs' Es' _ _ H1 ho hw hk hc hv h=>
   obtain⟨s',h1,h2,h3⟩:=h.first (w0:=w0)
   exact⟨ho,0,Nat.zero_le _,λq e hq=>by omega,.inr (.inr (.inr (.inr ⟨hw,hk,rfl,H,H1,s',rfl,hv,by simpa using h1,h2,h3⟩)))⟩
 |cons r0 l1 ih=>
  intro r l2 Cs Es pend S H h;simp only[cnA]at h;have lift: ∀{Cs Es pend S H},Cert P call ops ms base S' H' (l1++r::l2) Cs Es pend S H->ops[r.i]?=some r.o/\∃je,je<=Es.length/\(∀q e,q<je->Es[q]?=some e->∃r'∈r0::l1,r'.i=e/\iP r'.o=true/\ops[r'.i]?=some r'.o)/\fV w0 P call ops ms base Cs Es l2 r je:=by
   intro Cs Es pend S H h;obtain⟨h1,je,h0,h2,h3⟩:=ih r l2 Cs Es pend S H h;exact⟨h1,je,h0,λq e hq he=>let ⟨r',cb,hh⟩:=h2 q e hq he;⟨r',mtE _ cb,hh⟩,h3⟩
  cases h with
  |skip _ _ _ _ _ _ ho hw hv h=>exact lift h
  |pure _ _ _ _ _ _ ho hw hk hv h=>exact lift h
  |read _ _ _ _ _ _ ho hw hk h=>exact lift h
  |alloc _ _ _ _ _ _ ob ho hw hk hv h=>exact lift h
  |eff _ _ Cs' Es' _ _ H1 ho hw hk hc hv h=>
   obtain⟨h1,je,h0,h2,h3⟩:=ih r l2 Cs' Es' _ _ _ h;refine⟨h1,je+1,by simp;omega,λq e hq he=>?_,?_⟩
   ·cases q with
    |zero=>simp at he;subst he;exact⟨r0,by simp,rfl,by simp[iP,hk],ho⟩
    |succ q=>obtain⟨r',cb,hh⟩:=h2 q e (by omega) (by simpa using he);exact⟨r',mtE _ cb,hh⟩
   ·rcases h3 with h3|h3|⟨a,b,c⟩|⟨a,b,ob,c,d⟩|⟨a,b,c,s,H2,s',d⟩
    ·exact .inl h3
    ·exact .inr (.inl h3)
    ·refine .inr (.inr (.inl ⟨a,b,λj s hj hs hq=>?_⟩))
     cases j with
     |zero=>omega
     |succ j=>exact c j s (by omega) (by simpa using hs) (λq e h1 h2 he=>hq (q+1) e (by omega) (by omega) (by simpa using he))
    ·refine .inr (.inr (.inr (.inl ⟨a,b,ob,c,λj s hj hs hq=>?_⟩)))
     cases j with
     |zero=>omega
     |succ j=>exact d j s (by omega) (by simpa using hs) (λq e h1 h2 he=>hq (q+1) e (by omega) (by omega) (by simpa using he))
    ·exact .inr (.inr (.inr (.inr ⟨a,b,by simpa using c,s,H2,s',by simpa using d⟩)))
def Cert.slots: ∀(l1:List Rec) (l2:List Rec) (Cs:List St) (Es:List Nat) (pend:List iW) (S:Slots) (H:St) (T:Slots),Cert P call ops ms base S' H' (l1++l2) Cs Es pend S H->
    (∀r l3,l2=r::l3->r.S=T)->(l2=[]->S'=T)->∀x,((∀r∈l1,r.o.dst≠some x)->T.at x=S.at x)/\
      (∀p1 r p2,l1=p1++r::p2->r.o.dst=some x->(∀r'∈p2,r'.o.dst≠some x)->T.at x=r.v):=by
 intro l1;induction l1 with
 |nil=>
  intro l2 Cs Es pend S H T h hT hT' x;simp only[nlA]at h;have:T=S:=by
   cases l2 with
   |nil=>rw[<-hT' rfl];cases h;rfl
   |cons r l3=>rw[<-hT r l3 rfl];cases h<;>rfl
  subst this;exact⟨λ_=>rfl,λp1 r p2 e=>by simp at e⟩
 |cons r0 l1 ih=>
  intro l2 Cs Es pend S H T h hT hT' x;simp only[cnA]at h;have main: ∀{Cs Es pend H},Cert P call ops ms base S' H' (l1++l2) Cs Es pend (S.store r0.o.dst r0.v) H->((∀r∈r0::l1,r.o.dst≠some x)->T.at x=S.at x)/\
   (∀p1 r p2,r0::l1=p1++r::p2->r.o.dst=some x->(∀r'∈p2,r'.o.dst≠some x)->T.at x=r.v):=by
   intro Cs Es pend H h;obtain⟨h1,h2⟩:=ih l2 Cs Es pend _ H T h hT hT' x;refine⟨λhn=>?_,λp1 r p2 e hd hn=>?_⟩
   ·rw[h1 (λr hr=>hn r (mtE _ hr)),Slots.at_store,if_neg (hn r0 (by simp))]
   ·cases p1 with
    |nil=>
     simp only[nlA,List.cons.injEq]at e;obtain⟨rfl,rfl⟩:=e;rw[h1 hn,Slots.at_store,if_pos hd]
    |cons p p1=>
     simp only[cnA,List.cons.injEq]at e;exact h2 p1 r p2 e.2 hd hn
  cases h with
  |skip _ _ _ _ _ _ ho hw hv h=>exact main h
  |pure _ _ _ _ _ _ ho hw hk hv h=>exact main h
  |read _ _ _ _ _ _ ho hw hk h=>exact main h
  |alloc _ _ _ _ _ _ ob ho hw hk hv h=>exact main h
  |eff _ _ Cs' Es' _ _ H1 ho hw hk hc hv h=>exact main h
def bit_or(a b i:Nat):bit (a|||b) i=(bit a i||bit b i):=by
 have h: ∀m,bit m i=m.testBit i:=by
  intro m;unfold bit;rw[cG,Nat.testBit_eq_decide_div_mod_eq,Nat.shiftRight_eq_div_pow]
 rw[h,h,h,Nat.testBit_or]
def aMI(j i:Nat):bit (1<<<j) i=decide (i=j):=by
 unfold bit;have:(1<<<j>>>i)%2=if i=j then 1 else 0:=by
  have h:=Nat.testBit_eq_decide_div_mod_eq (x:=1<<<j) (i:=i);rw[<-Nat.shiftRight_eq_div_pow]at h;have h2:(1<<<j).testBit i=decide (i=j):=by
   rw[Nat.one_shiftLeft,Nat.testBit_two_pow];by_cases e:j=i
   ·subst e;simp
   ·simp[e,Ne.symm e]
  rw[h2]at h;by_cases e:i=j
  ·rw[if_pos e];simp only[e,decide_true]at h;have:=of_decide_eq_true h.symm;rw[e];exact this
  ·rw[if_neg e];simp only[e,decide_false]at h;have:=of_decide_eq_false h.symm;omega
 rw[this,cG];by_cases e:i=j<;>simp[e]
def aGB(i:Nat):bit 0 i=false:=by simp[bit,cG]
def aDl(ps:List Nat)(o:Oper)(j:Nat)(h:bit (oE ps o) j=true): ∃e∈o.after,Region.binds .any e=true/\(e.on=j∨(e.on<ps.length/\bit (ps.getD e.on 0) j=true)):=by
 unfold oE at h;have main: ∀(l:List Edge) (m:Nat),bit (l.foldl (λm e=>bif Region.binds .any e then(m|||(1<<<e.on))|||ps.getD e.on 0 else m) m) j=true->bit m j=true∨∃e∈l,Region.binds .any e=true/\(e.on=j∨(e.on<ps.length/\bit (ps.getD e.on 0) j=true)):=by
  intro l;induction l with
  |nil=>intro m h;exact .inl h
  |cons e l ih=>
   intro m h;simp only[List.foldl_cons]at h;rcases ih _ h with h|⟨e',fo,h⟩
   ·cases hb:Region.binds .any e with
    |false=>rw[hb]at h;exact .inl h
    |true=>
     rw[hb]at h;simp only[cdt,bit_or,aMI,Bool.or_eq_true,djE]at h;rcases h with(h|h)|h
     ·exact .inl h
     ·exact .inr ⟨e,by simp,hb,.inl h.symm⟩
     ·refine .inr ⟨e,by simp,hb,.inr ⟨?_,h⟩⟩
      rcases Nat.lt_or_ge e.on ps.length with hl|hl
      ·exact hl
      ·rw[List.getD_eq_getElem?_getD,List.getElem?_eq_none hl]at h;simp[aGB]at h
   ·exact .inr ⟨e',mtE _ fo,h⟩
 rcases main _ _ h with h|⟨e,he,h⟩
 ·rw[aGB]at h;cases h
 ·exact⟨e,Array.mem_toList_iff.1 he,h⟩
def aKL: ∀(l:List Oper) (ps:List Nat) (i:Nat),(∀(h:i<ps.length),(cF l ps).getD i 0=ps.getD i 0)/\(∀(k:Nat) (o:Oper),i=ps.length+k->l[k]?=some o->∃qs,(cF l ps).getD i 0=oE qs o/\qs.length=i/\∀j,j<i->qs.getD j 0=(cF l ps).getD j 0):=by
 intro l;induction l with
 |nil=>intro ps i;exact⟨λ_=>rfl,λk o _ h=>by simp at h⟩
 |cons o l ih=>
  intro ps i;simp only[cF];have jm: ∀j,j<ps.length->(ps++ [oE ps o]).getD j 0=ps.getD j 0:=λj hj=>by
   simp only[List.getD_eq_getElem?_getD,List.getElem?_append_left hj]
  refine⟨λh=>?_,λk o' hi hk=>?_⟩
  ·rw[(ih (ps++ [oE ps o]) i).1 (by simp;omega),jm i h]
  ·cases k with
   |zero=>
    simp only[gcZ,ojE]at hk;subst hk;refine⟨ps,?_,by omega,λj hj=>?_⟩
    ·rw[(ih (ps++ [oE ps o]) i).1 (by simp;omega)]
     simp[List.getD_eq_getElem?_getD,hi]
    ·rw[(ih (ps++ [oE ps o]) j).1 (by simp;omega),jm j (by omega)]
   |succ k=>exact(ih (ps++ [oE ps o]) i).2 k o' (by simp;omega) (by simpa using hk)
structure vB(ops:Array Oper)(ms:List Nat)(order:List Nat):Prop where
 edge: ∃rk:Nat->Nat,∀i o e,ops[i]?=some o->e∈o.after->Region.binds .any e=true->rk e.on<rk i/\e.on<ops.size
 mask: ∀i o j,ops[i]?=some o->bit (ms.getD i 0) j=true->∃e∈o.after,Region.binds .any e=true/\(e.on=j∨(e.on<i/\bit (ms.getD e.on 0) j=true))
 guard: ∀i o j b,ops[i]?=some o->o.guard=some (j,b)->bit (ms.getD i 0) j=true/\j<ops.size
 haz: ∀(i j:Nat) (o o':Oper) (d:Tmp),i≠j->ops[i]?=some o->ops[j]?=some o'->o'.dst=some d->d∈o.looksAt ops->bit (ms.getD i 0) j=true∨bit (ms.getD j 0) i=true
 dsts: ∀(i j:Nat) (o o':Oper) (d:Tmp),i≠j->ops[i]?=some o->ops[j]?=some o'->o.dst=some d->o'.dst=some d->False
 split: ∀l1 i l2,order=l1++i::l2->i<ops.size/\i∉l1/\(∀j,j<ops.size->bit (ms.getD i 0) j=true->j∈l1)/\(∀e o,e∈l1->ops[e]?=some o->iP o=true->bit (ms.getD i 0) e=true)
 all: ∀i,i<ops.size->i∈order
def aJi: ∀(order done:List Nat),topo ops ms order done=true->
    (∀l1 i l2,order=l1++i::l2->i<ops.size/\i∉l1/\i∉done/\(∀j,j<ops.size->bit (ms.getD i 0) j=true->j∈l1∨j∈done)/\(∀e o,(e∈l1∨e∈done)->ops[e]?=some o->iP o=true->bit (ms.getD i 0) e=true))/\
    (∀i,i<ops.size->i∈order∨i∈done):=by
 intro order;induction order with
 |nil=>
  intro done h;simp only[topo,List.all_eq_true,List.mem_range,List.contains_iff_mem]at h;exact⟨λl1 i l2 e=>by simp at e,λi hi=> .inr (h i hi)⟩
 |cons a rest ih=>
  intro done h;simp only[topo,bjE,iN,djE,List.all_eq_true,List.mem_range,Bool.or_eq_true,Bool.not_eq_true',List.contains_iff_mem]at h;obtain⟨⟨⟨⟨h1,h2⟩,h3⟩,h4⟩,h5⟩:=h;obtain⟨g1,g2⟩:=ih _ h5;have gb:a∉done:=by intro hm;rw[List.contains_iff_mem.2 hm]at h2;cases h2
  refine⟨λl1 i l2 e=>?_,λi hi=>?_⟩
  ·cases l1 with
   |nil=>
    simp only[nlA,List.cons.injEq]at e;obtain⟨rfl,rfl⟩:=e;refine⟨h1,by simp,gb,λj hj hb=>?_,λe o he ho hef=>?_⟩
    ·rcases h3 j hj with hh|hh
     ·rw[hb]at hh;cases hh
     ·exact .inr hh
    ·rcases he with he|he
     ·cases he
     ·rcases h4 e he with hh|hh
      ·simp[effAt,ho,hef]at hh
      ·exact hh
   |cons b l1=>
    simp only[cnA,List.cons.injEq]at e;obtain⟨rfl,e⟩:=e;obtain⟨k1,k2,k3,k4,k5⟩:=g1 l1 i l2 e;simp only[List.mem_cons,not_or]at k3;refine⟨k1,by simp only[List.mem_cons,not_or];exact⟨k3.1,k2⟩,k3.2,λj hj hb=>?_,λe o he=>k5 e o ?_⟩
    ·rcases k4 j hj hb with h|h
     ·exact .inl (mtE _ h)
     ·rcases List.mem_cons.1 h with h|h
      ·exact .inl (by simp[h])
      ·exact .inr h
    ·rcases he with he|he
     ·rcases List.mem_cons.1 he with h|h
      ·exact .inr (by simp[h])
      ·exact .inl h
     ·exact .inr (mtE _ he)
  ·rcases g2 i hi with h|h
   ·exact .inl (mtE _ h)
   ·rcases List.mem_cons.1 h with h|h
    ·exact .inl (by simp[h])
    ·exact .inr h
def aDH{rk:Nat->Nat}{order:List Nat}(h:mC rk ops order=true):vB ops (cF ops.toList []) order:=by
 unfold mC at h;simp only[bjE,List.all_eq_true]at h;obtain⟨ht,hl⟩:=h;obtain⟨t1,t2⟩:=aJi _ _ ht;have mem: ∀{i o},ops[i]?=some o->(o,i)∈ops.toList.zipIdx:=by
  intro i o ho;rw[List.mem_zipIdx_iff_getElem?];simpa using ho
 refine⟨?_,?_,?_,?_,?_,?_,?_⟩
 ·refine⟨rk,?_⟩;intro i o e ho he hb;have:=(hl _ (mem ho)).1.1;have:=this e (Array.mem_toList_iff.2 he);simp only[hb,bnT,Bool.false_or,iN,bjE,djE]at this;exact this
 ·intro i o j ho hb;have hlo:ops.toList[i]?=some o:=by simpa using ho
  obtain⟨qs,h1,h2,h3⟩:=(aKL ops.toList [] i).2 i o (by simp) hlo
  rw[h1]at hb;obtain⟨e,he,kz,hor⟩:=aDl qs o j hb;refine⟨e,he,kz,hor.imp id λ⟨bi,pm⟩=>⟨by omega,?_⟩⟩
  rw[h3 e.on (by omega)]at pm;exact pm
 ·intro i o j b ho hg;have:=(hl _ (mem ho)).1.2;simp only[hg,bjE,iN,djE]at this;exact this
 ·intro i j o o' d bm ho fv hd kw;have:=(hl _ (mem ho)).2 _ (mem fv);simp only[aGb,cG,bm,decide_false,Bool.false_or,hd,bjE,Bool.or_eq_true]at this;rcases this.1 with(h|h)|h
  ·exact .inl h
  ·exact .inr h
  ·rw[List.contains_iff_mem.2 kw]at h;cases h
 ·intro i j o o' d bm ho fv hd md;have:=(hl _ (mem ho)).2 _ (mem fv);simp only[aGb,cG,bm,decide_false,Bool.false_or,hd,md,bjE,decide_true,bnT]at this;exact absurd this.2 (by simp)
 ·intro l1 i l2 e;obtain⟨h1,h2,h3,h4,h5⟩:=t1 l1 i l2 e;exact⟨h1,h2,λj hj hb=>(h4 j hj hb).resolve_right (by simp),λe o he=>h5 e o (.inl he)⟩
 ·intro i hi;exact(t2 i hi).resolve_right (by simp)
def okDraw_G(h:aBt ops=true):mC (λi=>i) ops (oM ops (cF ops.toList []))=true:=by
 unfold aBt at h;unfold mC;simp only[bjE,List.all_eq_true]at h⊢;obtain⟨ht,hl⟩:=h;refine⟨ht,λx hx=>?_⟩
 obtain⟨⟨h1,h2⟩,h3⟩:=hl x hx;refine⟨⟨λe he=>?_,h2⟩,h3⟩
 have h4:=h1 e he;cases hb:Region.binds .any e with
 |false=>rfl
 |true=>
  rw[hb]at h4;simp only[bnT,Bool.false_or,iN,djE,bjE]at h4⊢;have lq:ops.toList[x.2]?=some x.1:=by
   have:=List.mem_zipIdx_iff_getElem?.1 (show(x.1,x.2)∈ops.toList.zipIdx from hx)
   exact this
  have hi:=(List.getElem?_eq_some_iff.1 lq).1;exact⟨h4,by have:ops.toList.length=ops.size:=Array.length_toList;omega⟩
def drawOK(h:aBt ops=true):vB ops (cF ops.toList []) (oM ops (cF ops.toList [])):=aDH (okDraw_G h)
structure aA4(w0:W0)(P:Program)(ops:Array Oper)(base α n0:Nat)(S0:Slots)(rs:List Rec)(Cs:List St)(Es:List Nat)(Y0:Mp)(listed:Array Bool)(a:Act)(w:World)(Y:Mp)(k:Nat)(s:St):Prop where
 size:listed.size=ops.size
 closed: ∀(i:Nat) (o:Oper) (e:Edge),ops[i]?=some o->listed.getD i false=true->e∈o.after->Region.binds .any e=true->listed.getD e.on false=true
 count: ∀(q e:Nat),Es[q]?=some e->(listed.getD e false=true↔q<k)
 state:Cs[k]?=some s
 sim:Sim w0 P Y s w
 next:base+ops.size<=s.next
 none: ∀i,i<ops.size->listed.getD i false=false->Y (base+i)=none
 ext:Ext n0 Y0 Y
 tsize:α<=a.tmps.size
 defers:a.defers=[]
 here: ∀r∈rs,listed.getD r.i false=true->∀x,r.o.dst=some x->VR Y r.v (a.tmps.getD x undef)
 there: ∀x,(∀r∈rs,listed.getD r.i false=true->r.o.dst≠some x)->VR Y (S0.at x) (a.tmps.getD x undef)
def oL(listed:Array Bool)(i j:Nat)(h:i<listed.size):(listed.setIfInBounds i true).getD j false=if j=i then true else listed.getD j false:=by
 by_cases e:j=i
 ·subst e;rw[if_pos rfl];simp[Array.getD_eq_getD_getElem?,h]
 ·rw[if_neg e,getD_set_ne false (Ne.symm e)]
def jH{order:List Nat}(D:vB ops ms order){listed:Array Bool}
    (closed: ∀(i:Nat) (o:Oper) (e:Edge),ops[i]?=some o->listed.getD i false=true->e∈o.after->Region.binds .any e=true->listed.getD e.on false=true):
    ∀(i j:Nat) (o:Oper),ops[i]?=some o->(∀e∈o.after,Region.binds .any e=true->listed.getD e.on false=true)->bit (ms.getD i 0) j=true->listed.getD j false=true:=by
 intro i;induction i using Nat.strongRecOn with
 |_ i ih=>
  intro j o ho ch hb;obtain⟨e,he,kz,hor⟩:=D.mask i o j ho hb;have hl:=ch e he kz;rcases hor with rfl|⟨bi,pm⟩
  ·exact hl
  ·have hio:i<ops.size:=(Array.getElem?_eq_some_iff.1 ho).1;have hoe:ops[e.on]?=some (ops[e.on]'(by omega)):=Array.getElem?_eq_getElem _
   exact ih e.on bi j _ hoe (λe' fo bv=>closed e.on _ e' hoe hl fo bv) pm
def cM{listed:Array Bool}{i:Nat}(h:listed.getD i true=false):listed.getD i false=false/\i<listed.size:=by
 rw[Array.getD_eq_getD_getElem?]at h⊢;cases hc:listed[i]? with
 |none=>simp[hc]at h
 |some b=>simp[hc]at h⊢;exact⟨h,(Array.getElem?_eq_some_iff.1 hc).1⟩
def unl(listed:Array Bool):Nat:=(listed.toList.filter λb=> !b).length
def zL{listed:Array Bool}{i:Nat}(h:listed.getD i true=false):unl (listed.setIfInBounds i true)+1=unl listed:=by
 obtain⟨_,hi⟩:=cM h;have hv:listed[i]=false:=by rw[Array.getD_eq_getD_getElem?,Array.getElem?_eq_getElem hi]at h;simpa using h
 unfold unl;rw[Array.toList_setIfInBounds];have main: ∀(l:List Bool) (i:Nat) (hi:i<l.length),l[i]=false->((l.set i true).filter λb=> !b).length+1=(l.filter λb=> !b).length:=by
  intro l;induction l with
  |nil=>intro i hi;simp at hi
  |cons b l ih=>
   intro i hi hv;cases i with
   |zero=>simp at hv;subst hv;simp
   |succ i=>
    have:=ih i (by simpa using hi) (by simpa using hv)
    cases b<;>simp[List.filter_cons]<;>omega
 exact main listed.toList i (by simpa using hi) (by simpa using hv)
def cB{N:Type}{l:List N}{x:N}(h:x∈l): ∃l1 l2,l=l1++x::l2:=List.append_of_mem h
def xN(bj:CallOK w0 P call){order:List Nat}(D:vB ops ms order){α n0:Nat}(bz: ∀o∈ops.toList,gY P α o=true){rs:List Rec}{Cs:List St}{Es:List Nat}{S0:Slots}{H0:St}{Y0:Mp}(hn0:n0<=base)
    (C:Cert P call ops ms base S' H' rs Cs Es [] S0 H0) (kt:rs.map (·.i)=order) {Q:Exit->Act->World->Prop} (cq:iV w0 P Y0 n0 α S' H' (Q .normal)):
    (∀(listed:Array Bool) (a:Act) (w:World) (Y:Mp) (k:Nat) (s:St),aA4 w0 P ops base α n0 S0 rs Cs Es Y0 listed a w Y k s->(∀i,i<ops.size->listed.getD i false=true)->Q .normal a w)/\
    ∀(listed:Array Bool) (a:Act) (w:World) (Y:Mp) (k:Nat) (s:St),aA4 w0 P ops base α n0 S0 rs Cs Es Y0 listed a w Y k s->∀i∈Region.ready .any ops listed,
      wpOp P ops Q i (λa' w'=> ∃Y' k' s',aA4 w0 P ops base α n0 S0 rs Cs Es Y0 (listed.setIfInBounds i true) a' w' Y' k' s') a w:=by
 have hrec: ∀i,i<ops.size->∃l1 r l2,rs=l1++r::l2/\r.i=i:=by
  intro i hi;have:=D.all i hi;rw[<-kt]at this;obtain⟨r,hr,rfl⟩:=List.mem_map.1 this;obtain⟨l1,l2,e⟩:=cB hr;exact⟨l1,r,l2,e,rfl⟩
 have jg: ∀{l1 r l2},rs=l1++r::l2->r.i<ops.size/\(∀r'∈l1,r'.i≠r.i)/\(∀j,j<ops.size->bit (ms.getD r.i 0) j=true->∃r'∈l1,r'.i=j)/\(∀r' o,r'∈l1->ops[r'.i]?=some o->iP o=true->bit (ms.getD r.i 0) r'.i=true):=by
  intro l1 r l2 e;obtain⟨h1,h2,h3,h4⟩:=D.split (l1.map (·.i)) r.i (l2.map (·.i)) (by rw[<-kt,e];simp)
  refine⟨h1,λr' cb e'=>h2 (List.mem_map.2 ⟨r',cb,e'⟩),λj hj hb=>?_,λr' o cb ho he=>h4 r'.i o (List.mem_map.2 ⟨r',cb,rfl⟩) ho he⟩
  obtain⟨r',cb,e'⟩:=List.mem_map.1 (h3 j hj hb);exact⟨r',cb,e'⟩
 have lx: ∀r∈rs,ops[r.i]?=some r.o:=by
  intro r hr;obtain⟨l1,l2,e⟩:=cB hr;rw[e]at C;exact(C.at (w0:=w0) l1 r l2).1
 have jf: ∀r1∈rs,∀r2∈rs,r1.i=r2.i->r1=r2:=by
  intro r1 h1 r2 h2 e;obtain⟨l1,l2,e1⟩:=cB h1;rw[e1]at h2;rcases List.mem_append.1 h2 with h|h
  ·exact absurd e.symm ((jg e1).2.1 r2 h)
  ·rcases List.mem_cons.1 h with h|h
   ·exact h.symm
   ·obtain⟨m1,m2,e2⟩:=cB h;exact absurd e ((jg (l1:=l1++r1::m1) (r:=r2) (l2:=m2) (by rw[e1,e2];simp)).2.1 r1 (by simp))
 have fin: ∀(listed:Array Bool) (a:Act) (w:World) (Y:Mp) (k:Nat) (s:St),aA4 w0 P ops base α n0 S0 rs Cs Es Y0 listed a w Y k s->(∀i,i<ops.size->listed.getD i false=true)->Q .normal a w:=by
  intro listed a w Y k s G ch;have hk:k=Es.length:=by
   obtain⟨hl,_⟩:=C.lens;have h1:k<Cs.length:=by
    rcases Nat.lt_or_ge k Cs.length with h|h
    ·exact h
    ·have:=G.state;rw[List.getElem?_eq_none h]at this;cases this
   rcases Nat.lt_or_ge k Es.length with h|h
   ·have he:=geG h;have bi:Es[k]<ops.size:=by
     rcases Nat.lt_or_ge Es[k] ops.size with h'|h'
     ·exact h'
     ·have:listed.getD Es[k] false=false:=by rw[Array.getD_eq_getD_getElem?,Array.getElem?_eq_none (by rw[G.size];exact h')];rfl
      exact absurd ((C.at_eff he).1) (by omega)
    have:=(G.count k _ he).1 (ch _ bi);omega
   ·omega
  subst hk;have hs:s=H':=by have:=G.state;rw[C.lens.2]at this;cases this;rfl
  subst hs;refine cq a w Y ⟨G.tsize,G.defers,λx=>?_⟩ G.sim G.ext (by have:=G.next;omega)
  have hs:=Cert.slots rs [] Cs Es [] S0 H0 S' (by simpa using C) (λr l3 e=>by cases e) (λ_=>rfl) x
  by_cases hx: ∃r∈rs,r.o.dst=some x
  ·obtain⟨r,hr,hd⟩:=hx;obtain⟨l1,l2,e⟩:=cB hr;rw[hs.2 l1 r l2 e hd (λr' cb md=>by
    have bu:r.i≠r'.i:=by
     obtain⟨m1,m2,e2⟩:=cB cb;exact(jg (l1:=l1++r::m1) (r:=r') (l2:=m2) (by rw[e,e2];simp)).2.1 r (by simp)
    exact D.dsts r.i r'.i r.o r'.o x bu (lx r hr) (lx r' (by rw[e];simp[cb])) hd md)]
   exact G.here r hr (ch _ (jg e).1) x hd
  ·have lq: ∀r∈rs,r.o.dst≠some x:=λr hr hd=>hx ⟨r,hr,hd⟩
   rw[hs.1 lq];exact G.there x (λr hr _=>lq r hr)
 refine⟨fin,?_⟩;intro listed a w Y k s G i hi;obtain⟨h1,o,ho,ch⟩:=mem_ready.1 hi;obtain⟨h2,h3⟩:=cM h1;have hio:i<ops.size:=by rw[<-G.size];exact h3
 obtain⟨l1,r,l2,bg,hri⟩:=hrec i hio;subst hri;have jj:r∈rs:=by rw[bg];simp
 have hor:r.o=o:=by have:=lx r jj;rw[ho]at this;cases this;rfl
 subst hor;have lj:=bz r.o (by have:ops.toList[r.i]?=some r.o:=(by simpa using ho);exact List.mem_of_getElem? this)
 obtain⟨sp1,sp2,sp3,sp4⟩:=jg bg;have hml:=jH D G.closed r.i;have cr:=Cert.slots l1 (r::l2) Cs Es [] S0 H0 r.S (by rw[<-bg];exact C) (λr' l3 e=>by cases e;rfl) (λe=>by cases e)
 have kw: ∀x,x∈r.o.looksAt ops->VR Y (r.S.at x) (a.tmps.getD x undef):=by
  intro x hx;by_cases hex: ∃r'∈rs,r'.o.dst=some x
  ·obtain⟨r',cb,md⟩:=hex;have only: ∀r''∈rs,r''.o.dst=some x->r''=r':=by
    intro r'' db gw;by_cases e:r''.i=r'.i
    ·exact jf _ db _ cb e
    ·exact(D.dsts _ _ _ _ x e (lx _ db) (lx _ cb) gw md).elim
   by_cases e:r'.i=r.i
   ·have:r'=r:=jf _ cb _ jj e;subst this;rw[(cr x).1 (λr'' db gw=>by
     have:=only r'' (by rw[bg];simp[db]) gw
     subst this;exact sp2 r'' db rfl)]
    exact G.there x (λr'' db hl gw=>by
     have:=only r'' db gw;subst this;rw[h2]at hl;cases hl)
   ·rcases D.haz r.i r'.i r.o r'.o x (Ne.symm e) ho (lx _ cb) md hx with hb|hb
    ·
     have hlst:=hml r'.i r.o ho ch hb;have bi:r'.i<ops.size:=(Array.getElem?_eq_some_iff.1 (lx _ cb)).1;obtain⟨r'',db,e''⟩:=sp3 r'.i bi hb;have:r''=r':=jf _ (by rw[bg];simp[db]) _ cb e''
     subst this;obtain⟨p1,p2,ep⟩:=cB db;rw[(cr x).2 p1 r'' p2 ep md (λq hq hdq=>by
      have hqr:q∈rs:=by rw[bg,ep];simp[hq]
      have:=only q hqr hdq;subst this;obtain⟨m1,m2,e2⟩:=cB hq;exact(jg (l1:=p1++q::m1) (r:=q) (l2:=m2++r::l2) (by rw[bg,ep,e2];simp)).2.1 q (by simp) rfl)]
     exact G.here r'' cb hlst x md
    ·
     have kf:listed.getD r'.i false=false:=by
      cases hc:listed.getD r'.i false with
      |false=>rfl
      |true=>
       have:=jH D G.closed r'.i r.i r'.o (lx _ cb) (λe he kz=>G.closed r'.i r'.o e (lx _ cb) hc he kz) hb
       rw[h2]at this;cases this
     have nx:r'∉l1:=by
      intro hm;obtain⟨p1,p2,ep⟩:=cB hm;obtain⟨q,hq,eq⟩:=(jg (l1:=p1) (r:=r') (l2:=p2++r::l2) (by rw[bg,ep];simp)).2.2.1 r.i hio hb
      exact sp2 q (by rw[ep];simp[hq]) eq
     rw[(cr x).1 (λr'' db gw=>by
      have:=only r'' (by rw[bg];simp[db]) gw
      subst this;exact nx db)]
     exact G.there x (λr'' db hl gw=>by
      have:=only r'' db gw;subst this;rw[kf]at hl;cases hl)
  ·have hex': ∀r'∈rs,r'.o.dst≠some x:=λr' cb md=>hex ⟨r',cb,md⟩
   rw[(cr x).1 (λr' cb=>hex' r' (by rw[bg];simp[cb]))]
   exact G.there x (λr' cb _=>hex' r' cb)
 have hρ: ∀x∈r.o.op.operands,VR Y (ev r.S x) (a.eval x):=by
  intro x hx;have qv:=wY lj x hx;cases x with
  |tmp t=>
   refine kw t ?_;unfold Oper.looksAt;exact List.mem_append.2 (.inl (List.mem_filterMap.2 ⟨.tmp t,Array.mem_toList_iff.2 hx,rfl⟩))
  |const v=>exact .same1 qv
  |global g=>
   simp only[aM,iN,djE]at qv;obtain⟨p,hp,hb,fv⟩:=G.sim.glob g qv;have:=VR.ptr (Y:=Y) g 0 p hp;rw[hb,fv]at this;exact this
  |func f=>exact .fn _ _ _ _ _ rfl (λi x u h=>by simp at h) rfl (λi x u h=>by simp at h)
 have hwant:wanted ops r.S r.o=Region.wanted r.o (yielded ops a.tmps):=by
  refine wD (Y:=Y) ops r.o (λj want d hg hd=>kw d ?_)
  unfold Oper.looksAt;rw[hg];exact List.mem_append.2 (.inr (by simp[hd]))
 have dz: ∀j,(listed.setIfInBounds r.i true).getD j false=if j=r.i then true else listed.getD j false:=λj=>oL listed r.i j h3
 have step: ∀(a':Act) (w':World) (Y':Mp) (k':Nat) (s':St) (v':Value),a'=a.put r.o.dst v'->VR Y' r.v v'->Cs[k']?=some s'->Sim w0 P Y' s' w'->base+ops.size<=s'.next->
      (∀k p,Y k=some p->Y' k=some p)->(∀j,j<base+ops.size->j≠base+r.i->Y' j=Y j)->
      (∀(q e:Nat),Es[q]?=some e->((e=r.i∨listed.getD e false=true)↔q<k'))->aA4 w0 P ops base α n0 S0 rs Cs Es Y0 (listed.setIfInBounds r.i true) a' w' Y' k' s':=by
  intro a' w' Y' k' s' v' cz dr bw hsim ke cf ci hcnt;have hdst:=pM lj;refine⟨by simp[G.size],?_,?_,bw,hsim,ke,?_,?_,?_,?_,?_,?_⟩
  ·intro j oj e hoj hl he kz;rw[dz]at hl⊢;split
   ·rfl
   ·split at hl
    ·rename_i ej;subst ej;rw[ho]at hoj;cases hoj;exact ch e he kz
    ·exact G.closed j oj e hoj hl he kz
  ·intro q e hq;rw[dz];rw[<-hcnt q e hq];by_cases he:e=r.i
   ·simp[he]
   ·simp[he]
  ·intro j hj hl;rw[dz]at hl;split at hl
   ·cases hl
   ·rename_i bu;rw[ci (base+j) (by omega) (by omega)]
    exact G.none j hj hl
  ·exact⟨λk p hk=>cf k p (G.ext.1 k p hk),λk hk=>(ci k (by omega) (by omega)).trans (G.ext.2 k hk)⟩
  ·subst cz;have:=G.tsize;cases r.o.dst<;>simp[Act.put,this]
  ·subst cz;cases r.o.dst<;>simp[Act.put,G.defers]
  ·intro q hq hl x hd;subst cz;rw[aAB _ _ _ _ (λt e=>Nat.lt_of_lt_of_le (hdst t e) G.tsize)]
   rw[dz]at hl;by_cases e:q.i=r.i
   ·have:q=r:=jf _ hq _ jj e;subst this;rw[if_pos hd];exact dr
   ·rw[if_neg e]at hl;have gb:r.o.dst≠some x:=λmd=>D.dsts q.i r.i q.o r.o x e (lx _ hq) ho hd md
    rw[if_neg gb];exact(G.here q hq hl x hd).mono' cf
  ·intro x hx;subst cz;rw[aAB _ _ _ _ (λt e=>Nat.lt_of_lt_of_le (hdst t e) G.tsize)]
   have gb:r.o.dst≠some x:=hx r jj (by rw[dz,if_pos rfl])
   rw[if_neg gb];refine(G.there x λq hq hl=>hx q hq ?_).mono' cf
   rw[dz];split
   ·rfl
   ·exact hl
 obtain⟨_,je,qh,hje,hR⟩:=Cert.at (w0:=w0) l1 r l2 Cs Es [] S0 H0 (by rw[<-bg];exact C)
 have hjek: ∀q,q<je->∀e,Es[q]?=some e->q<k:=by
  intro q hq e he;obtain⟨r',cb,e',hef,fv⟩:=hje q e hq he;have hb:=sp4 r' r'.o cb fv hef;have:=hml r'.i r.o ho ch hb;rw[e']at this;exact(G.count q e he).1 this
 have hkl:k<=Es.length:=by
  have h1:k<Cs.length:=by
   rcases Nat.lt_or_ge k Cs.length with h|h
   ·exact h
   ·have:=G.state;rw[List.getElem?_eq_none h]at this;cases this
  have:=C.lens.1;omega
 have hjk:je<=k:=by
  rcases Nat.lt_or_ge k je with h|h
  ·have bi:k<Es.length:=by omega
   have:=hjek k h _ (geG bi);omega
  ·exact h
 have kn:(wanted ops r.S r.o=false∨aW r.o≠ .eff)->∀(q e:Nat),Es[q]?=some e->((e=r.i∨listed.getD e false=true)↔q<k):=by
  intro bu q e he;have:e≠r.i:=by
   intro ee;obtain⟨_,r',h1',h2',h3',h4',h5'⟩:=C.at_eff he;have:r'=r:=jf _ h1' _ jj (by rw[h2',ee])
   subst this;rcases bu with h|h
   ·rw[h]at h5';cases h5'
   ·exact h h4'
  simp only[this,false_or];exact G.count q e he
 have qg: ∀(q e:Nat),je<=q->q<k->Es[q]?=some e->bit (ms.getD e 0) r.i=false:=by
  intro q e _ hqk he;cases hb:bit (ms.getD e 0) r.i with
  |false=>rfl
  |true=>
   obtain⟨_,r',h1',h2',h3',_⟩:=C.at_eff he;have hle:=(G.count q e he).2 hqk;have:=jH D G.closed e r.i r'.o h3' (λe' fo kz=>G.closed e r'.o e' h3' hle fo kz) hb
   rw[h2]at this;cases this
 have ca:=G.none r.i hio h2;have hltn:base+r.i<s.next:=by have:=G.next;omega
 unfold wpOp;rw[ho];simp only;rw[<-hwant];rcases hR with⟨hw,hv⟩|⟨hw,hk,hv⟩|⟨hw,hk,hv⟩|⟨hw,hk,ob,hv,dw⟩|⟨hw,hk,hEs,s0,H1,s',hCs,hv,hCs',hnx',htr⟩
 ·rw[hw];simp only[Bool.false_eq_true,if_false];exact⟨Y,k,s,step _ w Y k s undef rfl (by rw[hv];exact .undef) G.state G.sim G.next (λ_ _ h=>h) (λ_ _ _=>rfl) (kn (.inl hw))⟩
 ·rw[hw];simp only[if_true];refine .inl (Oper.wp_mono (λa' w' hL=>?_) (aKi (base+r.i) G.sim hρ hv (Q:=Q)))
  obtain⟨Y',v',cz,dr,hZ,cf,ci,ke⟩:=hL;exact⟨Y',k,s,step a' w' Y' k s v' cz dr G.state hZ G.next cf (λj hj bu=>ci j (by have:=G.next;omega) bu) (kn (.inr (by rw[hk];simp)))⟩
 ·rw[hw];simp only[if_true];refine .inl (Oper.wp_mono (λa' w' hL=>?_) (aJO (base+r.i) G.sim hρ (hv k s hjk G.state qg) (Q:=Q)))
  obtain⟨Y',v',cz,dr,hZ,cf,ci,ke⟩:=hL;exact⟨Y',k,s,step a' w' Y' k s v' cz dr G.state hZ G.next cf (λj hj bu=>ci j (by have:=G.next;omega) bu) (kn (.inr (by rw[hk];simp)))⟩
 ·rw[hw];simp only[if_true];refine .inl (Oper.wp_mono (λa' w' hL=>?_) (aGF G.sim hρ ca hltn hv (dw k s hjk G.state qg) (Q:=Q)))
  obtain⟨Y',v',cz,dr,hZ,cf,ci,ke⟩:=hL;exact⟨Y',k,s,step a' w' Y' k s v' cz dr G.state hZ G.next cf (λj hj bu=>ci j (by have:=G.next;omega) bu) (kn (.inr (by rw[hk];simp)))⟩
 ·rw[hw];simp only[if_true];have hje':je=k:=by
   rcases Nat.lt_or_ge je k with h|h
   ·have:=(G.count je r.i hEs).2 h;rw[h2]at this;cases this
   ·omega
  subst hje';have hs0:s0=s:=by have:=G.state;rw[hCs]at this;cases this;rfl
  subst hs0;refine .inl (Oper.wp_mono (λa' w' hL=>?_) (eff_wp bj G.sim hρ ca hltn hv (Q:=Q)))
  obtain⟨Y',v',cz,dr,hZ,cf,ci,ke⟩:=hL;have qz: ∀r'∈l2,Y' (base+r'.i)=none:=by
   intro r' cb;obtain⟨m1,m2,e2⟩:=cB cb;obtain⟨q1,q2,q3,q4⟩:=jg (l1:=l1++r::m1) (r:=r') (l2:=m2) (by rw[bg,e2];simp)
   have hb:=q4 r r.o (by simp) ho (by simp[iP,hk])
   have bu:r.i≠r'.i:=q2 r (by simp)
   have kf:listed.getD r'.i false=false:=by
    cases hc:listed.getD r'.i false with
    |false=>rfl
    |true=>
     have hr'm:r'∈rs:=by rw[bg];simp[cb]
     have:=jH D G.closed r'.i r.i r'.o (lx _ hr'm) (λe he kz=>G.closed r'.i r'.o e (lx _ hr'm) hc he kz) hb
     rw[h2]at this;cases this
   rw[ci (base+r'.i) (by have:=G.next;omega) (by omega)]
   exact G.none r'.i q1 kf
  have gb:Es.Nodup:=C.effs_nodup (by rw[kt];exact vK _ (λl1 i l2 e=>(D.split l1 i l2 e).2.1))
  refine⟨Y',je+1,s',step a' w' Y' (je+1) s' v' cz dr hCs' (htr Y' w' qz hZ) (by have:=G.next;omega) cf (λj hj bu=>ci j (by have:=G.next;omega) bu) (λq e he=>?_)⟩
  constructor
  ·rintro(h|h)
   ·subst h;have hq:q<Es.length:=(List.getElem?_eq_some_iff.1 he).1;have hj:je<Es.length:=(List.getElem?_eq_some_iff.1 hEs).1;have e1:Es[q]=r.i:=(List.getElem?_eq_some_iff.1 he).2;have e2:Es[je]=r.i:=(List.getElem?_eq_some_iff.1 hEs).2;rcases Nat.lt_or_ge q je with h'|h'
    ·omega
    ·rcases Nat.eq_or_lt_of_le h' with h'|h'
     ·omega
     ·exact absurd (e2.trans e1.symm) (List.pairwise_iff_getElem.1 gb je q hj hq h')
   ·have:=(G.count q e he).1 h;omega
  ·intro h;rcases Nat.lt_or_ge q je with h'|h'
   ·exact .inr ((G.count q e he).2 h')
   ·have:q=je:=by omega
    subst this;rw[hEs]at he;cases he;exact .inl rfl
def aDG(bj:CallOK w0 P call){order:List Nat}(D:vB ops ms order){α n0:Nat}(bz: ∀o∈ops.toList,gY P α o=true){rs:List Rec}{Cs:List St}{Es:List Nat}{S0:Slots}{H0:St}{Y0:Mp}(hn0:n0<=base)
    (C:Cert P call ops ms base S' H' rs Cs Es [] S0 H0) (kt:rs.map (·.i)=order) {Q:Exit->Act->World->Prop} (cq:iV w0 P Y0 n0 α S' H' (Q .normal)):
    ∀(fuel:Nat) (listed:Array Bool) (a:Act) (w:World) (Y:Mp) (k:Nat) (s:St),unl listed<=fuel->aA4 w0 P ops base α n0 S0 rs Cs Es Y0 listed a w Y k s->wpAny P .any ops Q fuel listed a w:=by
 obtain⟨fin,step⟩:=xN bj D bz hn0 C kt cq;intro fuel;induction fuel with
 |zero=>
  intro listed a w Y k s hu G;have ch: ∀i,i<ops.size->listed.getD i false=true:=by
   intro i hi;cases hb:listed.getD i false with
   |true=>rfl
   |false=>
    have h1:listed.getD i true=false:=by
     rw[Array.getD_eq_getD_getElem?,Array.getElem?_eq_getElem (by rw[G.size];exact hi)]at hb⊢;simpa using hb
    have:=zL h1;omega
  refine⟨?_,fin listed a w Y k s G ch⟩;cases hr:Region.ready .any ops listed with
  |nil=>rfl
  |cons i l=>
   have hm:i∈Region.ready .any ops listed:=by rw[hr];simp
   obtain⟨h1,o,ho,_⟩:=mem_ready.1 hm;obtain⟨h2,h3⟩:=cM h1;rw[ch i (by rw[<-G.size];exact h3)]at h2;cases h2
 |succ fuel ih=>
  intro listed a w Y k s hu G;refine⟨λhr=>?_,λi hi=>?_⟩
  ·
   refine fin listed a w Y k s G ?_;obtain⟨rk,hrk⟩:=D.edge;have main: ∀(m i:Nat),rk i=m->i<ops.size->listed.getD i false=true:=by
    intro m;induction m using Nat.strongRecOn with
    |_ m ihi=>
     intro i hm hi;cases hb:listed.getD i false with
     |true=>rfl
     |false=>
      exfalso;have h1:listed.getD i true=false:=by
       rw[Array.getD_eq_getD_getElem?,Array.getElem?_eq_getElem (by rw[G.size];exact hi)]at hb⊢;simpa using hb
      have ho:ops[i]?=some ops[i]:=Array.getElem?_eq_getElem hi;have:i∈Region.ready .any ops listed:=mem_ready.2 ⟨h1,ops[i],ho,λe he kz=>by
       obtain⟨g1,g2⟩:=hrk i _ e ho he kz;exact ihi (rk e.on) (by omega) e.on rfl g2⟩
      rw[hr]at this;cases this
   exact λi hi=>main _ i rfl hi
  ·have jt:unl (listed.setIfInBounds i true)<=fuel:=by have:=zL (mem_ready.1 hi).1;omega
   exact wpOp_mono (λa' w' ⟨Y',k',s',G'⟩=>ih _ a' w' Y' k' s' jt G') (step listed a w Y k s G i hi)
end
end Go.AI
