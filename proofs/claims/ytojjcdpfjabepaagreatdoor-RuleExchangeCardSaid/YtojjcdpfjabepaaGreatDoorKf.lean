import Derived.Test.YtojjcdpfjabepaaGreatDoorKe
set_option linter.unusedVariables false
set_option linter.unusedSimpArgs false
set_option linter.constructorNameAsVariable false
namespace Go.AI
section
variable{w0:W0}{P:Program}{μ:Mp}{σ:St}{w:World}
theorem Sim.untip(S:Sim w0 P μ σ w){id:Nat}{cs:List Value}{m:Mta}(hg:σ.get id=some (.cells cs m)):Sim w0 P μ (σ.put id (.cells cs {m with tip:=false})) w:=by
 have hget: ∀{k ds n},(σ.put id (.cells cs {m with tip:=false})).get k=some (.cells ds n)→∃n',σ.get k=some (.cells ds n')∧n.wr=n'.wr∧n.z=n'.z∧n.grp=n'.grp∧(n.tip=true→n'.tip=true∧n.lim=n'.lim):=by
  intro k ds n h;rw[St.get_put]at h;split at h
  ·rename_i e;subst e;cases h;exact⟨m,hg,rfl,rfl,rfl,fun h=>by cases h⟩
  ·exact⟨n,h,rfl,rfl,rfl,fun h=>⟨h,rfl⟩⟩
 have hmap: ∀{k es},(σ.put id (.cells cs {m with tip:=false})).get k=some (.map es)→σ.get k=some (.map es):=by
  intro k es h;rw[St.get_put]at h;split at h
  ·cases h
  ·exact h
 have hgood: ∀{n n':Mta},n.grp=n'.grp→σ.good n=true→σ.good n'=true:=by
  intro n n' e h;rw[St.good_iff]at h⊢;intro g v e';exact h g v (e.trans e')
 have hsame: ∀{a a' b b':Mta},a.grp=a'.grp→b.grp=b'.grp→eN a' b'→eN a b:=by
  rintro a a' b b' e1 e2 ⟨g,v,v',h1,h2⟩;exact⟨g,v,v',e1.trans h1,e2.trans h2⟩
 refine⟨S.kept,S.dom,S.glob,?_,?_,?_,?_,?_,?_,?_⟩
 ·intro k q ds n hq h hgd;obtain⟨n',h',e1,e2,e3,e4⟩:=hget h;obtain⟨⟨D,t,fr,hD,hds,htip⟩,h2,h3,h4,h5⟩:=S.row k q ds n' hq h' (hgood e3 hgd);exact⟨⟨D,t,fr,hD,hds,fun ht=>htip (e4 ht).1⟩,fun hw=>h2 (e1▸hw),fun ht=>h3 (e4 ht).1,by rw[h4,e2],fun hw=>h5 (e1▸hw)⟩
 ·intro k q es hq h;exact S.map k q es hq (hmap h)
 ·intro i j a b as bs n1 n2 hij ha hb h1 h2 g1 g2 hw hs;obtain⟨m1,f1,a1,a2,a3,a4⟩:=hget h1;obtain⟨m2,f2,b1,b2,b3,b4⟩:=hget h2;exact S.off i j a b as bs m1 m2 hij ha hb f1 f2 (hgood a3 g1) (hgood b3 g2) (a1▸hw) (fun h=>hs (hsame a3 b3 h))
 ·intro i j a b as bs n1 n2 hij ha hb h1 h2 g1 g2 hw;obtain⟨m1,f1,a1,a2,a3,a4⟩:=hget h1;obtain⟨m2,f2,b1,b2,b3,b4⟩:=hget h2;have:=S.tip i j a b as bs m1 m2 hij ha hb f1 f2 (hgood a3 g1) (hgood b3 g2) (a4 hw).1;exact⟨this.1,fun h=>this.2 (b4 h).1⟩
 ·intro i j a b es fs hij ha hb h1 h2;exact S.maps i j a b es fs hij ha hb (hmap h1) (hmap h2)
 ·intro k ds n g v h e;obtain⟨n',h',_,_,e3,_⟩:=hget h;exact S.vers k ds n' g v h' (e3▸e)
 ·intro i j a b as bs n1 n2 hij ha hb h1 h2 g1 g2 hw;obtain⟨m1,f1,a1,a2,a3,a4⟩:=hget h1;obtain⟨m2,f2,b1,b2,b3,b4⟩:=hget h2;rw[(a4 hw).2];exact S.lim i j a b as bs m1 m2 hij ha hb f1 f2 (hgood a3 g1) (hgood b3 g2) (a4 hw).1
theorem Sim.extend(S:Sim w0 P μ σ w){id id':Nat}{p:Place}{cs xs us:List Value}{m:Mta}{C:Array Value}{t:TypeId}{off:Nat}(hp:μ id=some p)(hg:σ.get id=some (.cells cs m))(hgood:σ.good m=true)
    (htip:m.tip=true) (hwr:m.wr=true) (hgrp:m.grp.isSome=true) (hC:w.heap[p.b]?=some (.cells C t (0,0))) (hoff:off≤cs.length) (hxs:VRL μ xs us) (hfit:p.o+cs.length+xs.length≤p.e)
    (hid:μ id'=none) (hlt:id'<σ.next):
    Sim w0 P (upd μ id' ⟨p.b,p.o+off,p.e,p.z⟩) ((σ.put id (.cells cs {m with tip:=false})).put id' (.cells (cs.drop off++xs) {m with lim:=(cs.drop off).length}))
      (w.setRow p.b (C.toList.take (p.o+cs.length)++us++C.toList.drop (p.o+cs.length+us.length)).toArray):=by
 have hne:id'≠id:=by intro e;subst e;rw[hid]at hp;cases hp
 have hext:=fZ (⟨p.b,p.o+off,p.e,p.z⟩:Place) hid;have R:=S.row id p cs m hp hg hgood;have hCe:p.e≤C.size:=by
  obtain⟨D,u,fr,hD,_,ht⟩:=R.row;rw[hC]at hD;cases hD;exact ht htip
 have hin:p.o+cs.length+us.length≤C.toList.length:=by have:=hxs.1;simp;omega
 generalize hC':(C.toList.take (p.o+cs.length)++us++C.toList.drop (p.o+cs.length+us.length)).toArray=C';have hget: ∀k,C'[k]?=if p.o+cs.length≤k∧k<p.o+cs.length+us.length then us[k-(p.o+cs.length)]? else C[k]?:=by
  intro k;rw[←hC'];have:=aGp C.toList us (p.o+cs.length) k hin;simpa using this
 have hsz:C'.size=C.size:=by rw[←hC'];have:=sS C.toList us (p.o+cs.length) hin;simpa using this
 have hul:=hxs.1;have hnl:(cs.drop off++xs).length=cs.length-off+xs.length:=by simp
 have hcase: ∀{k q ds n},upd μ id' ⟨p.b,p.o+off,p.e,p.z⟩ k=some q→((σ.put id (.cells cs {m with tip:=false})).put id' (.cells (cs.drop off++xs) {m with lim:=(cs.drop off).length})).get k=some (.cells ds n)→
      (k=id'∧q=⟨p.b,p.o+off,p.e,p.z⟩∧ds=cs.drop off++xs∧n={m with lim:=(cs.drop off).length})∨(k=id∧q=p∧ds=cs∧n={m with tip:=false})∨(k≠id'∧k≠id∧μ k=some q∧σ.get k=some (.cells ds n)):=by
  intro k q ds n hq h;by_cases e:k=id'
  ·subst e;rw[fC]at hq;cases hq;rw[St.get_put,if_pos rfl]at h;cases h;exact .inl ⟨rfl,rfl,rfl,rfl⟩
  ·rw[eU e]at hq;rw[St.get_put,if_neg e,St.get_put]at h;by_cases e2:k=id
   ·subst e2;rw[hp]at hq;cases hq;rw[if_pos rfl]at h;cases h;exact .inr (.inl ⟨rfl,rfl,rfl,rfl⟩)
   ·rw[if_neg e2]at h;exact .inr (.inr ⟨e,e2,hq,h⟩)
 have hcaseM: ∀{k q es},upd μ id' ⟨p.b,p.o+off,p.e,p.z⟩ k=some q→((σ.put id (.cells cs {m with tip:=false})).put id' (.cells (cs.drop off++xs) {m with lim:=(cs.drop off).length})).get k=some (.map es)→μ k=some q∧σ.get k=some (.map es):=by
  intro k q es hq h;rw[St.get_put]at h;split at h
  ·cases h
  ·rename_i e;rw[eU e]at hq;rw[St.get_put]at h;split at h
   ·cases h
   ·exact⟨hq,h⟩
 have hsg:eN m {m with tip:=false}:=by
  obtain⟨⟨g,v⟩,e⟩:=Option.isSome_iff_exists.1 hgrp;exact⟨g,v,v,e,e⟩
 have hsg':eN {m with tip:=false} m:=by
  obtain⟨⟨g,v⟩,e⟩:=Option.isSome_iff_exists.1 hgrp;exact⟨g,v,v,e,e⟩
 refine⟨(S.kept.upd (id:=id') (q:=⟨p.b,p.o+off,p.e,p.z⟩) (fun k o hk=>(S.kept.oth k o hk).2 id p hp) (S.kept.bnd id p hp)).setRow (R.wr hwr) (fun k o hk=>(S.kept.oth k o hk).2 id p hp) C',?_,?_,?_,?_,?_,?_,?_,?_,?_⟩
 ·intro k hk;have hk':σ.next≤k:=hk
  rw[eU (by omega)];exact S.dom k hk'
 ·intro g hg';obtain⟨q,hq,h1,h2⟩:=S.glob g hg';exact⟨q,hext g q hq,h1,h2⟩
 ·intro k q ds n hq h hgd;rcases hcase hq h with⟨rfl,rfl,rfl,rfl⟩|⟨rfl,rfl,rfl,rfl⟩|⟨h1,h2,hq',h'⟩
  ·obtain⟨⟨D,u,fr,hD,hds,_⟩,h2,h3,h4,h5⟩:=R;rw[hC]at hD;cases hD;refine⟨⟨C',_,_,setRow_heap w p.b C C' _ _ hC,fun i v hi=>?_,fun _=>by rw[hsz];exact hCe⟩,h2,fun _=>by rw[hnl];show p.o+off+_≤p.e;omega,h4,fun _ C1 t1 fr1 e1=>by have e2:=(setRow_heap w p.b C C' _ _ hC).symm.trans e1;cases e2;rfl⟩
   show∃u,C'[p.o+off+i]?=some u∧_;rw[hget];rw[List.getElem?_append]at hi;split at hi
   ·rename_i hl;rw[List.length_drop]at hl;rw[if_neg (by omega)]
    rw[List.getElem?_drop]at hi;obtain⟨u,hu,hr⟩:=hds _ _ hi;exact⟨u,by rw[show p.o+off+i=p.o+(off+i) by omega];exact hu,hr.mono' hext⟩
   ·rename_i hl;rw[List.length_drop]at hl hi;have hix:i-(cs.length-off)<xs.length:=by
     rcases Nat.lt_or_ge (i-(cs.length-off)) xs.length with h'|h'
     ·exact h'
     ·rw[List.getElem?_eq_none h']at hi;cases hi
    rw[if_pos (by omega)]
    obtain⟨u,hu,hr⟩:=hxs.get hi;exact⟨u,by rw[show p.o+off+i-(p.o+cs.length)=i-(cs.length-off) by omega];exact hu,hr.mono' hext⟩
  ·obtain⟨⟨D,u,fr,hD,hds,_⟩,h2,h3,h4,h5⟩:=R;rw[hC]at hD;cases hD;refine⟨⟨C',_,_,setRow_heap w q.b C C' _ _ hC,fun i v hi=>?_,fun ht=>by cases ht⟩,h2,(fun ht=>by cases ht),h4,fun _ C1 t1 fr1 e1=>by have e2:=(setRow_heap w q.b C C' _ _ hC).symm.trans e1;cases e2;rfl⟩
   have hil:i<ds.length:=by
    rcases Nat.lt_or_ge i ds.length with h'|h'
    ·exact h'
    ·rw[List.getElem?_eq_none h']at hi;cases hi
   rw[hget,if_neg (by omega)]
   obtain⟨u,hu,hr⟩:=hds i v hi;exact⟨u,hu,hr.mono' hext⟩
  ·have Rk:=(S.row k q ds n hq' h' hgd).other hC hsz (fun hb i hi=>by
    rw[hget,if_neg];intro h3;exact(S.tip id k p q cs ds m n (Ne.symm h2) hp hq' hg h' hgood hgd htip).1 hb.symm (q.o+i) (by omega) (by omega) (by omega) (by omega))
   obtain⟨⟨D,u,fr,hD,hds,ht⟩,g2,g3,g4,g5⟩:=Rk;exact⟨⟨D,u,fr,hD,fun i v hi=>let ⟨u,hu,hr⟩:=hds i v hi;⟨u,hu,hr.mono' hext⟩,ht⟩,g2,g3,g4,g5⟩
 ·intro k q es hq h;obtain⟨hq',h'⟩:=hcaseM hq h;obtain⟨⟨ES,c,h1,h2,h3⟩,h4⟩:=(S.map k q es hq' h').other hC (C':=C');exact⟨⟨ES,c,h1,h2.mono' hext,h3.mono' hext⟩,h4⟩
 ·intro i j a b as bs n1 n2 hij ha hb h1 h2 g1 g2 hw hs;rcases hcase ha h1 with⟨rfl,rfl,rfl,rfl⟩|⟨rfl,rfl,rfl,rfl⟩|⟨i1,i2,ha',h1'⟩
  ·rcases hcase hb h2 with⟨rfl,_⟩|⟨rfl,rfl,rfl,rfl⟩|⟨j1,j2,hb',h2'⟩
   ·exact absurd rfl hij
   ·exact absurd hsg hs
   ·intro hbb x x1 x2 x3 x4;rw[hnl]at x2;simp only at x1 x2 hbb;by_cases hx:x<p.o+cs.length
    ·exact S.off id j p b cs bs m n2 (Ne.symm j2) hp hb' hg h2' hgood g2 hwr hs hbb x (by omega) hx x3 x4
    ·exact(S.tip id j p b cs bs m n2 (Ne.symm j2) hp hb' hg h2' hgood g2 htip).1 hbb x (by omega) (by omega) x3 x4
  ·rcases hcase hb h2 with⟨rfl,rfl,rfl,rfl⟩|⟨rfl,_⟩|⟨j1,j2,hb',h2'⟩
   ·exact absurd hsg' hs
   ·exact absurd rfl hij
   ·exact S.off i j _ b _ bs m n2 hij hp hb' hg h2' hgood g2 hwr (fun h=>hs (by obtain⟨g,v,v',e1,e2⟩:=h;exact⟨g,v,v',e1,e2⟩))
  ·rcases hcase hb h2 with⟨rfl,rfl,rfl,rfl⟩|⟨rfl,rfl,rfl,rfl⟩|⟨j1,j2,hb',h2'⟩
   ·intro hbb x x1 x2 x3 x4;rw[hnl]at x4;simp only at x3 x4 hbb;by_cases hx:x<p.o+cs.length
    ·exact S.off i id a p as cs n1 m i2 ha' hp h1' hg g1 hgood hw hs hbb x x1 x2 (by omega) hx
    ·exact(S.tip id i p a cs as m n1 (Ne.symm i2) hp ha' hg h1' hgood g1 htip).1 hbb.symm x (by omega) (by omega) x1 x2
   ·exact S.off i j a b as bs n1 m hij ha' hp h1' hg g1 hgood hw (fun h=>hs (by obtain⟨g,v,v',e1,e2⟩:=h;exact⟨g,v,v',e1,e2⟩))
   ·exact S.off i j a b as bs n1 n2 hij ha' hb' h1' h2' g1 g2 hw hs
 ·intro i j a b as bs n1 n2 hij ha hb h1 h2 g1 g2 hw;rcases hcase ha h1 with⟨rfl,rfl,rfl,rfl⟩|⟨rfl,rfl,rfl,rfl⟩|⟨i1,i2,ha',h1'⟩
  ·rcases hcase hb h2 with⟨rfl,_⟩|⟨rfl,rfl,rfl,rfl⟩|⟨j1,j2,hb',h2'⟩
   ·exact absurd rfl hij
   ·refine⟨fun hbb x x1 x2 x3 x4=>?_,(fun h=>by cases h)⟩
    rw[hnl]at x1;simp only at x1;omega
   ·have T:=S.tip id j p b cs bs m n2 (Ne.symm j2) hp hb' hg h2' hgood g2 htip;refine⟨fun hbb x x1 x2 x3 x4=>?_,fun ht hbb x x1 x2 x3 x4=>?_⟩
    ·rw[hnl]at x1;simp only at x1 x2 hbb;exact T.1 hbb x (by omega) x2 x3 x4
    ·rw[hnl]at x1;simp only at x1 x2 hbb;exact T.2 ht hbb x (by omega) x2 x3 x4
  ·cases hw
  ·rcases hcase hb h2 with⟨rfl,rfl,rfl,rfl⟩|⟨rfl,rfl,rfl,rfl⟩|⟨j1,j2,hb',h2'⟩
   ·have T:=S.tip i id a p as cs n1 m i2 ha' hp h1' hg g1 hgood hw;refine⟨fun hbb x x1 x2 x3 x4=>?_,fun ht hbb x x1 x2 x3 x4=>?_⟩
    ·rw[hnl]at x4;simp only at x3 x4 hbb;by_cases hx:x<p.o+cs.length
     ·exact T.1 hbb x x1 x2 (by omega) hx
     ·exact T.2 htip hbb x x1 x2 (by omega) (by omega)
    ·rw[hnl]at x3;simp only at x3 x4 hbb;exact T.2 htip hbb x x1 x2 (by omega) x4
   ·have T:=S.tip i j a b as bs n1 m hij ha' hp h1' hg g1 hgood hw;exact⟨T.1,(fun h=>by cases h)⟩
   ·exact S.tip i j a b as bs n1 n2 hij ha' hb' h1' h2' g1 g2 hw
 ·intro i j a b es fs hij ha hb h1 h2;obtain⟨a1,a2⟩:=hcaseM ha h1;obtain⟨b1,b2⟩:=hcaseM hb h2;exact S.maps i j a b es fs hij a1 b1 a2 b2
 ·intro k ds n g v h e;rw[St.get_put]at h;split at h
  ·cases h;exact S.vers id _ _ g v hg e
  ·rw[St.get_put]at h;split at h
   ·cases h;exact S.vers id _ _ g v hg e
   ·exact S.vers k ds n g v h e
 ·intro i j a b as bs n1 n2 hij ha hb h1 h2 g1 g2 hw;rcases hcase ha h1 with⟨rfl,rfl,rfl,rfl⟩|⟨rfl,rfl,rfl,rfl⟩|⟨i1,i2,ha',h1'⟩
  ·rcases hcase hb h2 with⟨rfl,_⟩|⟨rfl,rfl,rfl,rfl⟩|⟨j1,j2,hb',h2'⟩
   ·exact absurd rfl hij
   ·intro hbb x x1 x2 x3 x4;simp only[List.length_drop]at x1;omega
   ·intro hbb x x1 x2 x3 x4;rw[hnl]at x2;simp only[List.length_drop]at x1 x2 hbb;exact(S.tip id j p b cs bs m n2 (Ne.symm j2) hp hb' hg h2' hgood g2 htip).1 hbb x (by omega) (by omega) x3 x4
  ·cases hw
  ·rcases hcase hb h2 with⟨rfl,rfl,rfl,rfl⟩|⟨rfl,rfl,rfl,rfl⟩|⟨j1,j2,hb',h2'⟩
   ·intro hbb x x1 x2 x3 x4;rw[hnl]at x4;simp only at x3 x4 hbb;by_cases hx:x<p.o+cs.length
    ·exact S.lim i id a p as cs n1 m i2 ha' hp h1' hg g1 hgood hw hbb x x1 x2 (by omega) hx
    ·exact(S.tip id i p a cs as m n1 (Ne.symm i2) hp ha' hg h1' hgood g1 htip).1 hbb.symm x (by omega) (by omega) (by omega) x2
   ·exact S.lim i j a b as bs n1 m hij ha' hp h1' hg g1 hgood hw
   ·exact S.lim i j a b as bs n1 n2 hij ha' hb' h1' h2' g1 g2 hw
theorem aFB{z:Nat}{x x':Value}{n:Nat}{xs:List Value}{t1:TypeId}{u:TypeDesc}(S:Sim w0 P μ σ w)(r:VR μ x x')(hu:P.underlying t1=some u)
    (hk:fits u x=true) (hone:xs.all one=true) (h:lN σ z x=some (n,xs)):
    ∃news,Src P z t1 x' n news w∧VRL μ xs news:=by
 unfold lN at h;split at h<;>try cases h
 ·obtain⟨rfl,rfl,rfl⟩:=r.nilslc_inv;cases u<;>simp only[fits,cV,bnT,Bool.false_eq_true]at hk;exact⟨[],Src.ofNil w hu 0,.nil⟩
 ·rename_i id off len c;split at h<;>try cases h
  rename_i cs m' hrow;rw[mjE]at h;obtain⟨l,hl,he⟩:=h;cases he;obtain⟨hg,hgood⟩:=St.row_some hrow;obtain⟨p,cap,hp,rfl,_⟩:=r.slc_inv;obtain⟨C,ty,fr,hC,hcs,_⟩:=(S.row id p cs _ hp hg hgood).row;obtain⟨rfl,hle⟩:=pU hl;have hv:=uU hcs hle;cases u<;>simp only[fits,cV,bnT,Bool.false_eq_true]at hk;refine⟨_,Src.ofSlice w hu _ n cap _ (by rw[←hv.1];simp;omega) (fun j v hj=>?_) (fun v hv'=>?_),hv⟩
  ·rw[eT,wI hC];rw[List.getElem?_take]at hj;split at hj
   ·rw[List.getElem?_drop]at hj;simpa using hj
   ·cases hj
  ·rw[xZ];have:=hv.one_eq;rw[hone]at this;exact List.all_eq_true.1 this v hv'
 ·rename_i s;obtain rfl:=r.string_inv;rw[cJ,Bool.cond_decide]at h;split at h
  ·rename_i hz;cases h;subst hz;cases u<;>simp only[fits,cV,Bool.not_false,Bool.false_eq_true]at hk;refine⟨_,Src.ofString w hu s,VRL.same ?_⟩;rw[List.all_eq_true];intro v hv;obtain⟨_,_,rfl⟩:=List.mem_map.1 hv;rfl
  ·cases h
 ·cases r with
  |same _ hp=>simp[aB]at hp
  |emp a s cap h=>
   cases u<;>simp only[fits,cV,bnT,Bool.false_eq_true]at hk;exact⟨[],Src.ofSlice w hu a 0 cap [] (by simp) (fun j v hj=>by simp at hj) (fun v hv'=>by simp at hv'),.nil⟩
theorem room_run{t tx ty e:TypeId}{i:TypeInfo}(ht:P.underlying t=some (.slice e))(hi:P.info? e=some i){b off sLen sCap:Nat}{x:Value}{n:Nat}{news:List Value}(hs:Src P i.size tx x n news w)
    (hroom:sLen+n≤sCap) {cur:Array Value} {te:TypeId} (hC:w.heap[b]?=some (.cells cur te (0,0))) (hfit:off+sLen*i.size+news.length≤cur.size):
    (Builtin.append_ #[t,tx] ty #[.slice (some ⟨b,off,none⟩) sLen sCap,x]).run P w=
      .ok (.slice (some ⟨b,off,none⟩) (sLen+n) sCap) (w.setRow b (cur.toList.take (off+sLen*i.size)++news++cur.toList.drop (off+sLen*i.size+news.length)).toArray):=by
 have hst:=run_storeCells_at P b (off+sLen*i.size) te news 0 cur w hC (by simpa using hfit) hs.one
 simp only[Nat.add_zero]at hst;rcases hs.kind with⟨e',hk⟩|hk<;>simp[Builtin.append_,run_underlying ht,run_underlying hk,Go.sizeOf,typeInfo,hi,hs.len,hroom,hs.cells,Addr.add_lit,hst]
theorem sB(z:Array Value)(n:Nat):(Builtin.zeroCells z n).size=n*z.size:=by simp[Builtin.zeroCells]
theorem vT{t tx ty e:TypeId}{i:TypeInfo}{z:Value}(S:Sim w0 P μ σ w)(ht:P.underlying t=some (.slice e))(hi:P.info? e=some i)(hz:i.zero=some z)(hzs:z.cells.size=i.size)
    {base:Option Addr} {sLen sCap:Nat} {old olds:List Value} (hold:(Builtin.firstCells i.size sLen (.slice base sLen sCap)).run P w.drew= .ok olds.toArray w.drew) (hol:olds.length=sLen*i.size) (hor:VRL μ old olds)
    {x:Value} {n:Nat} {xs news:List Value} (hs:Src P i.size tx x n news w) (hxr:VRL μ xs news) (hg:sCap<sLen+n) (hb1:1≤i.bytes) (hb:(sLen+n)*i.bytes≤1073741824)
    {id':Nat} {mt:Mta} (hid:μ id'=none) (hlt:id'<σ.next) (hmt:mt.z=i.size) (hob:σ.get id'=some (.cells (old++xs) mt)):
    ∃v' w' p,(Builtin.append_ #[t,tx] ty #[.slice base sLen sCap,x]).run P w= .ok v' w'∧VR (upd μ id' p) (.slice (some ⟨id',0,none⟩) (sLen+n) (sLen+n+1)) v'∧Sim w0 P (upd μ id' p) σ w':=by
 have hnl:sLen+n≤(sLen+n)*i.bytes:=Nat.le_mul_of_pos_right _ (by omega)
 have hrun:=run_append_grow_src w t tx ty e i z ht hi hz base sLen sCap olds hold x n news hs hg (by omega) (growslice_fits hg (by omega))
 have hcap:=grownCap_ge w (sLen+n) sCap e;refine⟨_,_,⟨w.heap.size,0,grownCap w (sLen+n) sCap e*i.size,i.size⟩,hrun,.slc id' 0 _ _ _ _ (fC _ _ _) (fun e=>by omega) hcap (by simp),?_⟩
 refine(S.drawn (w.drawn+1)).alloc hid hlt hob ⟨_,e,rfl,fun j v hj=>?_,fun _=>?_,by simp[hmt]⟩ rfl rfl
 ·obtain⟨u,hu,hr⟩:=(hor.append hxr).get hj;refine⟨u,?_,hr⟩;have hjl:j<(olds++news).length:=by
   rcases Nat.lt_or_ge j (olds++news).length with h'|h'
   ·exact h'
   ·rw[List.getElem?_eq_none h']at hu;cases hu
  rw[Array.getElem?_append_left (by simpa using hjl)]
  simpa using hu
 ·constructor
  ·rw[(hor.append hxr).1];simp only[lnA,hol,hs.newsLen,←Nat.add_mul];exact Nat.mul_le_mul_right _ hcap
  ·simp only[Array.size_append,List.size_toArray,lnA,hol,hs.newsLen,sB,hzs,←Nat.add_mul];exact Nat.mul_le_mul_right _ (by omega)
theorem aFA{c:Call}{ty:TypeId}{s s' x x' v:Value}{σ':St}{id':Nat}(S:Sim w0 P μ σ w)(rs:VR μ s s')(rx:VR μ x x')(hid:μ id'=none)(hlt:id'<σ.next)(h:gG P σ id' c s x=some (v,σ')):
    ∃v' w' μ',(Builtin.append_ c.argTypes ty #[s',x']).run P w= .ok v' w'∧VR μ' v v'∧Sim w0 P μ' σ' w'∧(∀k p,μ k=some p→μ' k=some p)∧(∀k,k≠id'→μ' k=μ k)∧σ'.next=σ.next:=by
 unfold gG at h;split at h<;>try cases h
 rename_i t t1 hts;have hts':c.argTypes= #[t,t1]:=by
  apply Array.toList_inj.1;rw[hts]
 rw[hts'];split at h<;>try cases h
 rename_i e u hu hu1;cases hk:fits u x with
 |false=>rw[hk]at h;cases h
 |true=>
  rw[hk]at h;simp only[cdt]at h;split at h<;>try cases h
  rename_i info hi;split at h<;>try cases h
  rename_i n xs z hsrc hz;cases hc:(xs.all one&&Nat.ble 1 info.size&&Nat.ble 1 info.bytes&&Nat.beq z.cells.size info.size&&cV s)with
  |false=>rw[hc]at h;cases h
  |true=>
   rw[hc]at h;simp only[bjE,aFg,cJ,djE]at hc;obtain⟨⟨⟨⟨hone,hz1⟩,hb1⟩,hzs⟩,hsl⟩:=hc;simp only[cdt]at h;obtain⟨news,hs,hxr⟩:=aFB S rx hu1 hk hone hsrc;rw[cJ,Bool.cond_decide]at h;split at h
   ·rename_i hn;subst hn;simp only[ojE,pjE]at h;obtain⟨rfl,rfl⟩:=h;have hnews:news=[]:=by have:=hs.newsLen;simpa using this
    subst hnews;cases s<;>simp only[cV,Bool.false_eq_true]at hsl;rename_i a l c';refine⟨s',w,μ,?_,rs,S,fun _ _ h=>h,fun _ _=>rfl,rfl⟩
    have: ∃base len cap,s'= .slice base len cap∧len≤cap:=by
     cases a with
     |none=>obtain⟨rfl,rfl,rfl⟩:=rs.nilslc_inv;exact⟨none,0,0,rfl,nlR _⟩
     |some a=>
      cases rs with
      |same _ h=>simp[aB]at h
      |slc id off len c cap p h hc hl he=>exact⟨_,_,_,rfl,hl⟩
      |emp a s cap h=>exact⟨_,_,_,rfl,Nat.zero_le _⟩
    obtain⟨base,len,cap,rfl,hle⟩:=this;exact run_append_nothing w t t1 ty e info hu hi base len cap hle x' hs
   ·rename_i hn;unfold iZ at h;split at h<;>try cases h
    ·
     obtain⟨rfl,rfl,rfl⟩:=rs.nilslc_inv;rw[aFg,Bool.cond_decide]at h;split at h
     ·rename_i hb;simp only[ojE,pjE]at h;obtain⟨rfl,rfl⟩:=h;have S1:Sim w0 P μ (σ.put id' (.cells xs (cS info.size id'))) w:=S.put_new hid (fun cs m g v e1 e2=>by cases e1;simp only[cS,ojE,pjE]at e2;omega)
      obtain⟨v',w',p,h1,h2,h3⟩:=vT (ty:=ty) S1 hu hi hz hzs (base:=none) (sLen:=0) (sCap:=0) (old:=[]) (olds:=[]) (run_firstCells_none _ _ _ _ _) (by simp) .nil hs hxr (by omega) hb1 (by simpa using hb) hid hlt (mt:=cS info.size id') rfl
       (by rw[St.get_put,if_pos rfl];rfl)
      refine⟨v',w',_,h1,by simpa using h2,h3,fZ p hid,fun k hk=>eU hk,rfl⟩
     ·cases h
    ·rename_i id off len k;obtain⟨p,cap,hp,rfl,hck,hlc,he⟩:=rs.slc_inv;rw[aFg,Bool.cond_decide]at h;split at h
     ·rename_i hb;split at h<;>try cases h
      rename_i cs m hrow;obtain⟨hg,hgood⟩:=St.row_some hrow;have R:=S.row id p cs m hp hg hgood;obtain⟨C,te,fr,hC,hcs,htipC⟩:=R.row;split at h<;>try cases h
      rename_i old hcut;obtain⟨rfl,hle⟩:=pU hcut;have hor:=uU hcs hle;have hol:((C.toList.drop (p.o+off)).take (len*info.size)).length=len*info.size:=by rw[←hor.1];simp;omega
      have hold:(Builtin.firstCells info.size len (.slice (some ⟨p.b,p.o+off,none⟩) len cap)).run P w.drew= .ok ((C.toList.drop (p.o+off)).take (len*info.size)).toArray w.drew:=
       run_firstCells_some _ _ _ _ _ _ _ hol (fun j v hj=>by
        rw[eT,wI (w:=w.drew) (show w.drew.heap[p.b]?=_ from hC)]
        rw[List.getElem?_take]at hj;split at hj
        ·rw[List.getElem?_drop]at hj;simpa using hj
        ·cases hj)
      rw[cJ,Bool.cond_decide]at h;split at h
      ·
       rename_i hkl;have hcap:=hck hkl;simp only[ojE,pjE]at h;obtain⟨rfl,rfl⟩:=h;have S1:Sim w0 P μ (σ.put id' (.cells ((cs.drop off).take (len*info.size)++xs) (cS info.size id'))) w:=S.put_new hid (fun cs m g v e1 e2=>by cases e1;simp only[cS,ojE,pjE]at e2;omega)
       obtain⟨v',w',q,h1,h2,h3⟩:=vT (ty:=ty) S1 hu hi hz hzs hold hol hor hs hxr (by omega) hb1 hb hid hlt (mt:=cS info.size id') rfl (by rw[St.get_put,if_pos rfl])
       exact⟨v',w',_,h1,h2,h3,fZ q hid,fun k hk=>eU hk,rfl⟩
      ·cases hc2:(m.tip&&m.wr&&Nat.beq m.z info.size&&Nat.beq (off+len*info.size) cs.length&&m.grp.isSome)with
       |false=>rw[hc2]at h;cases h
       |true=>
        rw[hc2]at h;simp only[bjE,cJ,djE]at hc2;obtain⟨⟨⟨⟨htip,hwr⟩,hmz⟩,hend⟩,hgrp⟩:=hc2;simp only[cdt,ojE,pjE]at h;obtain⟨rfl,rfl⟩:=h;have hdrop:(cs.drop off).take (len*info.size)=cs.drop off:=List.take_of_length_le (by simp;omega)
        have hpz:p.z=info.size:=R.z.trans hmz;by_cases hroom:len+n≤cap
        ·
         have hfr:=R.fz hwr C te fr hC;subst hfr;have hxl:xs.length=n*info.size:=by rw[hxr.1];exact hs.newsLen
         have hmul:(len+n)*info.size≤cap*info.size:=Nat.mul_le_mul_right _ hroom;rw[Nat.add_mul]at hmul;rw[hpz]at he;have hfit:p.o+cs.length+xs.length≤p.e:=by rw[hxl];omega
         have hCe:=htipC htip;have hrun:=room_run (ty:=ty) hu hi hs hroom hC (off:=p.o+off) (by rw[hs.newsLen];omega)
         have hpos:p.o+off+len*info.size=p.o+cs.length:=by omega
         rw[hpos]at hrun;refine⟨_,_,upd μ id' ⟨p.b,p.o+off,p.e,p.z⟩,hrun,?_,?_,fZ _ hid,fun k hk=>eU hk,rfl⟩
         ·exact .slc id' 0 (len+n) (len+n+1) cap _ (fC _ _ _) (fun e=>by omega) hroom (by rw[hpz];simp;omega)
         ·rw[hdrop];exact S.extend hp hg hgood htip hwr hgrp hC (by omega) hxr hfit hid hlt
        ·
         have hne:id'≠id:=by intro e;subst e;rw[hid]at hp;cases hp
         have S1:Sim w0 P μ ((σ.put id (.cells cs {m with tip:=false})).put id' (.cells ((cs.drop off).take (len*info.size)++xs) {m with lim:=((cs.drop off).take (len*info.size)).length})) w:=
          (S.untip hg).put_new hid (fun cs' m' g v e1 e2=>by cases e1;exact S.vers id cs m g v hg e2)
         obtain⟨v',w',q,h1,h2,h3⟩:=vT (ty:=ty) S1 hu hi hz hzs hold hol hor hs hxr (by omega) hb1 hb hid hlt (mt:={m with lim:=((cs.drop off).take (len*info.size)).length}) hmz (by rw[St.get_put,if_pos rfl])
         exact⟨v',w',_,h1,h2,h3,fZ q hid,fun k hk=>eU hk,rfl⟩
     ·cases h
    ·
     rename_i b0 o0 s0 len k;cases hb0:(Nat.beq s0 1&&Nat.ble (n*info.bytes) 1073741824)with
     |false=>rw[hb0]at h;cases h
     |true=>
      rw[hb0]at h;simp only[bjE,cJ,aFg,djE]at hb0;simp only[cdt,ojE,pjE]at h;obtain⟨rfl,rfl⟩:=h;cases rs with
      |same _ h=>simp[aB]at h
      |emp a s cap hcap=>
       obtain rfl:=hcap hb0.1;have S1:Sim w0 P μ (σ.put id' (.cells xs (cS info.size id'))) w:=S.put_new hid (fun cs m g v e1 e2=>by cases e1;simp only[cS,ojE,pjE]at e2;omega)
       obtain⟨v',w',p,h1,h2,h3⟩:=vT (ty:=ty) S1 hu hi hz hzs (base:=some a) (sLen:=0) (sCap:=0) (old:=[]) (olds:=[]) (run_firstCells_some _ _ _ _ _ _ ([]:List Value) (by simp) (fun j v hj=>by simp at hj)) (by simp) .nil hs hxr (by omega) hb1 (by simpa using hb0.2) hid hlt (mt:=cS info.size id') rfl
        (by rw[St.get_put,if_pos rfl];rfl)
       refine⟨v',w',_,h1,by simpa using h2,h3,fZ p hid,fun k hk=>eU hk,rfl⟩
end
end Go.AI
namespace Go.AI
section
variable{w0:W0}{P:Program}{μ:Mp}{σ:St}{w:World}
structure AR(μ:Mp)(S:Slots)(N:Nat)(a:Act):Prop where
 size:N≤a.tmps.size
 defers:a.defers=[]
 slot: ∀i,VR μ (S.at i) (a.tmps.getD i undef)
theorem AR.mono{S:Slots}{N:Nat}{a:Act}{μ':Mp}(A:AR μ S N a)(h: ∀k p,μ k=some p→μ' k=some p):AR μ' S N a:=⟨A.size,A.defers,fun i=>(A.slot i).mono' h⟩
theorem Slots.at_store(S:Slots)(d:Option Tmp)(v:Value)(i:Nat):(S.store d v).at i=if d=some i then v else S.at i:=by
 cases d with
 |none=>simp[Slots.store]
 |some d=>
  simp only[Slots.store,Slots.at,Tr.get_set,ojE];by_cases e:i=d
  ·subst e;simp
  ·rw[if_neg e,if_neg (Ne.symm e)]
theorem vV(a:Act)(d:Option Tmp)(v:Value)(i:Nat)(h: ∀t,d=some t→t<a.tmps.size):(a.put d v).tmps.getD i undef=if d=some i then v else a.tmps.getD i undef:=by
 cases d with
 |none=>simp[Act.put]
 |some d=>
  have hd:=h d rfl;simp only[Act.put,ojE,Array.getD_eq_getD_getElem?];by_cases e:d=i
  ·subst e;rw[if_pos rfl,Array.getElem?_setIfInBounds_self_of_lt hd];rfl
  ·rw[if_neg e,Array.getElem?_setIfInBounds_ne e]
theorem AR.put{S:Slots}{N:Nat}{a:Act}(A:AR μ S N a){d:Option Tmp}(hd: ∀t,d=some t→t<N){v v':Value}(r:VR μ v v'):AR μ (S.store d v) N (a.put d v'):=by
 refine⟨?_,?_,fun i=>?_⟩
 ·have:=A.size;cases d<;>simp[Act.put,this]
 ·cases d<;>simp[Act.put,A.defers]
 ·rw[Slots.at_store,vV _ _ _ _ (fun t e=>Nat.lt_of_lt_of_le (hd t e) A.size)]
  split
  ·exact r
  ·exact A.slot i
theorem ev_ok{S:Slots}{N:Nat}{a:Act}(A:AR μ S N a)(Z:Sim w0 P μ σ w){x:Operand}(h:aI P x=true):VR μ (ev S x) (a.eval x):=by
 cases x with
 |tmp t=>exact A.slot t
 |const v=>exact .same1 h
 |global g=>
  simp only[aI,fP,djE]at h;obtain⟨p,hp,hb,ho⟩:=Z.glob g h;have:=VR.ptr (μ:=μ) g 0 p hp;rw[hb,ho]at this;exact this
 |func f=>exact .fn _ _ _ _ _ rfl (fun i x u h=>by simp at h) rfl (fun i x u h=>by simp at h)
theorem VR.of_bool{x:Value}{b:Bool}(r:VR μ x (.bool b)):x= .bool b:=by cases r;rfl
theorem sN{S:Slots}{a:Act}(ops:Array Oper)(o:Oper)(A: ∀j want d,o.guard=some (j,want)→ops[j]?.bind (·.dst)=some d→VR μ (S.at d) (a.tmps.getD d undef)):wanted ops S o=Region.wanted o (yielded ops a.tmps):=by
 unfold wanted Region.wanted;cases hg:o.guard with
 |none=>rfl
 |some jw=>
  obtain⟨j,want⟩:=jw;simp only[yielded];cases hd:ops[j]?.bind (·.dst)with
  |none=>simp
  |some d=>
   simp only[omS,obS];have r:=A j want d hg hd;rw[Array.getD_eq_getD_getElem?]at r;cases ht:a.tmps[d]? with
   |none=>
    rw[ht]at r;simp only[Option.getD_none]at r;cases hs:S.at d<;>first|rfl|skip
    rw[hs]at r;have:=r.bool_inv;cases this
   |some u=>
    rw[ht]at r;simp only[Option.getD_some]at r;cases hs:S.at d with
    |bool b=>rw[hs]at r;rw[r.bool_inv];cases b<;>cases want<;>rfl
    |_=>
     cases u with
     |bool b=>rw[r.of_bool]at hs;cases hs
     |_=>rfl
theorem aF4{S:Slots}{N:Nat}{a:Act}(A:AR μ S N a)(ops:Array Oper)(o:Oper):wanted ops S o=Region.wanted o (yielded ops a.tmps):=
 sN ops o (fun _ _ d _ _=>A.slot d)
def CallOK(w0:W0)(P:Program)(call:FuncId→Array Value→St→Option (Value×St)):Prop:=
 ∀f args args' σ σ' w μ r,call f args σ=some (r,σ')→Sim w0 P μ σ w→VRL μ args.toList args'.toList→
  (∃ fn c, P.funcs[f]? = some fn ∧ fn.body = some c ∧ (fn.name == "runtime.NumGoroutine") = false) ∧
  Calls P f args' w fun e w'=> ∃μ' r',e= .returned r'∧VR μ' r r'∧Sim w0 P μ' σ' w'∧Ext σ.next μ μ'∧σ.next≤σ'.next
def Left(w0:W0)(P:Program)(μ:Mp)(σ σ':St)(id:Nat)(a:Act)(o:Oper)(v:Value)(a':Act)(w':World):Prop:=
 ∃μ' v',a'=a.put o.dst v'∧VR μ' v v'∧Sim w0 P μ' σ' w'∧(∀k p,μ k=some p→μ' k=some p)∧(∀k,k<σ.next→k≠id→μ' k=μ k)∧σ.next≤σ'.next
theorem lT{a:Act}{o:Oper}{v':Value}{w':World}{K:Act→World→Prop}{Q:Exit→Act→World→Prop}(h:(execOp a.eval o).run P w= .ok (.value v') w')(k:K (a.put o.dst v') w'):o.wp P a w K Q:=by
 unfold Oper.wp;rw[h];exact k
theorem wp_skip'{a:Act}{o:Oper}{w':World}{K:Act→World→Prop}{Q:Exit→Act→World→Prop}(h:(execOp a.eval o).run P w= .ok .skip w')(k:K (a.put o.dst undef) w'):o.wp P a w K Q:=by
 unfold Oper.wp;rw[h];exact k
theorem aGw{ρ:Operand→Value}{a:Act}{o:Oper}{v:Value}{Q:Exit→Act→World→Prop}(id:Nat)(Z:Sim w0 P μ σ w)(hρ: ∀x∈o.op.operands,VR μ (ρ x) (a.eval x))(h:gO P σ ρ o=some v):
    o.wp P a w (Left w0 P μ σ σ id a o v) Q:=by
 obtain⟨v',h1,h2⟩:=aread_ok Z hρ h;exact lT h1 ⟨μ,v',rfl,h2,Z,fun _ _ h=>h,fun _ _ _=>rfl,nlR _⟩
theorem aGN{ρ:Operand→Value}{a:Act}{o:Oper}{v:Value}{Q:Exit→Act→World→Prop}(id:Nat)(Z:Sim w0 P μ σ w)(hρ: ∀x∈o.op.operands,VR μ (ρ x) (a.eval x))(h:fQ P ρ o=some v):
    o.wp P a w (Left w0 P μ σ σ id a o v) Q:=by
 obtain⟨v',h1,h2⟩:=apure_ok (μ:=μ) hρ h;exact lT (dL h1 w) ⟨μ,v',rfl,h2,Z,fun _ _ h=>h,fun _ _ _=>rfl,nlR _⟩
theorem aEk{ρ:Operand→Value}{a:Act}{o:Oper}{v:Value}{ob:AObj}{id:Nat}{Q:Exit→Act→World→Prop}(Z:Sim w0 P μ σ w)(hρ: ∀x∈o.op.operands,VR μ (ρ x) (a.eval x))
    (hid:μ id=none) (hlt:id<σ.next) (h:eA P ρ o id=some (v,ob)) (hob:σ.get id=some ob):o.wp P a w (Left w0 P μ σ σ id a o v) Q:=by
 obtain⟨v',O,p,h1,hb,ho,hN,hv⟩:=aIx (μ:=μ) w hρ h;exact lT h1 ⟨upd μ id p,v',rfl,hv _ (fC _ _ _),Z.alloc hid hlt hob hN hb ho,fZ p hid,fun k _ hk=>eU hk,nlR _⟩
theorem uD{ρ:Operand→Value}{o:Oper}{id:Nat}{v:Value}{ob:AObj}(h:eA P ρ o id=some (v,ob)): ∀cs m g u,ob= .cells cs m→m.grp=some (g,u)→u≤0:=by
 intro cs m g u e hg;subst e;unfold eA at h;split at h<;>try cases h
 ·split at h<;>try cases h
  simp only[cond_eq_ite]at h;split at h<;>cases h;cases hg
 ·simp only[cond_eq_ite]at h;split at h<;>cases h;cases hg
 ·split at h<;>try cases h
  split at h<;>try cases h
  split at h<;>try cases h
  simp only[cond_eq_ite]at h;split at h<;>try cases h
  rw[mjE]at h;obtain⟨_,_,e⟩:=h;cases e;cases hg
 ·split at h<;>try cases h
  split at h<;>try cases h
  split at h<;>try cases h
  simp only[cond_eq_ite]at h;split at h<;>try cases h
  split at h<;>cases h
  ·cases hg
  ·simp only[ojE,pjE]at hg;omega
theorem eff_wp{call:FuncId→Array Value→St→Option (Value×St)}(hcall:CallOK w0 P call){S:Slots}{a:Act}{o:Oper}{v:Value}{σ':St}{id:Nat}{Q:Exit→Act→World→Prop}
    (Z:Sim w0 P μ σ w) (hρ: ∀x∈o.op.operands,VR μ (ev S x) (a.eval x)) (hid:μ id=none) (hlt:id<σ.next) (h:aAK P call σ (ev S) o id=some (v,σ')):
    o.wp P a w (Left w0 P μ σ σ' id a o v) Q:=by
 unfold aAK at h;cases ho:o.op<;>simp only[ho]at h hρ<;>try cases h
 case store t p x=>
  rw[mjE]at h;obtain⟨σ1,h,he⟩:=h;cases he;obtain⟨w',h1,h2,h3⟩:=aIn Z (hρ p (by simp[Op.operands])) (hρ x (by simp[Op.operands])) h
  refine wp_skip' (w':=w') ?_ ⟨μ,undef,rfl,.undef,h2,fun _ _ h=>h,fun _ _ _=>rfl,by omega⟩
  unfold execOp;rw[ho];simp[h1]
 case call c=>
  have hargs:=wR (μ:=μ) (ρ:=ev S) (ρ':=a.eval) c.args.toList (fun x hx=>hρ x (dC c x hx))
  split at h
  ·rename_i hc;split at h<;>try cases h
   rename_i s x hsx;have hs':c.args= #[s,x]:=by apply Array.toList_inj.1;rw[hsx]
   obtain⟨v',w',μ',h1,h2,h3,h4,h5,h6⟩:=aFA (ty:=o.type) Z (hρ s (dC c s (by rw[hsx];simp))) (hρ x (dC c x (by rw[hsx];simp))) hid hlt h
   refine lT (v':=v') (w':=w') ?_ ⟨μ',v',rfl,h2,h3,h4,fun k _ hk=>h5 k hk,by omega⟩
   unfold execOp;rw[ho];simp only[resolve,hc,Sem.run_bind,Sem.run_pure,Result.andThen_ok,invoke,builtin];rw[hs'];simp[h1]
  ·split at h<;>try cases h
   rename_i g args hcal;unfold rX at hcal;split at hcal<;>try cases hcal
   rename_i f hc;split at hcal<;>try cases hcal
   rename_i first captured hf
   have hf':=hρ f (by simp[Op.operands,Call.operands,hc])
   rw[hf]at hf';have hfn: ∃us vs,a.eval f= .func (.func g) us vs∧VRL μ first.toList us.toList∧VRL μ captured.toList vs.toList:=by
    generalize a.eval f=y at hf';cases hf' with
    |same _ h=>simp[aB]at h
    |fn _ xs ys us vs hl h hl' h'=>exact⟨us,vs,rfl,⟨hl,h⟩,⟨hl',h'⟩⟩
   obtain⟨us,vs,hfe,hr1,hr2⟩:=hfn;have hall:VRL μ (first++c.args.map (ev S)++captured).toList (us++c.args.map a.eval++vs).toList:=by
    simp only[Array.toList_append,Array.toList_map];exact(hr1.append hargs).append hr2
   obtain⟨⟨fn,code,hfn,hbody,hname⟩,hC⟩:=hcall g _ _ σ σ' w μ v h Z hall;have hrun:(execOp a.eval o).run P w= .ok (.enter g (us++c.args.map a.eval++vs)) w:=by
    unfold execOp;rw[ho];simp only[resolve,hc,hfe,Deferred.ofValue,Sem.run_bind,Sem.run_pure,Result.andThen_ok,invoke,callFunc,run_program,hfn,hname,hbody,Option.isNone_some,Bool.false_eq_true,if_false]
   unfold Oper.wp;rw[hrun,Oper.upon_enter];refine hC.mono fun e w' ⟨μ',r',he,hr,hZ,hE,hn⟩=>?_
   subst he;exact⟨μ',r',rfl,hr,hZ,hE.1,fun k hk _=>hE.2 k hk,hn⟩
theorem aop_ok{call:FuncId→Array Value→St→Option (Value×St)}(hcall:CallOK w0 P call){S:Slots}{N:Nat}{a:Act}{o:Oper}{v:Value}{σ':St}{base i:Nat}{Q:Exit→Act→World→Prop}
    (A:AR μ S N a) (Z:Sim w0 P μ σ w) (hops: ∀x∈o.op.operands,aI P x=true) (hid:μ (base+i)=none) (hlt:base+i<σ.next) (h:aop P call base i o S σ=some (v,σ')):
    o.wp P a w (Left w0 P μ σ σ' (base+i) a o v) Q:=by
 have hρ: ∀x∈o.op.operands,VR μ (ev S x) (a.eval x):=fun x hx=>ev_ok A Z (hops x hx)
 unfold aop at h;split at h
 ·rw[mjE]at h;obtain⟨_,h,e⟩:=h;cases e;unfold fL at h;split at h
  ·rename_i v' hv';cases h;exact aGN _ Z hρ hv'
  ·split at h<;>try cases h
   rename_i s d x ho;have h1:=aIv Z (hρ x (by rw[ho];simp[Op.operands])) h
   have hpl: ∃ba,v= .string ba:=by
    unfold mP at h;split at h<;>try cases h
    split at h<;>try cases h
    split at h<;>try cases h
    ·split at h<;>try cases h
     split at h<;>try cases h
     rw[mjE]at h;obtain⟨ns,_,rfl⟩:=h;exact⟨_,rfl⟩
    ·exact⟨_,rfl⟩
   obtain⟨ba,rfl⟩:=hpl;refine lT (v':= .string ba) ?_ ⟨μ,_,rfl,.same _ rfl,Z,fun _ _ h=>h,fun _ _ _=>rfl,nlR _⟩
   unfold execOp;rw[ho];simp[h1]
 ·rw[mjE]at h;obtain⟨_,h,e⟩:=h;cases e;exact aGw _ Z hρ h
 ·rw[mjE]at h;obtain⟨⟨v1,ob⟩,h,e⟩:=h;cases e;have Z1:Sim w0 P μ (σ.put (base+i) ob) w:=Z.put_new hid (fun cs m g u e1 e2=>by have:=uD h cs m g u e1 e2;omega)
  exact aEk Z1 hρ hid hlt h (by rw[St.get_put,if_pos rfl])
 ·exact eff_wp hcall Z hρ hid hlt h
theorem nG{N:Nat}{o:Oper}(h:mE P N o=true): ∀t,o.dst=some t→t<N:=by
 intro t e;unfold mE at h;simp only[e,fP,bjE,djE]at h;exact h.1
theorem tH{N:Nat}{o:Oper}(h:mE P N o=true): ∀x∈o.op.operands,aI P x=true:=by
 intro x hx;unfold mE at h;simp only[bjE]at h;have:=h.2;rw[Array.all_eq_true']at this;exact this x hx
def kJ(w0:W0)(P:Program)(μ:Mp)(n:Nat)(N:Nat)(S':Slots)(σ':St)(Q:Act→World→Prop):Prop:=
 ∀a' w' μ',AR μ' S' N a'→Sim w0 P μ' σ' w'→Ext n μ μ'→n≤σ'.next→Q a' w'
theorem aGs{call:FuncId→Array Value→St→Option (Value×St)}(hcall:CallOK w0 P call){ops:Array Oper}{base N n0:Nat}{Q:Exit→Act→World→Prop}(hn0:n0≤base)(hok: ∀o∈ops.toList,mE P N o=true):
    ∀(l:List Oper) (i:Nat) (S S':Slots) (σ σ':St) (a:Act) (w:World) (μ μ0:Mp),(∀j,l[j]?=ops[i+j]?)→i+l.length=ops.size→
      AR μ S N a→Sim w0 P μ σ w→Ext n0 μ0 μ→base+ops.size≤σ.next→(∀j,i≤j→j<ops.size→μ (base+j)=none)→
      cK P call ops base l i S σ=some (S',σ')→kJ w0 P μ0 n0 N S' σ' (Q .normal)→wpOps P ops Q (List.range' i l.length) a w:=by
 intro l;induction l with
 |nil=>
  intro i S S' σ σ' a w μ μ0 hl hlen A Z E hnx hnone h hpost;simp only[cK,ojE,pjE]at h;obtain⟨rfl,rfl⟩:=h;exact hpost a w μ A Z E (by omega)
 |cons o l ih=>
  intro i S S' σ σ' a w μ μ0 hl hlen A Z E hnx hnone h hpost;have hoi:ops[i]?=some o:=by simpa using (hl 0).symm
  have hmem:o∈ops.toList:=by
   have:ops.toList[i]?=some o:=by simpa using hoi
   exact List.mem_of_getElem? this
  have hok':=hok o hmem;simp only[lcS]at hlen;have hl': ∀j,l[j]?=ops[i+1+j]?:=fun j=>by have:=hl (j+1);rw[show i+1+j=i+(j+1) by omega,←this];simp
  simp only[lcS,List.range'_succ,wpOps,hoi];unfold cK at h;rw[aF4 A ops o]at h;cases hw:Region.wanted o (yielded ops a.tmps)with
  |false=>
   rw[hw]at h;simp only[cdf]at h;simp only[Bool.false_eq_true,if_false];exact ih (i+1) _ S' σ σ' _ w μ μ0 hl' (by omega) (A.put (nG hok') .undef) Z E hnx (fun j hj hj'=>hnone j (by omega) hj') h hpost
  |true=>
   rw[hw]at h;simp only[cdt]at h;simp only[if_true];split at h<;>try cases h
   rename_i v σ1 hop;refine .inl (Oper.wp_mono (fun a' w' hL=>?_) (aop_ok hcall A Z (tH hok') (hnone i (nlR _) (by omega)) (by omega) hop (Q:=Q)))
   obtain⟨μ',v',rfl,hv,hZ,hext,hsame,hnx'⟩:=hL;exact ih (i+1) _ S' σ1 σ' _ w' μ' μ0 hl' (by omega) ((A.mono hext).put (nG hok') hv) hZ
    ⟨fun k p hk=>hext k p (E.1 k p hk),fun k hk=>(hsame k (by omega) (by omega)).trans (E.2 k hk)⟩ (by omega)
    (fun j hj hj'=>(hsame (base+j) (by omega) (by omega)).trans (hnone j (by omega) hj')) h hpost
end
end Go.AI
