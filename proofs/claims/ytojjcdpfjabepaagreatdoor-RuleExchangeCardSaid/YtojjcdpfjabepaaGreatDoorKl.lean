import Derived.Test.YtojjcdpfjabepaaGreatDoorKk
set_option linter.unusedVariables false
set_option linter.unusedSimpArgs false
set_option linter.constructorNameAsVariable false
namespace Go.TV
open Go.AI Go.PI
section
variable{P:Program}{U:iN}{T:TP U.D}{c c0:Cx}{β:Type}{r:β}{q p:PSt}{M:TM U.D}
theorem beqF{k t:Nat}(h:k≠t):Nat.beq k t=false:=by rw[cJ];exact decide_eq_false h
theorem eQ(m:List (Nat×BC U.D))(k j:Nat)(y:BC U.D):bG (sR m k y) j=if j=k then(bG m k).map fun _=>y else bG m j:=by
 induction m with
 |nil=>simp[bG,sR]
 |cons x m ih=>
  obtain⟨a,b⟩:=x;unfold sR;by_cases h:a=k
  ·subst h;simp only[Nat.beq_refl,cdt];by_cases hj:j=a
   ·subst hj;simp[bG]
   ·have hja:Nat.beq a j=false:=beqF fun e=>hj e.symm
    simp only[bG,hja,cdf,if_neg hj]
  ·simp only[beqF h,cdf];by_cases hj:j=k
   ·subst hj;have:=ih;rw[if_pos rfl]at this;simp only[bG,beqF h,cdf,if_true];exact this
   ·rw[if_neg hj]at ih⊢;simp only[bG];cases Nat.beq a j with
    |true=>rfl
    |false=>exact ih
theorem cN(m:List (Nat×BC U.D))(k j:Nat)(y:BC U.D):bG ((k,y)::m) j=if j=k then some y else bG m j:=by
 by_cases h:j=k
 ·subst h;simp[bG]
 ·have:Nat.beq k j=false:=beqF fun e=>h e.symm
  simp only[bG,this,cdf,if_neg h]
theorem oH{p p':PSt}{e:Ce}{b:BC U.D}(h:bcR U c p e b)(hg: ∀id,e.id=some id→p'.get id=p.get id):bcR U c p' e b:=by
 cases b with
 |bx s r=>obtain⟨id,cs,h1,h2,h3⟩:=h;exact⟨id,cs,h1,by rw[hg id h1];exact h2,h3⟩
 |row t l=>
  obtain⟨h1,h2,h3⟩:=h;refine⟨h1,h2,?_⟩;rcases h3 with h3|⟨id,h3,h4⟩
  ·exact .inl h3
  ·exact .inr ⟨id,h3,by rw[hg id h3];exact h4⟩
 |gone=>trivial
theorem aIc{c c':Cx}(h:leC c c'){s:SV U.D}{cs:List (PV×Bool)}(r:rQ U c s cs):rQ U c' s cs:=by
 cases s with
 |cl f caps=>obtain⟨p,b,h1,h2⟩:=r;exact⟨p,b,h1,svR_le h h2⟩
 |_=>exact r
theorem bcR_le{c c':Cx}(h:leC c c'){p:PSt}{e:Ce}{b:BC U.D}(r:bcR U c p e b):bcR U c' p e b:=by
 cases b with
 |bx s rs=>obtain⟨id,cs,h1,h2,h3,h4⟩:=r;exact⟨id,cs,h1,h2,aIc h h3,h4⟩
 |row t l=>exact r
 |gone=>trivial
theorem MR.write(Mm:MR U q c0 c M p){k:Nat}{b b':BC U.D}{e:Ce}{id:Nat}{p':PSt}{w:List Nat}(hb:bG M.bx k=some b)(he:c k=some e)(hid:e.id=some id)
    (hn:p'.next=p.next) (hg: ∀j,j≠id→p'.get j=p.get j) (hd: ∀j,j∈p'.dirty↔j=id∨j∈p.dirty) (hw: ∀j,j∈p'.wr→j=id∨j∈p.wr) (hr:bcR U c p' e b'):
    MR U q c0 c ⟨sR M.bx k b',w⟩ p' where
 dom j h:=by
  simp only[eQ]at h;by_cases hj:j=k
  ·rw[if_pos hj,hb]at h;cases h
  ·rw[if_neg hj]at h;exact Mm.dom j h
 bx j y h:=by
  simp only[eQ]at h;by_cases hj:j=k
  ·subst hj;rw[if_pos rfl,hb]at h;simp only[omS,ojE]at h;subst h;exact⟨e,he,hr⟩
  ·rw[if_neg hj]at h;obtain⟨e',h1,h2⟩:=Mm.bx j y h;exact⟨e',h1,oH h2 fun i hi=>hg i fun ei=>hj (Mm.inj j k e' e id h1 he (by rw[←ei];exact hi) hid)⟩
 lt j e' i h1 h2:=by rw[hn];exact Mm.lt j e' i h1 h2
 inj:=Mm.inj
 next:=by rw[hn];exact Mm.next
 bor:=Mm.bor
 loc:=Mm.loc
 old i hi ho:=by
  rw[hg i fun e1=>ho ((hd i).2 (.inl e1))]
  exact Mm.old i hi fun h=>ho ((hd i).2 (.inr h))
 dirty i hi hlt:=by
  rcases(hd i).1 hi with rfl|h
  ·have hk:k<100:=by
    rcases Nat.lt_or_ge k 100 with h|h
    ·exact h
    ·have:=Mm.loc k e i he h hid;omega
   exact⟨k,e,Mm.bor k e he hk,hid⟩
  ·exact Mm.dirty i h hlt
 wr i hi:=by
  rcases hw i hi with rfl|h
  ·refine⟨by rw[hn];exact Mm.lt k e i he hid,fun hlt=>?_⟩
   have hk:k<100:=by
    rcases Nat.lt_or_ge k 100 with h|h
    ·exact h
    ·have:=Mm.loc k e i he h hid;omega
   exact⟨k,e,Mm.bor k e he hk,hid⟩
  ·rw[hn];exact Mm.wr i h
theorem MR.upd(Mm:MR U q c0 c M p){k:Nat}{b b':BC U.D}{e:Ce}{id:Nat}{o:lP}(hb:bG M.bx k=some b)(he:c k=some e)(hid:e.id=some id)(hr:bcR U c (p.upd id o) e b'):
    MR U q c0 c ⟨sR M.bx k b',k::M.wr⟩ (p.upd id o)∧(WR U c M p→WR U c ⟨sR M.bx k b',k::M.wr⟩ (p.upd id o)):=by
 have hlt:=Mm.lt k e id he hid;refine⟨Mm.write hb he hid rfl (fun j hj=>by rw[fJ hlt,if_neg hj]) (fun j=>gE) (fun j hj=>gE.1 hj) hr,fun hw i hi k' e' h1 h2=>?_⟩
 show(Nat.beq k k'||bL k' M.wr)=true;rcases gE.1 hi with rfl|h
 ·rw[Mm.inj k k' e e' i he h1 hid h2,Nat.beq_refl,Bool.true_or]
 ·rw[hw i h k' e' h1 h2,Bool.or_true]
theorem xN: ∀{m:List (Nat×BC U.D)} {k:Nat} {b:BC U.D},bG m k=some b→sR m k b=m
 |[],k,b,h=>rfl
 |(a,x)::m,k,b,h=>by
  simp only[bG]at h;unfold sR;cases hb:Nat.beq a k with
  |true=>
   rw[hb]at h;simp only[cdt,ojE]at h;subst h;rw[←nqE hb];rfl
  |false=>rw[hb]at h;simp only[cdf]at h⊢;rw[xN h]
theorem aDP{p:PSt}{id:Nat}{o:lP}(h:id<p.next)(k:Nat):(p.mark id o).get k=if k=id then some o else p.get k:=by
 have:=fJ (o:=o) h k;simp only[PSt.get,PSt.upd,PSt.mark]at this⊢;exact this
theorem MR.mark(Mm:MR U q c0 c M p){k:Nat}{b b':BC U.D}{e:Ce}{id:Nat}{o:lP}(hb:bG M.bx k=some b)(he:c k=some e)(hid:e.id=some id)(hr:bcR U c (p.mark id o) e b'):
    MR U q c0 c ⟨sR M.bx k b',M.wr⟩ (p.mark id o)∧(WR U c M p→WR U c ⟨sR M.bx k b',M.wr⟩ (p.mark id o)):=by
 have hlt:=Mm.lt k e id he hid;exact⟨Mm.write hb he hid rfl (fun j hj=>by rw[aDP hlt,if_neg hj]) (fun j=>gE) (fun j hj=> .inr hj) hr,fun hw=>hw⟩
theorem mG{o:Nat}: ∀{rs:Rts},aHh o rs=true↔∃s,(o,s)∈rs
 |[]=>by simp[aHh]
 |x::rs=>by
  obtain⟨a,b⟩:=x;simp only[aHh,Bool.or_eq_true,cJ,djE,mG (rs:=rs),List.mem_cons,pjE];constructor
  ·rintro(rfl|⟨s,h⟩)
   ·exact⟨b,.inl ⟨rfl,rfl⟩⟩
   ·exact⟨s,.inr h⟩
  ·rintro⟨s,⟨rfl,_⟩|h⟩
   ·exact .inl rfl
   ·exact .inr ⟨s,h⟩
theorem memex{o n:Nat}: ∀{rs:Rts} {x:Nat×Bool},x∈exR o n rs→x∈rs∧¬(o≤x.1∧x.1<o+n)
 |[],x,h=>by cases h
 |y::rs,x,h=>by
  unfold exR at h;cases hb:Nat.ble o y.1&&Nat.blt y.1 (o+n)with
  |true=>
   rw[hb]at h;obtain⟨h1,h2⟩:=memex h;exact⟨mtE _ h1,h2⟩
  |false=>
   rw[hb]at h;rcases List.mem_cons.1 h with rfl|h
   ·refine⟨mhE ..,fun⟨h1,h2⟩=>?_⟩
    have:(Nat.ble o x.1&&Nat.blt x.1 (o+n))=true:=by
     simp only[bjE,Nat.ble_eq,fP,djE];exact⟨h1,h2⟩
    rw[this]at hb;cases hb
   ·obtain⟨h1,h2⟩:=memex h;exact⟨mtE _ h1,h2⟩
def qF(P:Program)(take:Bool)(p:PSt)(t:TypeId)(a:PV):Option (PV×Bool×PSt):=
 match gD P p t a with
 |some v=>bif take&&aFU v then some (v,(dO p a).2,(dO p a).1)else some (v,false,p)
 |none=>none
variable(hU:eX U)(hT:uH P U T)
include hU
theorem SR.self(t:Ty)(x:Den U.D t):SR t x (enV U t x).cells:=⟨aDR (pN hU t x),wV (pN hU t x)⟩
theorem aCW{t:Ty}{l:List (Den U.D t)}{i:Nat}{y:Den U.D t}(h:l[i]?=some y):(((l.map (enV U t)).flatMap PV.cells).drop (i*szT U t)).take (szT U t)=(enV U t y).cells:=by
 induction l generalizing i with
 |nil=>simp at h
 |cons x l ih=>
  cases i with
  |zero=>
   simp only[gcZ,ojE]at h;subst h;rw[Nat.zero_mul,List.drop_zero,mpC,fmC];exact List.take_left' (eK hU _ _)
  |succ i=>
   rw[gcS]at h;rw[mpC,fmC,←ih h,Nat.succ_mul,Nat.add_comm];congr 1;rw[←List.drop_drop];congr 1;exact List.drop_left' (eK hU _ _)
include hT
theorem ldT_ok{take:Bool}{t:TypeId}{a:SV U.D}{p0:PV}{K:X U→TM U.D→Option β}(h:ldT U T.T take M t a K=some r)(ra:svR U c a p0)(Mm:MR U q c0 c M p):
    ∃x M' v own p',K x M'=some r∧qF P take p t p0=some (v,own,p')∧slR U c x (v,own)∧MR U q c0 c M' p'∧(WR U c M p→WR U c M' p'):=by
 unfold ldT at h;split at h
 ·
  rename_i v;obtain⟨es,i,off,e,rfl,he,hcs⟩:=ra;split at h
  ·rename_i ty hty;cases hb:v.t.beq ty with
   |false=>rw[hb]at h;cases h
   |true=>
    rw[hb]at h;obtain⟨vt,vx⟩:=v;have:=Ty.beq_eq hb;subst this;obtain⟨w,h1,h2,_⟩:=qL hU hT hty (cs:=e.cells) (off:=off) (x:=vx) (by rw[hcs];exact SR.self hU _ _)
    have hl:gD P p t (.pin es i off)=some w:=by simp only[gD,he];exact h1
    refine⟨_,_,w,false,p,h,?_,⟨h2,aE _ _⟩,Mm,fun hw=>hw⟩
    simp only[qF,hl,dO];cases take&&aFU w<;>rfl
  ·cases h
 ·
  rename_i k off path;obtain⟨e,id,he,hid,rfl⟩:=ra;split at h
  ·rename_i cont rs hf;obtain⟨e',he',id',cs,hid',hget,hcs,hrt⟩:=Mm.bx k _ hf;rw[he]at he';cases he';rw[hid]at hid';cases hid';split at h
   ·
    rename_i cv;split at h
    ·rename_i ty w o hty hp;cases hb:w.t.beq ty&&Nat.beq o off with
     |false=>rw[hb]at h;cases h
     |true=>
      rw[hb]at h;simp only[cdt]at h;simp only[bjE,cJ,djE]at hb;obtain⟨hwt,rfl⟩:=hb;obtain⟨wt,wx⟩:=w;have:=Ty.beq_eq hwt;subst this;obtain⟨h1,h2,h3⟩:=hcs;have hsr:SR cv.t cv.x (cs.map (·.1)):=⟨h1,h2⟩;obtain⟨g1,g2⟩:=nM hU hp hsr;obtain⟨v,k1,k2,k3,k4⟩:=qL hU hT hty g1;have hl:gD P p t (.ptr id o)=some v:=by simp only[gD,hget];exact k1
      have hlt:=Mm.lt k e id he hid;have hmark: ∀rs',(∀i s,(i,s)∈rs'→(i,s)∈rs∧i≠o)→∀x b,cs[o]?=some (x,b)→bcR U c (p.mark id (.box (cs.set o (x,false)))) e (.bx (.val cv) rs'):=by
       intro rs' hsub x b hx;have hol:o<cs.length:=by
        rcases Nat.lt_or_ge o cs.length with h|h
        ·exact h
        ·rw[List.getElem?_eq_none h]at hx;cases hx
       have hmap:(cs.set o (x,false)).map (·.1)=cs.map (·.1):=by
        rw[List.map_set];apply List.ext_getElem?;intro j;rw[List.getElem?_set];by_cases hj:o=j
        ·subst hj;rw[List.length_map,if_pos rfl,if_pos hol,List.getElem?_map,hx];rfl
        ·rw[if_neg hj]
       refine⟨id,_,hid,by rw[aDP hlt,if_pos rfl],⟨by rw[hmap];exact h1,by rw[hmap];exact h2,fun y hy=>?_⟩,fun i s hi=>?_⟩
       ·rcases List.mem_or_eq_of_mem_set hy with hy|rfl
        ·exact h3 y hy
        ·exact h3 (x,b) (List.mem_of_getElem? hx)
       ·obtain⟨m1,m2⟩:=hsub i s hi;obtain⟨x',hx',hs'⟩:=hrt i s m1;exact⟨x',by rw[List.getElem?_set,if_neg (fun e=>m2 e.symm)];exact hx',hs'⟩
      have hisSl:yQ wt=true→aFU v=true:=by
       intro hs;cases wt with
       |sl et=>
        have hv:v≠ .nil:=by
         intro hv;have hc:v.cells=[v]:=by rw[hv];rfl
         rw[k3]at hc;have hm:v∈cs.map (·.1):=List.mem_of_mem_drop (List.mem_of_mem_take (by rw[hc];exact List.mem_singleton.2 rfl))
         obtain⟨y,hy,e1⟩:=List.mem_map.1 hm;exact h3 y hy (by rw[e1];exact hv)
        obtain⟨_,hsl⟩:=pB k2;rcases hsl with⟨_,h4|h4|h4⟩|⟨_,h4⟩
        ·rw[h4];rfl
        ·exact(hv h4).elim
        ·rw[h4];rfl
        ·rw[h4];rfl
       |_=>cases hs
      have hslNo:yQ wt=false→aFU v=false:=by
       intro hs;cases wt with
       |sl et=>cases hs
       |int k=>rw[eJ k2];rfl
       |bool=>rw[of_bool k2];rfl
       |str=>rw[qO k2];rfl
       |rc n=>obtain⟨cs',hc,_⟩:=aG8 k2;rw[hc];rfl
      cases hc:take&&yQ wt&&aHh o rs with
      |true=>
       rw[hc]at h;simp only[bjE]at hc;obtain⟨⟨rfl,hsl⟩,hmr⟩:=hc;obtain⟨s,hs⟩:=mG.1 hmr;obtain⟨x,hx,_⟩:=hrt o s hs;have hvx:v=x:=by
        have hwt1:mT wt=false:=by cases wt<;>first|rfl|cases hsl
        have hc1:v.cells=[v]:=iK fun ds e=>by rw[e,hwt1]at k4;cases k4
        have hc2:(cs.map (·.1))[o]?=some x:=by rw[List.getElem?_map,hx];rfl
        have hc3:((cs.map (·.1)).drop o).take 1=[v]:=by
         have:szT U wt=1:=by cases wt<;>first|rfl|cases hwt1
         rw[this]at k3;rw[←k3,hc1]
        have hc4:=congrArg (·[0]?) hc3;simp only[List.getElem?_take,List.getElem?_drop,gcZ]at hc4;rw[if_pos (by omega),Nat.add_zero,hc2]at hc4
        exact(Option.some.inj hc4).symm
       have hpt:dO p (.ptr id o)=(p.mark id (.box (cs.set o (x,false))),true):=by simp only[dO,hget,hx]
       obtain⟨m1,m2⟩:=Mm.mark hf he hid (hmark (exR o 1 rs) (fun i s hi=>by
        obtain⟨y1,y2⟩:=memex hi;exact⟨y1,fun e=>y2 ⟨by simp only;omega,by simp only;omega⟩⟩) x true hx)
       refine⟨_,_,v,true,_,h,?_,⟨k2,?_⟩,m1,m2⟩
       ·simp only[qF,hl,hisSl hsl,Bool.and_self,cdt,hpt]
       ·intro i s' hi;obtain⟨y1,y2⟩:=aDC hi;obtain⟨x',hx',hs'⟩:=hrt _ _ y1;have hi0:i=0:=by simp only at y2;omega
        subst hi0;simp only[Nat.zero_add]at hx';rw[hx]at hx';cases hx';refine .inr ⟨rfl,?_,rfl,fun e1=>by rw[hvx];exact hs' e1⟩
        rw[k4];cases wt<;>first|rfl|cases hsl
      |false=>
       rw[hc]at h;simp only[cdf]at h;cases hts:take&&aFU v with
       |false=>
        exact⟨_,_,v,false,p,h,by simp only[qF,hl,hts,cdf],⟨k2,aE _ _⟩,Mm,fun hw=>hw⟩
       |true=>
        have hred:qF P take p t (.ptr id o)=some (v,(dO p (.ptr id o)).2,(dO p (.ptr id o)).1):=by simp only[qF,hl,hts,cdt]
        simp only[bjE]at hts;have hsl:yQ wt=true:=by
         cases hh:yQ wt with
         |true=>rfl
         |false=>rw[hslNo hh]at hts;cases hts.2
        have hnm:aHh o rs=false:=by rw[hts.1,hsl]at hc;simpa using hc
        refine⟨_,M,v,(dO p (.ptr id o)).2,(dO p (.ptr id o)).1,h,hred,⟨k2,aE _ _⟩,?_⟩;cases hx:cs[o]? with
        |none=>rw[show dO p (.ptr id o)=(p,false) by simp only[dO,hget,hx]];exact⟨Mm,fun hw=>hw⟩
        |some y=>
         obtain⟨x,b⟩:=y;cases b with
         |false=>rw[show dO p (.ptr id o)=(p,false) by simp only[dO,hget,hx]];exact⟨Mm,fun hw=>hw⟩
         |true=>
          rw[show dO p (.ptr id o)=(p.mark id (.box (cs.set o (x,false))),true) by simp only[dO,hget,hx]]
          have:=Mm.mark hf he hid (hmark rs (fun i s hi=>⟨hi,fun e=>by
           rw[e]at hi;rw[mG.2 ⟨s,hi⟩]at hnm;cases hnm⟩) x true hx)
          rwa [xN hf]at this
    ·cases h
   ·
    rename_i f caps;obtain⟨pv,b,rfl,hpv⟩:=hcs;split at h
    ·cases hb:T.T.fn t&&Nat.beq off 0 with
     |false=>rw[hb]at h;cases h
     |true=>
      rw[hb]at h;simp only[bjE,cJ,djE]at hb;obtain⟨hfn,rfl⟩:=hb;obtain⟨ha,_,_⟩:=hT.fn t hfn;have hl:gD P p t (.ptr id 0)=some pv:=by simp only[gD,hget,nC,ha];rfl
      have hpv2:=hpv;obtain⟨ps,e1,_⟩:=hpv2;refine⟨_,_,pv,false,p,h,?_,⟨hpv,aE _ _⟩,Mm,fun hw=>hw⟩
      have:aFU pv=false:=by rw[e1];rfl
      simp only[qF,hl,this,Bool.and_false,cdf]
    ·cases h
   ·cases h
  ·cases h
 ·
  rename_i k i off path;obtain⟨e,id,he,hid,hi0,hi1,rfl⟩:=ra;split at h
  ·rename_i et l hf;obtain⟨e',he',hn,hz,hrow⟩:=Mm.bx k _ hf;rw[he]at he';cases he';rcases hrow with⟨hno,_⟩|⟨id',hid',hget⟩
   ·rw[hid]at hno;cases hno
   ·rw[hid]at hid';cases hid';obtain⟨y,hy,h⟩:=iB h;obtain⟨_,hy1,_⟩:=pR hy;split at h
    ·rename_i ty w o hty hp;cases hb:w.t.beq ty&&Nat.beq o off with
     |false=>rw[hb]at h;cases h
     |true=>
      rw[hb]at h;simp only[cdt]at h;simp only[bjE,cJ,djE]at hb;obtain⟨hwt,rfl⟩:=hb;obtain⟨wt,wx⟩:=w;have:=Ty.beq_eq hwt;subst this;obtain⟨g1,g2⟩:=nM hU hp (SR.self hU et y);have hseg:=aCW hU hy1;rw[←hseg,List.drop_take,List.drop_drop,List.take_take,Nat.min_eq_left (by simp only at g2⊢;omega)]at g1
      obtain⟨v,k1,k2,k3,k4⟩:=qL hU hT hty g1;have hl:gD P p t (.ptr id (i.toNat*e.z+o))=some v:=by simp only[gD,hget,hz];exact k1
      refine⟨_,_,v,false,p,h,?_,⟨k2,aE _ _⟩,Mm,fun hw=>hw⟩
      have hpt:dO p (.ptr id (i.toNat*e.z+o))=(p,false):=by simp only[dO,hget]
      simp only[qF,hl,hpt];cases take&&aFU v<;>rfl
    ·cases h
  ·cases h
 ·cases h
end
end Go.TV
namespace Go.TV
open Go.AI Go.PI
section
variable{P:Program}{U:iN}{T:TP U.D}{c c0:Cx}{β:Type}{r:β}{q p:PSt}{M:TM U.D}
theorem splice{α:Type}(l s:List α)(o o' n m:Nat)(h1:o'+m≤n)(h2:o+n≤l.length):
    l.take (o+o')++s++l.drop (o+o'+m)=l.take o++(((l.drop o).take n).take o'++s++((l.drop o).take n).drop (o'+m))++l.drop (o+n):=by
 have e1:l.take (o+o')=l.take o++((l.drop o).take n).take o':=by
  rw[List.take_add,List.take_take,Nat.min_eq_left (by omega)]
 have e2:l.drop (o+o'+m)=((l.drop o).take n).drop (o'+m)++l.drop (o+n):=by
  rw[List.drop_take,List.drop_drop];have:l.drop (o+n)=(l.drop (o+(o'+m))).drop (n-(o'+m)):=by rw[List.drop_drop];congr 1;omega
  rw[this,List.take_append_drop,Nat.add_assoc]
 rw[e1,e2];simp only[apA]
theorem aEW{ts:List Ty}{cs s:List PV}{o n:Nat}(h:zOK U ts cs)(hs:zOK U ((ts.drop o).take n) s)(hl:s.length=n)(hle:o+n≤cs.length):zOK U ts (cs.take o++s++cs.drop (o+n)):=fun j z hj=>by
 have hlt:(cs.take o).length=o:=by rw[List.length_take];omega
 rw[apA]at hj;by_cases h1:j<o
 ·rw[List.getElem?_append_left (by omega),List.getElem?_take,if_pos h1]at hj
  exact h j z hj
 ·rw[List.getElem?_append_right (by omega),hlt]at hj
  by_cases h2:j-o<n
  ·rw[List.getElem?_append_left (by omega)]at hj
   obtain⟨e,g1,g2⟩:=hs _ z hj;rw[List.getElem?_take,if_pos h2,List.getElem?_drop]at g1;exact⟨e,by rw[←g1];congr 1;omega,g2⟩
  ·rw[List.getElem?_append_right (by omega),List.getElem?_drop]at hj
   have:o+n+(j-o-s.length)=j:=by omega
   rw[this]at hj;exact h j z hj
variable(hU:eX U)(hT:uH P U T)
include hU
theorem aFu{l:List (V U)}{i:Nat}{v w:V U}(h:l[i]?=some v)(ht:w.t=v.t):
    oU (l.set i w)=(oU l).take (cC U ((l.map fun v=>v.t).take i))++(enV U w.t w.x).cells++(oU l).drop (cC U ((l.map fun v=>v.t).take i)+szT U v.t):=by
 induction l generalizing i with
 |nil=>simp at h
 |cons x l ih=>
  cases i with
  |zero=>
   simp only[gcZ,ojE]at h;subst h;rw[List.set_cons_zero,dQ,dQ,List.take_zero,cC,List.take_zero,nlA,Nat.zero_add,List.drop_left' (eK hU _ _)]
  |succ i=>
   rw[gcS]at h;rw[List.set_cons_succ,dQ,dQ,ih h,mpC,List.take_succ_cons,cC,Nat.add_assoc];have hl:=eK hU x.t x.x;rw[←hl,List.take_length_add_append,List.drop_length_add_append];simp only[apA]
theorem aGn{path:List Nat}: ∀{v w c' old:V U} {o:Nat} {cs s:List PV},setP U path v w=some c'→aDQ U path v=some (old,o)→SR v.t v.x cs→SR w.t w.x s→
    c'.t=v.t∧w.t=old.t∧SR c'.t c'.x (cs.take o++s++cs.drop (o+szT U w.t)):=by
 induction path with
 |nil=>
  intro v w c' old o cs s h hp r rs;simp only[aDQ,ojE,pjE]at hp;obtain⟨rfl,rfl⟩:=hp;unfold setP at h;cases hb:v.t.beq w.t with
  |false=>rw[hb]at h;cases h
  |true=>
   rw[hb]at h;simp only[cdt,ojE]at h;subst h;have:=Ty.beq_eq hb;refine⟨this.symm,this.symm,?_⟩;rw[List.take_zero,nlA,Nat.zero_add,List.drop_eq_nil_of_le (by rw[r.len hU,this];exact nlR _),apN]
   exact rs
 |cons i path ih=>
  intro v w c' old o cs s h hp r rs;obtain⟨vt,vx⟩:=v;unfold setP at h;split at h
  ·rename_i n x heq;cases heq;split at h
   ·rename_i y hy;split at h
    ·rename_i y' hy';split at h
     ·rename_i z hz;cases h;unfold aDQ at hp;rw[show fldT U ⟨.rc n,x⟩ i=some y from hy]at hp
      simp only at hp;split at hp
      ·rename_i r' hr';simp only[ojE,pjE]at hp;obtain⟨rfl,rfl⟩:=hp;have hr'':aDQ U path y=some (r'.1,r'.2):=by rw[hr']
       have hpart:=r.fld hU hy;obtain⟨g1,g2,g3⟩:=ih hy' hr'' hpart rs;obtain⟨g4,g5⟩:=nM hU hr'' hpart;have hun:=hU.un_of n _ z hz;have hcl:cs.length=U.sz n:=r.len hU;have hpl:=hpart.len hU;rw[List.length_take,List.length_drop,hcl]at hpl;have hsp:=kP hU y.t;have hle:lC U n i+szT U y.t≤cs.length:=by omega
       refine⟨rfl,g2,?_⟩;show SR (.rc n) z (cs.take (lC U n i+r'.2)++s++cs.drop (lC U n i+r'.2+szT U w.t));rw[splice cs s (lC U n i) r'.2 (szT U y.t) (szT U w.t) (by rw[g2];exact g5) hle]
       refine⟨?_,?_⟩
       ·rw[jX,jX,uI,uK,r.wk,g3.wk];show _=U.en n z;rw[hU.en n z,hun];have:=aFu hU hy g1;rw[hU.ty n x]at this;show _=oU _;rw[this];show(U.en n x).take _++_++(U.en n x).drop _=_;rw[hU.en n x];rfl
       ·refine aEW r.z ?_ (by rw[g3.len hU,g1]) hle
        have h5:(((eV U (.rc n)).drop (lC U n i)).take (szT U y.t))=eV U y.t:=tR hU (yZ hU hy);have h6:eV U y'.t=eV U y.t:=by rw[g1]
        rw[h5,←h6];exact g3.z
      ·cases hp
     ·cases h
    ·cases h
   ·cases h
  ·cases h
omit hU in
theorem fl_fst(x:PV)(b:Bool):(fl x b).1=match x with| .nil=> .emp|x=>x:=by cases x<;>rfl
omit hU in
theorem fl_wk(x:PV)(b:Bool):wk (fl x b).1=wk x:=by cases x<;>rfl
omit hU in
theorem nP(x:PV)(b:Bool):(fl x b).1≠ .nil:=by cases x<;>simp[fl]
omit hU in
theorem SR.fl{t:Ty}{x:Den U.D t}{cs:List PV}(h:SR t x cs)(b:Bool):SR t x ((cs.map fun c=>fl c b).map (·.1)):=by
 refine⟨?_,fun j z hj=>?_⟩
 ·rw[←h.wk,fY,fY,List.map_map,List.map_map];exact List.map_congr_left fun c _=>fl_wk c b
 ·rw[List.map_map,List.getElem?_map,mjE]at hj;obtain⟨y,hy,e⟩:=hj;have hy':y= .sl z []:=by
   have e:(PI.fl y b).1= .sl z []:=e;rw[fl_fst]at e;split at e
   ·cases e
   ·exact e
  exact h.z j z (by rw[hy,hy'])
omit hU in
theorem rts_fl{rs:Rts}{t:Ty}{x:Den U.D t}{pv:PV}{ow:Bool}(h:rtR rs pv ow)(hv:VR U t x pv):rtB rs (pv.cells.map fun c=>fl c ow):=fun o s hi=>by
 rcases h o s hi with⟨h1,h2⟩|⟨rfl,h1,h2,h3⟩
 ·exact⟨.emp,by rw[List.getElem?_map,h2];rfl,fun _=>rfl⟩
 ·have hc:pv.cells=[pv]:=iK fun ds e=>by rw[e]at h1;cases h1
  rw[hc];cases hn:gJ pv with
  |true=>
   have:pv= .nil:=by cases pv<;>first|rfl|cases hn
   subst this;exact⟨.emp,rfl,fun _=>rfl⟩
  |false=>
   rw[hn,Bool.or_false]at h2;subst h2;refine⟨pv,?_,h3⟩;have:fl pv true=(pv,true):=by cases pv<;>first|rfl|cases hn
   simp[this]
theorem stT_ok(hT:uH P U T){t:TypeId}{a:SV U.D}{x:X U}{p0 p1:PV}{ow:Bool}{K:TM U.D→Option β}(h:stT U T.T M t a x K=some r)(ra:svR U c a p0)(rx:slR U c x (p1,ow))(Mm:MR U q c0 c M p):
    ∃M' p',K M'=some r∧jK P p t p0 p1 ow=some p'∧MR U q c0 c M' p'∧(WR U c M p→WR U c M' p'):=by
 unfold stT at h;split at h
 ·
  rename_i k off path;obtain⟨e,id,he,hid,rfl⟩:=ra;have hlt:=Mm.lt k e id he hid;split at h
  ·rename_i cont rs hf;obtain⟨e',he',id',cs,hid',hget,hcs,hrt⟩:=Mm.bx k _ hf;rw[he]at he';cases he';rw[hid]at hid';cases hid';split at h
   ·rename_i cv;split at h
    ·rename_i ty w o hty hp;cases hb:w.t.beq ty&&Nat.beq o off with
     |false=>rw[hb]at h;cases h
     |true=>
      rw[hb]at h;simp only[cdt]at h;simp only[bjE,cJ,djE]at hb;obtain⟨hwt,rfl⟩:=hb;have:=Ty.beq_eq hwt;split at h
      ·rename_i v hv;split at h
       ·rename_i c' hc';obtain⟨hvt,hvr⟩:=fX hU hv rx.1;obtain⟨h1,h2,h3⟩:=hcs;have hsr:SR cv.t cv.x (cs.map (·.1)):=⟨h1,h2⟩;have hs:=VR.sr hvr;obtain⟨g1,g2,g3⟩:=aGn hU hc' hp hsr (hs.fl ow);obtain⟨g4,g5⟩:=nM hU hp hsr;have hcl:cs.length=szT U cv.t:=by have:=hsr.len hU;rwa [List.length_map]at this
        have hsz:jD P t=some (szT U ty):=hT.sz t ty hty;have hn:p1.cells.length=szT U ty:=by rw[hs.len hU,hvt]
        have hle:o+szT U ty≤cs.length:=by rw[hcl,←this];exact g5
        have c1:(Nat.beq p1.cells.length (szT U ty)&&Nat.ble (o+szT U ty) cs.length&&p1.cells.all PV.one)=true:=by
         rw[hs.one hU,hn,Nat.beq_refl,Bool.true_and,bnA,Nat.ble_eq];exact hle
        refine⟨_,p.upd id (.box (cs.take o++p1.cells.map (fun c=>fl c ow)++cs.drop (o+szT U ty))),h,by simp only[jK,hget,hsz,c1,cdt],Mm.upd hf he hid ?_⟩
        refine⟨id,_,hid,by rw[fJ hlt,if_pos rfl],⟨?_,?_,?_⟩,?_⟩
        ·rw[←g3.wk,hvt];simp only[List.map_append,List.map_take,List.map_drop]
        ·rw[hvt]at g3;have:=g3.z;simp only[List.map_append,List.map_take,List.map_drop];exact this
        ·intro y hy;rcases List.mem_append.1 hy with hy|hy
         ·rcases List.mem_append.1 hy with hy|hy
          ·exact h3 y (List.mem_of_mem_take hy)
          ·obtain⟨z,_,rfl⟩:=List.mem_map.1 hy;exact nP z ow
         ·exact h3 y (List.mem_of_mem_drop hy)
        ·intro i s hi;have htl:(cs.take o).length=o:=by rw[List.length_take];omega
         rcases List.mem_append.1 hi with hi|hi
         ·obtain⟨j,e1,e2⟩:=memsh hi;simp only at e1;subst e1;obtain⟨y,hy,hys⟩:=rts_fl rx.2 hvr j s e2;refine⟨y,?_,hys⟩;have hj:j<p1.cells.length:=by
           rcases Nat.lt_or_ge j p1.cells.length with h|h
           ·exact h
           ·rw[List.getElem?_eq_none (by rw[List.length_map];exact h)]at hy;cases hy
          rw[apA,List.getElem?_append_right (by omega),htl,Nat.add_sub_cancel,List.getElem?_append_left (by rw[List.length_map];exact hj)]
          exact hy
         ·obtain⟨e1,e2⟩:=memex hi;obtain⟨y,hy,hys⟩:=hrt i s e1;refine⟨y,?_,hys⟩;simp only at e2;rw[apA];by_cases h4:i<o
          ·rw[List.getElem?_append_left (by omega),List.getElem?_take,if_pos h4];exact hy
          ·have h5:o+szT U ty≤i:=by omega
           rw[List.getElem?_append_right (by omega),htl,List.getElem?_append_right (by rw[List.length_map];omega),List.length_map,hn,List.getElem?_drop]
           have:o+szT U ty+(i-o-szT U ty)=i:=by omega
           rw[this];exact hy
       ·cases h
      ·cases h
    ·cases h
   ·
    split at h
    ·rename_i f caps hx;cases hb:T.T.fn t&&Nat.beq off 0&&stT.isF U cont with
     |false=>rw[hb]at h;cases h
     |true=>
      rw[hb]at h;simp only[cdt]at h;simp only[bjE,cJ,djE]at hb;obtain⟨⟨hfn,rfl⟩,hF⟩:=hb;obtain⟨_,hsz,_⟩:=hT.fn t hfn;have hx1:svR U c (.cl f caps) p1:=by have:=rx.1;rw[hx]at this;exact this
      obtain⟨ps,hps,hcap⟩:=hx1;have hcs1: ∃y,cs=[y]:=by
       cases cont with
       |cl f' caps'=>obtain⟨pv,b,e1,_⟩:=hcs;exact⟨_,e1⟩
       |nf=>obtain⟨b,e1⟩:=hcs;exact⟨_,e1⟩
       |_=>cases hF
      obtain⟨y,rfl⟩:=hcs1;subst hps;refine⟨_,p.upd id (.box [(.fn f [] ps,ow)]),h,?_,Mm.upd hf he hid ?_⟩
      ·simp only[jK,hget,hsz];rfl
      ·exact⟨id,_,hid,by rw[fJ hlt,if_pos rfl],⟨_,_,rfl,ps,rfl,hcap⟩,fun o s hi=>by cases hi⟩
    ·cases h
  ·cases h
 ·
  rename_i k i off path;obtain⟨e,id,he,hid,hi0,hi1,rfl⟩:=ra;have hlt:=Mm.lt k e id he hid;split at h
  ·rename_i et l hf;obtain⟨e',he',hn,hz,hrow⟩:=Mm.bx k _ hf;rw[he]at he';cases he';rcases hrow with⟨hno,_⟩|⟨id',hid',hget⟩
   ·rw[hid]at hno;cases hno
   ·rw[hid]at hid';cases hid';obtain⟨y,hy,h8⟩:=iB h;clear h;have h:=h8;clear h8;obtain⟨_,hy1,hylt⟩:=pR hy;split at h
    ·rename_i ty w o hty hp;cases hb:w.t.beq ty&&Nat.beq o off with
     |false=>rw[hb]at h;cases h
     |true=>
      rw[hb]at h;simp only[cdt]at h;simp only[bjE,cJ,djE]at hb;obtain⟨hwt,rfl⟩:=hb;have:=Ty.beq_eq hwt;split at h
      ·rename_i v hv;split at h
       ·rename_i c' hc';split at h
        ·rename_i z hz';obtain⟨hvt,hvr⟩:=fX hU hv rx.1;have hs:=VR.sr hvr;have hsr:=SR.self hU et y;have hs2:SR v.t v.x (enV U v.t v.x).cells:=SR.self hU v.t v.x;obtain⟨g1,g2,g3⟩:=aGn hU hc' hp hsr hs2;obtain⟨g4,g5⟩:=nM hU hp hsr;have ec:=jS hz';have hsz:jD P t=some (szT U ty):=hT.sz t ty hty;have hpn:p1.cells.length=szT U ty:=by rw[hs.len hU,hvt]
         have hfl:((l.map (enV U et)).flatMap PV.cells).length=l.length*szT U et:=by
          have:=cZ (z:=szT U et) (es:=l.map (enV U et)) (fun e' he'=>by obtain⟨a,_,rfl⟩:=List.mem_map.1 he';exact eK hU _ _)
          rw[List.length_map]at this;exact this
         have hmul:i.toNat*szT U et+szT U et≤l.length*szT U et:=by rw[←Nat.succ_mul];exact Nat.mul_le_mul_right _ hylt
         have hoz:o+szT U ty≤szT U et:=by rw[←this];exact g5
         have c1:(Nat.beq p1.cells.length (szT U ty)&&Nat.ble (i.toNat*e.z+o+szT U ty) ((l.map (enV U et)).flatMap PV.cells).length&&p1.cells.all PV.one)=true:=by
          rw[hs.one hU,hpn,Nat.beq_refl,Bool.true_and,bnA,Nat.ble_eq,hfl,hz];omega
         refine⟨_,p.upd id (.row e.z (mT et) (((l.map (enV U et)).flatMap PV.cells).take (i.toNat*e.z+o)++PI.wks p1.cells++((l.map (enV U et)).flatMap PV.cells).drop (i.toNat*e.z+o+szT U ty))),h,by simp only[jK,hget,hsz,c1,cdt],Mm.upd hf he hid ?_⟩
         refine⟨by rw[List.length_set];exact hn,hz,.inr ⟨id,hid,?_⟩⟩
         rw[fJ hlt,if_pos rfl];congr 2;have hz2:(enV U et z).cells=(enV U et y).cells.take o++PI.wks p1.cells++(enV U et y).cells.drop (o+szT U ty):=by
          have h6:=g3.wk;have e6:(⟨c'.t,c'.x⟩:TV U.D)=⟨et,z⟩:=ec;have h7:(enV U (⟨c'.t,c'.x⟩:TV U.D).t (⟨c'.t,c'.x⟩:TV U.D).x).cells=(enV U et z).cells:=by rw[e6]
          rw[←h7,←h6];simp only[jX,uI,uK,hvt];rw[aDR (pN hU et y),hs.wk];congr 2;exact aDR (pN hU v.t v.x)
         have hfs:((l.set i.toNat z).map (enV U et)).flatMap PV.cells=aE9 (eG (l.map (enV U et))) (i.toNat*szT U et) (enV U et z).cells:=by
          rw[List.map_set];exact aDW (fun e' he'=>by obtain⟨a,_,rfl⟩:=List.mem_map.1 he';exact eK hU _ _) (by rw[List.length_map];exact hylt) (eK hU _ _)
         rw[hfs,aGL _ _ _ (by rw[eK hU];show _≤((l.map (enV U et)).flatMap PV.cells).length;rw[hfl];exact hmul),eK hU,hz2,hz]
         show((l.map (enV U et)).flatMap PV.cells).take (i.toNat*szT U et+o)++_++((l.map (enV U et)).flatMap PV.cells).drop (i.toNat*szT U et+o+szT U ty)=_;rw[splice _ _ (i.toNat*szT U et) o (szT U et) (szT U ty) hoz (by rw[hfl];exact hmul),aCW hU hy1]
         rfl
        ·cases h
       ·cases h
      ·cases h
    ·cases h
  ·cases h
 ·cases h
end
end Go.TV
namespace Go.TV
open Go.AI Go.PI
section
variable{P:Program}{U:iN}{T:TP U.D}{c c0:Cx}{β:Type}{r:β}{q p:PSt}{M:TM U.D}
def oK(c:Cx)(k:Nat)(e:Ce):Cx:=fun j=>if j=k then some e else c j
theorem fG{k:Nat}{e:Ce}(h:c k=none):leC c (oK c k e):=fun j e' hj=>by
 unfold oK;by_cases e1:j=k
 ·subst e1;rw[h]at hj;cases hj
 ·rw[if_neg e1];exact hj
theorem aHt{p:PSt}{o:lP}{id:Nat}(h:id<p.next):(p.new o).get id=p.get id:=by
 rw[fK,if_neg (by omega)]
theorem MR.new(Mm:MR U q c0 c M p){k:Nat}(hk:100≤k)(hf:bG M.bx k=none){o:lP}{b:BC U.D}{n z:Nat}(hr:bcR U (oK c k ⟨some p.next,n,z⟩) (p.new o) ⟨some p.next,n,z⟩ b):
    MR U q c0 (oK c k ⟨some p.next,n,z⟩) ⟨(k,b)::M.bx,M.wr⟩ (p.new o)∧(WR U c M p→WR U (oK c k ⟨some p.next,n,z⟩) ⟨(k,b)::M.bx,M.wr⟩ (p.new o)):=by
 have hc:=Mm.dom k hf;refine⟨⟨fun j h=>?_,fun j y h=>?_,fun j e id h1 h2=>?_,fun j j' e e' id h1 h2 h3 h4=>?_,Nat.le_succ_of_le Mm.next,fun j e h1 h2=>?_,fun j e id h1 h2 h3=>?_,fun id hi ho=>?_,Mm.dirty,fun id hi=>?_⟩,fun hw id hi j e h1 h2=>?_⟩
 ·rw[cN]at h;by_cases e1:j=k
  ·rw[if_pos e1]at h;cases h
  ·rw[if_neg e1]at h;unfold oK;rw[if_neg e1];exact Mm.dom j h
 ·rw[cN]at h;by_cases e1:j=k
  ·rw[if_pos e1]at h;simp only[ojE]at h;subst h;exact⟨_,by unfold oK;rw[if_pos e1],hr⟩
  ·rw[if_neg e1]at h;obtain⟨e,g1,g2⟩:=Mm.bx j y h;exact⟨e,fG hc j e g1,oH (bcR_le (fG hc) g2) fun id hid=>aHt (Mm.lt j e id g1 hid)⟩
 ·unfold oK at h1;by_cases e1:j=k
  ·rw[if_pos e1]at h1;cases h1;cases h2;exact Nat.lt_succ_self _
  ·rw[if_neg e1]at h1;exact Nat.lt_succ_of_lt (Mm.lt j e id h1 h2)
 ·unfold oK at h1 h2;by_cases e1:j=k<;>by_cases e2:j'=k
  ·rw[e1,e2]
  ·rw[if_pos e1]at h1;rw[if_neg e2]at h2;cases h1;cases h3;have:=Mm.lt j' e' _ h2 h4;omega
  ·rw[if_neg e1]at h1;rw[if_pos e2]at h2;cases h2;cases h4;have:=Mm.lt j e _ h1 h3;omega
  ·rw[if_neg e1]at h1;rw[if_neg e2]at h2;exact Mm.inj j j' e e' id h1 h2 h3 h4
 ·unfold oK at h1;by_cases e1:j=k
  ·omega
  ·rw[if_neg e1]at h1;exact Mm.bor j e h1 h2
 ·unfold oK at h1;by_cases e1:j=k
  ·rw[if_pos e1]at h1;cases h1;cases h3;exact Mm.next
  ·rw[if_neg e1]at h1;exact Mm.loc j e id h1 h2 h3
 ·rw[aHt (Nat.lt_of_lt_of_le hi Mm.next)];exact Mm.old id hi ho
 ·obtain⟨g1,g2⟩:=Mm.wr id hi;exact⟨Nat.lt_succ_of_lt g1,g2⟩
 ·unfold oK at h1;by_cases e1:j=k
  ·rw[if_pos e1]at h1;cases h1;cases h2;have:=(Mm.wr _ hi).1;omega
  ·rw[if_neg e1]at h1;exact hw id hi j e h1 h2
theorem MR.new0(Mm:MR U q c0 c M p){k:Nat}(hk:100≤k)(hf:bG M.bx k=none){b:BC U.D}{n z:Nat}(hr:bcR U (oK c k ⟨none,n,z⟩) p ⟨none,n,z⟩ b):
    MR U q c0 (oK c k ⟨none,n,z⟩) ⟨(k,b)::M.bx,M.wr⟩ p∧(WR U c M p→WR U (oK c k ⟨none,n,z⟩) ⟨(k,b)::M.bx,M.wr⟩ p):=by
 have hc:=Mm.dom k hf;have un: ∀{j:Nat} {e:Ce} {id:Nat},oK c k ⟨none,n,z⟩ j=some e→e.id=some id→c j=some e:=by
  intro j e id h1 h2;unfold oK at h1;by_cases e1:j=k
  ·rw[if_pos e1]at h1;cases h1;cases h2
  ·rw[if_neg e1]at h1;exact h1
 refine⟨⟨fun j h=>?_,fun j y h=>?_,fun j e id h1 h2=>Mm.lt j e id (un h1 h2) h2,fun j j' e e' id h1 h2 h3 h4=>Mm.inj j j' e e' id (un h1 h3) (un h2 h4) h3 h4,Mm.next,fun j e h1 h2=>?_,fun j e id h1 h2 h3=>Mm.loc j e id (un h1 h3) h2 h3,Mm.old,Mm.dirty,Mm.wr⟩,fun hw id hi j e h1 h2=>hw id hi j e (un h1 h2) h2⟩
 ·rw[cN]at h;by_cases e1:j=k
  ·rw[if_pos e1]at h;cases h
  ·rw[if_neg e1]at h;unfold oK;rw[if_neg e1];exact Mm.dom j h
 ·rw[cN]at h;by_cases e1:j=k
  ·rw[if_pos e1]at h;simp only[ojE]at h;subst h;exact⟨_,by unfold oK;rw[if_pos e1],hr⟩
  ·rw[if_neg e1]at h;obtain⟨e,g1,g2⟩:=Mm.bx j y h;exact⟨e,fG hc j e g1,bcR_le (fG hc) g2⟩
 ·unfold oK at h1;by_cases e1:j=k
  ·omega
  ·rw[if_neg e1]at h1;exact Mm.bor j e h1 h2
theorem MR.gone(Mm:MR U q c0 c M p){k:Nat}{b:BC U.D}(hb:bG M.bx k=some b)(w:List Nat):MR U q c0 c ⟨sR M.bx k .gone,w⟩ p:=by
 refine⟨fun j h=>?_,fun j y h=>?_,Mm.lt,Mm.inj,Mm.next,Mm.bor,Mm.loc,Mm.old,Mm.dirty,Mm.wr⟩
 ·simp only[eQ]at h;by_cases hj:j=k
  ·rw[if_pos hj,hb]at h;cases h
  ·rw[if_neg hj]at h;exact Mm.dom j h
 ·simp only[eQ]at h;by_cases hj:j=k
  ·subst hj;rw[if_pos rfl,hb]at h;simp only[omS,ojE]at h;subst h;obtain⟨e,h1,_⟩:=Mm.bx j b hb;exact⟨e,h1,trivial⟩
  ·rw[if_neg hj]at h;exact Mm.bx j y h
variable(hU:eX U)(hT:uH P U T)
theorem jO{k:Nat}{b:BC U.D}{K:TM U.D→Option β}(h:newT U M k b K=some r):bG M.bx k=none∧K ⟨(k,b)::M.bx,M.wr⟩=some r:=by
 unfold newT at h;split at h
 ·rename_i e;exact⟨e,h⟩
 ·cases h
include hU hT
theorem alT_ok{S':PS}{o:Oper}{d:Option Tmp}{t:TypeId}{K:X U→TM U.D→Option β}(ho:o.op= .alloc t)(h:alT U T.T M d t K=some r)(Mm:MR U q c0 c M p):
    ∃c' x M' v p',K x M'=some r∧cI P p S' o=some (v,false,p')∧leC c c'∧slR U c' x (v,false)∧MR U q c0 c' M' p'∧(WR U c M p→WR U c' M' p'):=by
 unfold alT at h;split at h
 ·rename_i d;split at h
  ·rename_i ty hty;obtain⟨hf,hk⟩:=jO h;have hz:=hT.zc t ty hty;have hc:=Mm.dom _ hf;have hsr:=aF0 hU ty;obtain⟨g1,g2⟩:=Mm.new (o:= .box ((zcT U ty).map fun c=>fl c false)) (n:=0) (z:=0) (b:= .bx (.val ⟨ty,lS U ty⟩) (vM U ty)) (Nat.le_add_right 100 d) hf ⟨p.next,_,rfl,by rw[fK,if_pos rfl],⟨(hsr.fl false).wk,(hsr.fl false).z,fun y hy=>by
          obtain⟨z,_,rfl⟩:=List.mem_map.1 hy;exact nP z false⟩,fun i s hi=>⟨.emp,by rw[List.getElem?_map,aCG hU ty i s hi];rfl,fun _=>rfl⟩⟩
   exact⟨_,_,_,.ptr p.next 0,_,hk,by simp only[cI,ho,hz],fG hc,⟨⟨_,_,by unfold oK;rw[if_pos rfl],rfl,rfl⟩,aE _ _⟩,g1,g2⟩
  ·cases hfn:T.T.fn t with
   |false=>rw[hfn]at h;cases h
   |true=>
    rw[hfn]at h;obtain⟨hf,hk⟩:=jO h;obtain⟨_,_,hz⟩:=hT.fn t hfn;have hc:=Mm.dom _ hf;obtain⟨g1,g2⟩:=Mm.new (o:= .box [(.v .nilFunc,false)]) (n:=0) (z:=0) (b:= .bx .nf []) (Nat.le_add_right 100 d) hf ⟨p.next,_,rfl,by rw[fK,if_pos rfl],⟨_,rfl⟩,fun i s hi=>by cases hi⟩
    exact⟨_,_,_,.ptr p.next 0,_,hk,by simp only[cI,ho,hz];rfl,fG hc,⟨⟨_,_,by unfold oK;rw[if_pos rfl],rfl,rfl⟩,aE _ _⟩,g1,g2⟩
 ·cases h
omit hT in
theorem bxT_ok{S:TS U.D}{S':PS}(F:frR U c S S'){o:Oper}{d:Option Tmp}{t:TypeId}{x:Operand}{K:X U→TM U.D→Option β}(ho:o.op= .box t x)(h:bxT U T.T M d t (evT U S x) K=some r)(Mm:MR U q c0 c M p):
    ∃c' x M' v p',K x M'=some r∧cI P p S' o=some (v,false,p')∧leC c c'∧slR U c' x (v,false)∧MR U q c0 c' M' p'∧(WR U c M p→WR U c' M' p'):=by
 have rx:=aX F x;unfold bxT at h;split at h
 ·rename_i d;split at h
  ·rename_i ty hty;split at h
   ·rename_i v hv;obtain⟨hf,hk⟩:=jO h;obtain⟨hvt,hvr⟩:=fX hU hv rx.1;have hsr:=VR.sr hvr;have hc:=Mm.dom _ hf;have hrt:=(mJ rx).2;obtain⟨g1,g2⟩:=Mm.new (o:= .box ((pev S' x).cells.map fun c=>fl c false)) (n:=0) (z:=0) (b:= .bx (.val v) (pC U (evT U S x)).2) (Nat.le_add_right 100 d) hf ⟨p.next,_,rfl,by rw[fK,if_pos rfl],⟨(hsr.fl false).wk,(hsr.fl false).z,fun y hy=>by
            obtain⟨z,_,rfl⟩:=List.mem_map.1 hy;exact nP z false⟩,rts_fl hrt hvr⟩
    exact⟨_,_,_,.ptr p.next 0,_,hk,by simp only[cI,ho,hsr.one hU,cdt],fG hc,⟨⟨_,_,by unfold oK;rw[if_pos rfl],rfl,rfl⟩,aE _ _⟩,g1,g2⟩
   ·cases h
  ·split at h
   ·rename_i f caps hx;obtain⟨hf,hk⟩:=jO h;have h1:=rx.1;rw[hx]at h1;obtain⟨ps,hps,hcap⟩:=h1;have hc:=Mm.dom _ hf;obtain⟨g1,g2⟩:=Mm.new (o:= .box [(.fn f [] ps,false)]) (n:=0) (z:=0) (b:= .bx (.cl f caps) []) (Nat.le_add_right 100 d) hf ⟨p.next,_,rfl,by rw[fK,if_pos rfl],⟨_,_,rfl,ps,rfl,aCj (fG hc) hcap⟩,fun i s hi=>by cases hi⟩
    have hps:pev S' x= .fn f [] ps:=hps;exact⟨_,_,_,.ptr p.next 0,_,hk,by simp only[cI,ho,hps];rfl,fG hc,⟨⟨_,_,by unfold oK;rw[if_pos rfl],rfl,rfl⟩,aE _ _⟩,g1,g2⟩
   ·cases h
 ·cases h
omit hT in
theorem aCV(e:Ty): ∀n,dX (wks (zcT U e)) n=((aE6 (lS U e) n).map (enV U e)).flatMap PV.cells
 |0=>rfl
 |n+1=>by rw[dX,aE6,mpC,fmC,aCV e n,aFZ hU]
omit hU hT in
theorem uX{α:Type}(x:α): ∀n,(aE6 x n).length=n
 |0=>rfl
 |n+1=>by rw[aE6,lcS,uX x n]
theorem msT_ok{S:TS U.D}{S':PS}(F:frR U c S S'){o:Oper}{d:Option Tmp}{t:TypeId}{l k:Operand}{K:X U→TM U.D→Option β}(ho:o.op= .makeSlice t l k)(h:msT U T.T M d t (isZ l) T.el (evT U S l).1 (evT U S k).1 K=some r)(Mm:MR U q c0 c M p):
    ∃c' x M' v own p',K x M'=some r∧cI P p S' o=some (v,own,p')∧leC c c'∧slR U c' x (v,own)∧MR U q c0 c' M' p'∧(WR U c M p→WR U c' M' p'):=by
 have rl:=(aX F l).1;have rk:=(aX F k).1;unfold msT at h;split at h
 ·rename_i et eid n m hty hel hl hk;rw[hl]at rl;rw[hk]at rk;have el:pev S' l= .v (.int .i64 n):=eJ rl;have ek:pev S' k= .v (.int .i64 m):=eJ rk;clear rl rk hl hk;obtain⟨n',hn'⟩: ∃n':Int,n'=n:=⟨n,rfl⟩;subst hn';obtain⟨m',hm'⟩: ∃m':Int,m'=m:=⟨m,rfl⟩;subst hm';obtain⟨hc,h⟩:=bW h;simp only[bjE,djE]at hc;obtain⟨⟨⟨hc1,hc2⟩,hc3⟩,hc4⟩:=hc;obtain⟨eid',hu,hte,hel'⟩:=hT.un t _ hty;rw[hel]at hel';cases hel';obtain⟨info,z,hi,hsz,hby,hb1,hz,hzs,hzc,hzp⟩:=hT.inf eid et hte;have hag:=hT.ag eid et hte;have hps:=kP hU et;have c0: ∀(n' m':Int),0≤n'→n'≤m'→m'*(T.T.by' eid:Int)≤1073741824→m'≤1073741824→(decide (0≤n')&&decide (n'≤m')&&decide (m'*(info.bytes:Int)≤1073741824)&&decide (m'≤1073741824)&&z.cells.toList.all aB&&Nat.beq z.cells.size info.size&&Nat.ble 1 info.size&&(mT et||Nat.beq info.size 1))=true:=by
   intro n' m' hc1 hc2 hc3 hc4;rw[hzs,hsz,hby,hzp,Nat.beq_refl,(by rw[Nat.ble_eq];exact hps:Nat.ble 1 (szT U et)=true),decide_eq_true hc1,decide_eq_true hc2,decide_eq_true hc3,decide_eq_true hc4]
   cases et<;>rfl
  have c1:=c0 n' m' hc1 hc2 hc3 hc4;have hpal:cI P p S' o=bif decide (n'=0)then some (.sl info.size [],true,p)else bif decide (n'=m')then some (.rs p.next 0 n'.toNat,false,p.new (.row info.size (mT et) (dX (wks (ofVs z.cells.toList)) n'.toNat)))else none:=by
   simp only[cI,ho,hu,el,ek,hi,hag,hz,c1,cdt]
  have hnil:VR U (.sl et) [] (.sl (szT U et) []):=⟨rfl,fun j z' hj=>by
   cases j with
   |zero=>simp only[PV.cells,gcZ,ojE,PV.sl.injEq]at hj;exact⟨et,rfl,hj.1.symm⟩
   |succ j=>simp[PV.cells]at hj⟩
  cases hzl:isZ l with
  |true=>
   rw[hzl]at h;obtain⟨hn,h⟩:=bW h;have hn:=of_decide_eq_true hn;refine⟨c,_,_,.sl (szT U et) [],true,p,h,?_,leC.refl c,⟨hnil,?_⟩,Mm,fun hw=>hw⟩
   ·rw[hpal,decide_eq_true hn,cdt,hsz]
   ·intro i s hi;simp only[List.mem_singleton,pjE]at hi;exact .inr ⟨hi.1,rfl,rfl,fun e=>by rw[hi.2]at e;cases e⟩
  |false=>
   rw[hzl]at h;obtain⟨hn,h⟩:=bW h;have hn:=of_decide_eq_true hn;cases d with
   |none=>cases h
   |some d=>
    obtain⟨hf,hk⟩:=jO h;have hcn:=Mm.dom _ hf;by_cases h0:n'=0
    ·have h00:n'.toNat=0:=by omega
     obtain⟨g1,g2⟩:=Mm.new0 (b:= .row et (aE6 (lS U et) n'.toNat)) (n:=0) (z:=szT U et) (Nat.le_add_right 100 d) hf ⟨by rw[uX,h00],rfl,.inl ⟨rfl,by rw[h00];rfl⟩⟩
     refine⟨_,_,_,.sl (szT U et) [],true,p,hk,by rw[hpal,decide_eq_true h0,cdt,hsz],fG hcn,⟨⟨_,by unfold oK;rw[if_pos rfl],.inl ⟨rfl,rfl,.inl rfl⟩⟩,aE _ _⟩,g1,g2⟩
    ·obtain⟨g1,g2⟩:=Mm.new (o:= .row (szT U et) (mT et) (dX (wks (ofVs z.cells.toList)) n'.toNat)) (b:= .row et (aE6 (lS U et) n'.toNat)) (n:=n'.toNat) (z:=szT U et) (Nat.le_add_right 100 d) hf ⟨by rw[uX],rfl,.inr ⟨p.next,rfl,by rw[fK,if_pos rfl,hzc,aCV hU]⟩⟩
     refine⟨_,_,_,.rs p.next 0 n'.toNat,false,_,hk,by rw[hpal,decide_eq_false h0,cdf,decide_eq_true hn,cdt,hsz],fG hcn,⟨⟨_,by unfold oK;rw[if_pos rfl],.inr ⟨_,rfl,by
      have k1:(0:Int)≤n':=hc1;have k2: ¬(n':Int)=0:=h0;simp only;omega,rfl⟩⟩,aE _ _⟩,g1,g2⟩
 ·cases h
omit hT in
theorem kI{n:Nat}: ∀(l:List (U.D n)),lL (U.sz n) l.length ((l.map (enV U (.rc n))).flatMap PV.cells)=l.map (enV U (.rc n))
 |[]=>rfl
 |x::l=>by
  rw[lcS,lL,mpC,fmC];have hl:(enV U (.rc n) x).cells.length=U.sz n:=eK hU (.rc n) x;rw[List.take_left' hl,List.drop_left' hl,kI l];rfl
omit hU hT in
theorem aDY{t:Ty}(h:mT t=false): ∀(l:List (Den U.D t)),(l.map (enV U t)).flatMap PV.cells=l.map (enV U t)
 |[]=>rfl
 |x::l=>by
  rw[mpC,fmC,aDY h l];have:(enV U t x).cells=[enV U t x]:=by
   cases t with
   |rc n=>cases h
   |sl t=>exact iF (bR _ _)
   |_=>rfl
  rw[this];rfl
omit hU hT in
theorem aDT{p:PSt}{x:PV×Bool}(h: ∀id off len,x.1≠ .rs id off len):frz p x=some (x,p):=by
 obtain⟨pv,b⟩:=x;cases pv with
 |rs id off len=>exact(h id off len rfl).elim
 |_=>rfl
omit hU hT in
theorem aAR{S0:TS U.D}{S':PS}{t:Nat}(F:frR U c S0 S'):frR U c S0 (S'.set t (S'.at t)):=fun k=>by
 rw[kU];by_cases e:k=t
 ·rw[if_pos e,←e];exact F k
 ·rw[if_neg e];exact F k
omit hT in
theorem aHv{S:TS U.D}{S':PS}(F:frR U c S S'){t:Nat}{R:TS U.D×TM U.D}(h:frT U S M t=some R)(Mm:MR U q c0 c M p):
    ∃S'' p',fA p S' t=some (S'',p')∧frR U c R.1 S''∧MR U q c0 c R.2 p'∧(WR U c M p→WR U c R.2 p'):=by
 have hs:=F t;have same: ∀{x:SV U.D} {r:Rts},mU S t=(x,r)→(∀id off len,(S'.at t).1≠ .rs id off len)→R=((t,(x,r))::S,M)→
      ∃S'' p',fA p S' t=some (S'',p')∧frR U c R.1 S''∧MR U q c0 c R.2 p'∧(WR U c M p→WR U c R.2 p'):=by
  intro x r hx hne hR;subst hR;refine⟨S'.set t (S'.at t),p,by simp only[fA,aDT hne],?_,Mm,fun hw=>hw⟩
  exact aAR (aDU F (show slR U c (x,r) (S'.at t) by rw[←hx];exact hs))
 unfold frT at h;split at h
 ·rename_i k rr hx;split at h
  ·rename_i e l hf;simp only[ojE]at h;subst h;have h1:=hs.1;rw[hx]at h1;obtain⟨ce,hce,h1⟩:=h1;obtain⟨ce',hce',hn,hz,hrow⟩:=Mm.bx k _ hf;rw[hce]at hce';cases hce';rcases h1 with⟨hid,hn0,hp⟩|⟨id,hid,hn1,hp⟩
   ·have hl:l=[]:=List.length_eq_zero_iff.1 (by omega)
    subst hl;refine⟨S'.set t (S'.at t),p,by rw[fA,aDT (by rcases hp with hp|hp<;>(rw[hp];intro _ _ _ e;cases e))],?_,Mm.gone hf _,fun hw i hi j e' g1 g2=>by
     show(Nat.beq k j||bL j M.wr)=true;rw[hw i hi j e' g1 g2,Bool.or_true]⟩
    refine lI F ⟨?_,aE _ _⟩;show VR U (.sl e) [] (S'.at t).1;rcases hp with hp|hp
    ·rw[hp,hz];exact⟨rfl,fun j z' hj=>by
      cases j with
      |zero=>simp only[PV.cells,gcZ,ojE,PV.sl.injEq]at hj;exact⟨e,rfl,hj.1.symm⟩
      |succ j=>simp[PV.cells]at hj⟩
    ·rw[hp];exact wQ e [] (z:=szT U e) (es:=[]) rfl rfl
   ·rcases hrow with⟨hno,_⟩|⟨id',hid',hget⟩
    ·rw[hid]at hno;cases hno
    ·rw[hid]at hid';cases hid';have hfl:((l.map (enV U e)).flatMap PV.cells).length=l.length*szT U e:=by
      have:=cZ (z:=szT U e) (es:=l.map (enV U e)) (fun e' he'=>by obtain⟨a,_,rfl⟩:=List.mem_map.1 he';exact eK hU _ _)
      rw[List.length_map]at this;exact this
     have hpur:((l.map (enV U e)).flatMap PV.cells).all PV.pur=true:=by
      rw[List.all_eq_true];intro x hx;obtain⟨y,hy,hx⟩:=List.mem_flatMap.1 hx;obtain⟨a,_,rfl⟩:=List.mem_map.1 hy;exact gd_pur (List.all_eq_true.1 (pN hU e a) x hx)
     have hps:=kP hU e;have c1:(Nat.ble (0+ce.n*ce.z) ((l.map (enV U e)).flatMap PV.cells).length&&Nat.ble 1 ce.z&&(mT e||Nat.beq ce.z 1)&&((l.map (enV U e)).flatMap PV.cells).all PV.pur)=true:=by
      rw[hfl,hpur,hz,hn,Nat.zero_add,(by rw[Nat.ble_eq];exact nlR _:Nat.ble (l.length*szT U e) (l.length*szT U e)=true),(by rw[Nat.ble_eq];exact hps:Nat.ble 1 (szT U e)=true)]
      cases e<;>rfl
     have hval:(bif mT e then lL ce.z ce.n ((((l.map (enV U e)).flatMap PV.cells).drop 0).take (ce.n*ce.z))else((((l.map (enV U e)).flatMap PV.cells).drop 0).take (ce.n*ce.z)))=l.map (enV U e):=by
      rw[List.drop_zero,List.take_of_length_le (by rw[hfl,hn,hz];exact nlR _)]
      cases hr:mT e with
      |true=>
       cases e with
       |rc n=>rw[cdt,hz,hn];exact kI hU l
       |_=>cases hr
      |false=>rw[cdf];exact aDY hr l
     have hat:S'.at t=(.rs id 0 ce.n,(S'.at t).2):=by rw[←hp]
     obtain⟨m1,m2⟩:=Mm.upd (o:= .gone) (b':= .gone) hf hce hid trivial;refine⟨S'.set t (cQ ce.z (l.map (enV U e)),false),p.upd id .gone,?_,?_,m1,m2⟩
     ·rw[fA,hat];simp only[frz,hget,c1,cdt,hval]
     ·exact lI F ⟨wQ _ _ hz rfl,aE _ _⟩
  ·cases h
 ·rename_i v rr hx;simp only[ojE]at h;refine same hx ?_ h.symm;intro id off len e;have h1:=hs.1;rw[hx]at h1;have h2:VR U v.t v.x (S'.at t).1:=h1;have h3:=h2.wk;rw[e]at h3;obtain⟨vt,vx⟩:=v;cases vt with
  |sl t=>have:=bR (szT U t) (List.map (enV U t) vx);simp only[enV]at h3;rw[←h3]at this;cases this
  |_=>cases h3
 ·rename_i rr hx;simp only[ojE]at h;refine same hx ?_ h.symm;intro id off len e;have h1:=hs.1;rw[hx]at h1;have h2:(S'.at t).1= .nil:=h1;rw[h2]at e;cases e
 ·rename_i f caps rr hx;simp only[ojE]at h;refine same hx ?_ h.symm;intro id off len e;have h1:=hs.1;rw[hx]at h1;obtain⟨ps,h2,_⟩:=h1;rw[h2]at e;cases e
 ·cases h
end
end Go.TV
namespace Go.TV
open Go.AI Go.PI
section
variable{P:Program}{U:iN}{T:TP U.D}{c c0:Cx}{β:Type}{r:β}{q p:PSt}{M:TM U.D}
theorem vG{S':PS}{x:Operand}(h:(hJ S' x||gJ (pev S' x))=true):hJ S' x=true:=by
 cases x with
 |tmp t=>simpa [hJ,pev,Bool.or_assoc]using h
 |const v=>
  cases v with
  |slice b l k=>
   cases b with
   |none=>rfl
   |some b=>simp[hJ,pev,ofV,gJ]at h
  |_=>simp[hJ,pev,ofV,gJ]at h
 |global g=>simp[hJ,pev,gJ]at h
 |func f=>simp[hJ,pev,gJ]at h
variable(hU:eX U)(hT:uH P U T)
include hU hT
theorem apT_ok{S:TS U.D}{S':PS}(F:frR U c S S'){cl:Call}{s x:Operand}{K:X U→Option β}(h:apT U T.T T.el cl.argTypes.toList (evT U S s) (evT U S x).1 K=some r):
    ∃y v own,K y=some r∧nE P S' cl s x=some (v,own,oT S' s)∧slR U c y (v,own):=by
 have rs:=aX F s;have rx:=(aX F x).1;unfold apT at h;split at h
 ·rename_i t t1 hts;split at h
  ·rename_i et eid e1 hty hel hty1;split at h
   ·rename_i a l b w hs hx;split at h
    ·rename_i l' w' hl hw;obtain⟨hst,hsv⟩:=fX hU hs rs.1;obtain⟨hxt,hxv⟩:=fX hU hx rx;have e2:=jS hl;have e3:=jS hw;have hsv:VR U (.sl et) l' (pev S' s):=by
      have:VR U (⟨a,l⟩:TV U.D).t (⟨a,l⟩:TV U.D).x (pev S' s):=hsv;rw[e2]at this;exact this
     have hxv:VR U (.sl et) w' (pev S' x):=by
      have:VR U (⟨b,w⟩:TV U.D).t (⟨b,w⟩:TV U.D).x (pev S' x):=hxv;rw[e3]at this;exact this
     obtain⟨eid',hu,hte,hel'⟩:=hT.un t _ hty;rw[hel]at hel';cases hel';obtain⟨eid1,hu1,_⟩:=hT.un t1 _ hty1;obtain⟨info,z,hi,hsz,hby,hb1,hz,hzs,hzc,hzp⟩:=hT.inf eid et hte;obtain⟨g1,g2⟩:=pB hsv;obtain⟨k1,k2⟩:=pB hxv;have c1:(Nat.ble 1 info.size&&Nat.ble 1 info.bytes&&Nat.beq z.cells.size info.size)=true:=by
      rw[hzs,Nat.beq_refl,hsz,(by rw[Nat.ble_eq];exact kP hU et:Nat.ble 1 (szT U et)=true),(by rw[Nat.ble_eq];exact hb1:Nat.ble 1 info.bytes=true)];rfl
     have hna:isAgg (pev S' s)=false:=gU (v:=⟨.sl et,l'⟩) hsv rfl;have hpa:nE P S' cl s x=(match w'.map (enV U et)with
              |[]=>some (pev S' s,hJ S' s,oT S' s)
              |xs=>bif hJ S' s&&Nat.ble (((l'.map (enV U et)).length+(w'.map (enV U et)).length)*info.bytes) 1073741824 then some (cQ info.size (l'.map (enV U et)++w'.map (enV U et)),true,oT S' s)else none):=by
      have e4:lK info.size (pev S' s)=some (l'.map (enV U et)):=by rw[hsz];exact g1
      have e5:nA info.size (.slice eid1) (pev S' x)=some (w'.map (enV U et)):=by rw[hsz];exact k1
      simp only[nE,hts,hu,hu1,hi,e4,e5,hz,c1,cdt];rfl
     cases hm:aHh 0 (evT U S s).2 with
     |true=>
      rw[hm]at h;obtain⟨hc,h⟩:=bW h;obtain⟨st,hst2⟩:=mG.1 hm;have how:hJ S' s=true:=by
       rcases rs.2 0 st hst2 with⟨h1,_⟩|⟨_,_,h1,_⟩
       ·rw[hna]at h1;cases h1
       ·exact vG h1
      cases w' with
      |nil=>
       refine⟨_,pev S' s,hJ S' s,h,by rw[hpa];rfl,?_,rs.2⟩
       show VR U (.sl et) (l'++ []) (pev S' s);rw[apN];exact hsv
      |cons w0 w'=>
       refine⟨_,cQ info.size (l'.map (enV U et)++(w0::w').map (enV U et)),true,h,?_,wQ _ _ hsz (by rw[←List.map_append]),?_⟩
       ·rw[hpa,how];simp only[mpC,List.length_map,lcS,hby];have hc':Nat.ble ((l'.length+(w'.length+1))*T.T.by' eid) 1073741824=true:=hc
        rw[hc'];rfl
       ·intro o s' hi';have hg:=bR info.size (l'.map (enV U et)++(w0::w').map (enV U et));rcases rs.2 o s' hi' with⟨h1,_⟩|⟨h1,_⟩
        ·rw[hna]at h1;cases h1
        ·refine .inr ⟨h1,?_,rfl,fun _=>tO hg⟩
         cases hc:cQ info.size (l'.map (enV U et)++(w0::w').map (enV U et))<;>first|rfl|(rw[hc]at hg;cases hg)
     |false=>
      rw[hm]at h;obtain⟨hc,h⟩:=bW h;cases w' with
      |nil=>exact⟨_,pev S' s,hJ S' s,h,by rw[hpa];rfl,hsv,aE _ _⟩
      |cons w0 w'=>cases hc
    ·cases h
   ·cases h
  ·cases h
 ·cases h
theorem ap1T_ok{S:TS U.D}{S':PS}(F:frR U c S S'){ts:List TypeId}{t1 t2:TypeId}{s zz n x:Operand}{K:V U→V U→Option β}(h:ap1T U T.T T.el ts t1 t2 (evT U S s) (evT U S zz).1 (evT U S n).1 (evT U S x).1 K=some r):
    ∃y w v,K y w=some r∧pappV P ts t1 t2 (pev S' s) (hJ S' s) (pev S' zz) (pev S' n) (pev S' x)=some v∧slR U c (.val y,[(0,true)]) (v,true)∧svR U c (.ep w) (pinL v):=by
 have rs:=aX F s;have rz:=(aX F zz).1;have rn:=(aX F n).1;have rx:=(aX F x).1;unfold ap1T at h;split at h
 ·rename_i t tz;split at h
  ·rename_i et eid e1 hty hel hty1;split at h
   ·rename_i a l b y kk k v hs hz hn hx;split at h
    ·rename_i l' y0 w' hl hy hw;rw[hn]at rn;cases hb:aHh 0 (evT U S s).2&&Nat.beq t1 t&&Nat.beq t2 eid with
     |false=>rw[hb]at h;cases h
     |true=>
      rw[hb]at h;simp only[bjE,cJ,djE]at hb;obtain⟨⟨hm,rfl⟩,rfl⟩:=hb;obtain⟨hc,h⟩:=bW h;simp only[bjE,djE]at hc;obtain⟨hst,hsv⟩:=fX hU hs rs.1;obtain⟨hzt,hzv⟩:=fX hU hz rz;obtain⟨hxt,hxv⟩:=fX hU hx rx;have e2:=jS hl;have e3:=jS hy;have e4:=jS hw;have hsv:VR U (.sl et) l' (pev S' s):=by
       have:VR U (⟨a,l⟩:TV U.D).t (⟨a,l⟩:TV U.D).x (pev S' s):=hsv;rw[e2]at this;exact this
      have hzv:VR U (.sl et) [y0] (pev S' zz):=by
       have:VR U (⟨b,y⟩:TV U.D).t (⟨b,y⟩:TV U.D).x (pev S' zz):=hzv;rw[e3]at this;exact this
      have hxv:VR U et w' (pev S' x):=by
       have:VR U (⟨v.t,v.x⟩:TV U.D).t (⟨v.t,v.x⟩:TV U.D).x (pev S' x):=hxv;rw[e4]at this;exact this
      obtain⟨eid',hu,hte,hel'⟩:=hT.un t1 _ hty;rw[hel]at hel';cases hel';obtain⟨eid1,hu1,_⟩:=hT.un tz _ hty1;obtain⟨info,z,hi,hsz,hby,hb1,hz',hzs,hzc,hzp⟩:=hT.inf t2 et hte;obtain⟨g1,g2⟩:=pB hsv;obtain⟨k1,_⟩:=pB hzv;have hna:isAgg (pev S' s)=false:=gU (v:=⟨.sl et,l'⟩) hsv rfl;obtain⟨st,hst2⟩:=mG.1 hm;have how:hJ S' s=true:=by
       rcases rs.2 0 st hst2 with⟨h1,_⟩|⟨_,_,h1,_⟩
       ·rw[hna]at h1;cases h1
       ·exact vG h1
      have e5:lK info.size (pev S' s)=some (l'.map (enV U et)):=by rw[hsz];exact g1
      have e6:nA info.size (.slice eid1) (pev S' zz)=some [enV U et y0]:=by rw[hsz];exact k1
      have e7:pev S' n= .v (.int kk k):=eJ rn;have hlen:((l'.map (enV U et)).length+1)*info.bytes=(l'.length+1)*T.T.by' t2:=by rw[List.length_map,hby]
      have hlen2:(k:Int)=((l'.map (enV U et)).length:Int):=by rw[List.length_map];exact hc.2
      have c1:(Nat.ble 1 info.size&&Nat.ble 1 info.bytes&&Nat.beq z.cells.size info.size&&hJ S' s&&Nat.ble (((l'.map (enV U et)).length+1)*info.bytes) 1073741824&&Nat.beq t1 t1&&Nat.beq t2 t2&&decide ((k:Int)=((l'.map (enV U et)).length:Int))&&PI.shape (mT et) info.size (pev S' x))=true:=by
       rw[hlen,hc.1,decide_eq_true hlen2,hzs,hsz,lX hU hxv,how,(by rw[Nat.ble_eq];exact kP hU et:Nat.ble 1 (szT U et)=true),(by rw[Nat.ble_eq];exact hb1:Nat.ble 1 info.bytes=true)]
       simp only[Nat.beq_refl,Bool.and_self]
      have hne:l'.map (enV U et)++ [wk (pev S' x)]≠ []:=by simp
      have hmk:PV.sl info.size (l'.map (enV U et)++ [wk (pev S' x)])=cQ info.size (l'.map (enV U et)++ [wk (pev S' x)]):=by
       cases hh:l'.map (enV U et)++ [wk (pev S' x)]with
       |nil=>exact(hne hh).elim
       |cons a b=>rfl
      refine⟨_,_,cQ info.size (l'.map (enV U et)++ [wk (pev S' x)]),h,?_,⟨wQ _ _ hsz (by rw[List.map_append,hxv.wk];rfl),?_⟩,?_⟩
      ·simp only[pappV,hu,hu1,hi,hT.ag _ _ hte,e5,e6,hz',e7];rw[c1,←hmk];rfl
      ·intro o s' hi';simp only[List.mem_singleton,pjE]at hi';have hg:=bR info.size (l'.map (enV U et)++ [wk (pev S' x)]);refine .inr ⟨hi'.1,?_,rfl,fun _=>tO hg⟩
       cases hc:cQ info.size (l'.map (enV U et)++ [wk (pev S' x)])<;>first|rfl|(rw[hc]at hg;cases hg)
      ·rw[←hmk];refine⟨_,_,0,wk (pev S' x),rfl,by simp,?_⟩
       rw[hxv.wk,List.drop_zero];exact List.take_of_length_le (Nat.le_of_eq (eK hU et w'))
    ·cases h
   ·cases h
  ·cases h
 ·cases h
end
end Go.TV
namespace Go.TV
open Go.AI Go.PI
section
variable{P:Program}{U:iN}{T:TP U.D}{c c0:Cx}{β:Type}{r:β}{q p:PSt}{M:TM U.D}
structure aAA(U:iN)(s:Sig)(d:List (V U))(p:PSt)(cc:Cx)(args:List (PV×Bool))(S0:TS U.D)(M0:TM U.D):Prop where
 start:unT' U (cutOf s) d=some (S0,M0)
 len:args.length=s.ps.length
 args: ∀i y,args[i]?=some y→slR U cc (mU S0 i) y
 bx: ∀j b,bG M0.bx j=some b→∃e,cc j=some e∧bcR U cc p e b
 dom: ∀j,s.bx.length≤j→cc j=none
 lt: ∀j e id,cc j=some e→e.id=some id→id<p.next
 inj: ∀k k' e e' id,cc k=some e→cc k'=some e'→e.id=some id→e'.id=some id→k=k'
 wr: ∀id,id∈p.wr→id<p.next
structure aJD(U:iN)(s:Sig)(out:List (V U))(p:PSt)(cc:Cx)(pv:PV)(own:Bool)(p':PSt):Prop where
 res:slR U cc (aFS U s.own (out.take s.rs.length)) (pv,own)
 out: ∃m,eY U s.bx s.bo (out.drop s.rs.length)=some m∧∀j x,m[j]?=some x→∃e,cc j=some e∧bcR U cc p' e x
 next:p'.next=p.next
 get: ∀id,id<p.next→(∀j e,cc j=some e→e.id≠some id)→p'.get id=p.get id
 get2: ∀id,id<p.next→id∉p'.dirty→p'.get id=p.get id
 dirty: ∀id,id∈p'.dirty→id∈p.dirty∨∃j e,cc j=some e∧e.id=some id
 dirty2: ∀id,id∈p.dirty→id∈p'.dirty
 wr: ∀id,id∈p'.wr→id∈p.wr∨∃j e,cc j=some e∧e.id=some id
def CallOK(U:iN)(T:TP U.D)(tc:lO U.D)(pc:eH):Prop:=
 ∀inst s d out,T.sig inst=some s→tc inst d=some out→∀p cc args S0 M0,aAA U s d p cc args S0 M0→∃pv own p',pc s.f args p=some (pv,own,p')∧aJD U s out p cc pv own p'
def lM(c:Cx)(bk:List Nat):Cx:=fun j=>if j<bk.length then c (kE bk j)else none
theorem pQ: ∀(l:List Nat) (i:Nat),i<l.length→l[i]?=some (kE l i)
 |x::l,0,_=>rfl
 |x::l,i+1,h=>by rw[gcS];exact pQ l i (by simpa using h)
 |[],i,h=>by simp at h
theorem nQ: ∀{a b:List Nat},aAI a b=true→a=b
 |[],[],_=>rfl
 |x::a,y::b,h=>by
  simp only[aAI,bjE,cJ,djE]at h;rw[h.1,nQ h.2]
 |[],_::_,h=>by cases h
 |_::_,[],h=>by cases h
theorem eS{i:Nat}: ∀{l:List Nat},bL i l=true↔i∈l
 |[]=>by simp[bL]
 |x::l=>by
  simp only[bL,Bool.or_eq_true,cJ,djE,eS (l:=l),List.mem_cons];exact or_congr eq_comm Iff.rfl
theorem qQ: ∀{l:List Nat},aHc l=true→l.Nodup
 |[],_=>List.nodup_nil
 |x::l,h=>by
  simp only[aHc,bjE,Bool.not_eq_true']at h;refine List.nodup_cons.2 ⟨fun hm=>?_,qQ h.2⟩
  rw[eS.2 hm]at h;cases h.1
theorem nth_inj{bk:List Nat}(h:bk.Nodup){i j:Nat}(hi:i<bk.length)(hj:j<bk.length)(e:kE bk i=kE bk j):i=j:=by
 have h1:=pQ bk i hi;have h2:=pQ bk j hj;rw[←e,←h1]at h2;exact((List.getElem?_inj hj h).1 h2).symm
theorem aCk{bk:List Nat}: ∀{caps:List Nat} {ps:List PV},rW caps bk.length=true→(aAJ c (mapN (kE bk) caps) ps↔aAJ (lM c bk) caps ps)
 |[],[],_=>Iff.rfl
 |k::ks,x::ps,h=>by
  simp only[rW,bjE,fP,djE]at h;simp only[mapN,aAJ,lM,if_pos h.1];exact and_congr Iff.rfl (aCk h.2)
 |[],_::_,_=>Iff.rfl
 |_::_,[],_=>Iff.rfl
theorem aD9{bk:List Nat}: ∀{caps:List Nat} {ps:List PV},aAJ (lM c bk) caps ps→aAJ c (mapN (kE bk) caps) ps
 |[],[],_=>trivial
 |k::ks,x::ps,⟨⟨e,id,h1,h2,h3⟩,h4⟩=>by
  unfold lM at h1;split at h1
  ·exact⟨⟨e,id,h1,h2,h3⟩,aD9 h4⟩
  ·cases h1
 |[],_::_,h=>h.elim
 |_::_,[],h=>h.elim
theorem aId{bk:List Nat}{s:SV U.D}{cs:List (PV×Bool)}(h:rQ U (lM c bk) s cs):rQ U c (renS U bk s) cs:=by
 cases s with
 |cl f caps=>obtain⟨p,b,e,ps,h1,h2⟩:=h;exact⟨p,b,e,ps,h1,aD9 h2⟩
 |_=>exact h
theorem VR_wk{t:Ty}{x:Den U.D t}{p:PV}(hU:eX U)(h:VR U t x p):VR U t x (wk p):=by
 refine⟨by rw[h.wk,en_wk hU],?_⟩
 rw[h.wk];exact wV (pN hU t x)
def argR(U:iN)(c:Cx)(take:Bool):List (X U)→List (PV×Bool)→Prop
 |[],[]=>True
 |x::xs,y::ys=>(∃pv ow,svR U c x.1 pv∧rtR x.2 pv ow∧y=(wk pv,take&&ow&& !isE pv)∧(take=false→x.2=[])∧(gJ pv=true→ow=true))∧argR U c take xs ys
 |_,_=>False
theorem rT{take:Bool}: ∀{xs xs':List (X U)} {ys ys':List (PV×Bool)},argR U c take xs ys→argR U c take xs' ys'→argR U c take (xs++xs') (ys++ys')
 |[],_,[],_,_,h=>h
 |x::xs,_,y::ys,_,h,h'=>⟨h.1,rT h.2 h'⟩
 |[],_,_::_,_,h,_=>h.elim
 |_::_,_,[],_,h,_=>h.elim
theorem aDq{take:Bool}: ∀{args:List Operand} {S:TS U.D} {S':PS},frR U c S S'→frR U c (aFa U take S args).2 (iU take S' args).2∧argR U c take (aFa U take S args).1 (iU take S' args).1
 |[],S,S',F=>⟨F,trivial⟩
 |x::xs,S,S',F=>by
  have F1:frR U c (bif take then qT U S x else S) (bif take then oT S' x else S'):=by
   cases take with
   |true=>exact kH F x
   |false=>exact F
  obtain⟨h1,h2⟩:=aDq (args:=xs) F1;have:=aX F x;refine⟨h1,⟨pev S' x,hJ S' x,this.1,?_,rfl,fun e=>by rw[e];rfl,fun h=>vG (by rw[h,Bool.or_true])⟩,h2⟩
  cases take with
  |true=>exact this.2
  |false=>exact aE _ _
theorem aIe{take:Bool}: ∀{caps:List Nat} {ps:List PV},aAJ c caps ps→argR U c take (caps.map fun k=>(SV.lc k 0 [],[])) (nH ps)
 |[],[],_=>trivial
 |k::ks,x::ps,⟨⟨e,id,h1,h2,h3⟩,h4⟩=>by
  refine⟨⟨x,false,⟨e,id,h1,h2,h3⟩,aE _ _,by rw[Bool.and_false,Bool.false_and],fun _=>rfl,fun h=>by rw[h3]at h;cases h⟩,aIe h4⟩
 |[],_::_,h=>h.elim
 |_::_,[],h=>h.elim
theorem tN{S:TS U.D}{i k:Nat}{x:X U}(h:k≠i):mU ((i,x)::S) k=mU S k:=by rw[mN,if_neg h]
theorem jY: ∀{rs:Rts},kQ rs=true→(0,true)∈rs
 |x::rs,h=>by
  obtain⟨a,b⟩:=x;simp only[kQ,Bool.or_eq_true,bjE,cJ,djE]at h;rcases h with⟨rfl,rfl⟩|h
  ·exact mhE ..
  ·exact mtE _ (jY h)
theorem yJ(hU:eX U){bk:List Nat}{take:Bool}: ∀{ps:List (Sh×Bool)} {xs:List (X U)} {ys:List (PV×Bool)} {d:List (V U)} (i0:Nat) (rest:List (V U)),iQ U bk ps xs=some d→argR U c take xs ys→
    ys.length=ps.length∧∃S0,unS U (cutOf.psL ps i0) (d++rest)=some (S0,rest)∧∀i y,ys[i]?=some y→slR U (lM c bk) (mU S0 (i0+i)) y
 |[],[],[],d,i0,rest,h,_=>by
  simp only[iQ,ojE]at h;subst h;exact⟨rfl,[],rfl,fun i y hy=>by simp at hy⟩
 |(s,own)::ps,x::xs,y::ys,d,i0,rest,h,⟨⟨pv,ow,r1,r2,hy0,r3,r4⟩,hr⟩=>by
  subst hy0;have fin: ∀(sv:SV U.D) (dv dl:List (V U)),iQ U bk ps xs=some dl→d=dv++dl→unV U s (dv++(dl++rest))=some (sv,dl++rest)→svR U (lM c bk) sv (wk pv)→(own=true→kQ x.2=true∧isAgg pv=false)→
        ((wk pv,take&&ow&& !isE pv)::ys).length=((s,own)::ps).length∧∃S0,unS U (cutOf.psL ((s,own)::ps) i0) (d++rest)=some (S0,rest)∧∀i y,((wk pv,take&&ow&& !isE pv)::ys)[i]?=some y→slR U (lM c bk) (mU S0 (i0+i)) y:=by
   intro sv dv dl hm hd hu hs ho;obtain⟨g1,S0,g2,g3⟩:=yJ hU (i0+1) rest hm hr;refine⟨by rw[lcS,lcS,g1],(i0,(sv,ownR own))::S0,?_,?_⟩
   ·rw[hd,apA];simp only[cutOf.psL,unS,hu,g2]
   ·intro i y hy;cases i with
    |zero=>
     simp only[gcZ,ojE]at hy;subst hy;rw[mN,if_pos (Nat.add_zero _)];refine⟨hs,?_⟩;cases own with
     |false=>exact aE _ _
     |true=>
      obtain⟨h1,h2⟩:=ho rfl;have hm:=jY h1;intro o st hi;simp only[ownR,List.mem_singleton,pjE]at hi;have htk:take=true:=by
       cases take with
       |true=>rfl
       |false=>rw[r3 rfl]at hm;cases hm
      rcases r2 _ _ hm with⟨h3,_⟩|⟨_,_,h3,h4⟩
      ·rw[h2]at h3;cases h3
      ·have how:ow=true:=by
        cases hh:gJ pv with
        |true=>exact r4 hh
        |false=>rw[hh,Bool.or_false]at h3;exact h3
       refine .inr ⟨hi.1,?_,?_,fun _=>?_⟩
       ·cases pv with
        |agg cs=>cases h2
        |sl z es=>cases es<;>rfl
        |_=>rfl
       ·rw[htk,how,h4 rfl];rfl
       ·exact isE_wk pv
    |succ i=>
     rw[gcS]at hy;have:=g3 i y hy;rw[tN (by omega),show i0+(i+1)=i0+1+i by omega]
     exact this
  obtain⟨sx,rx⟩:=x;cases s with
  |val t=>
   simp only[iQ]at h;split at h
   ·rename_i v l hv hl;cases hb: !own||(kQ rx&& !mT t)with
    |false=>rw[hb]at h;cases h
    |true=>
     rw[hb]at h;simp only[cdt,ojE]at h;obtain⟨h1,h2⟩:=fX hU hv r1;refine fin (.val v) [v] l hl h.symm ?_ (VR_wk hU h2) ?_
     ·simp only[sgA,unV,h1,Ty.beq_rfl,cdt]
     ·intro ho;rw[ho]at hb;simp only[bnT,Bool.false_or,bjE,Bool.not_eq_true']at hb;exact⟨hb.1,gU h2 (by rw[h1];exact hb.2)⟩
   ·cases h
  |lc j off path=>
   cases sx with
   |lc k off' path'=>
    simp only[iQ]at h;cases hb: !own&&Nat.blt j bk.length&&Nat.beq k (kE bk j)&&Nat.beq off off'&&aAI path path' with
    |false=>rw[hb]at h;cases h
    |true=>
     rw[hb]at h;simp only[cdt]at h;simp only[bjE,fP,cJ,djE,Bool.not_eq_true']at hb;obtain⟨⟨⟨⟨h0,h1⟩,h2⟩,h3⟩,h4⟩:=hb;obtain⟨e,id,g1,g2,g3⟩:=r1;refine fin (.lc j off path) [] d h rfl rfl ⟨e,id,?_,g2,by rw[g3,h3];rfl⟩ (fun ho=>by rw[h0]at ho;cases ho)
     unfold lM;rw[if_pos h1,←h2];exact g1
   |_=>cases h
  |cl f caps=>
   cases sx with
   |cl f' caps'=>
    simp only[iQ]at h;cases hb: !own&&Nat.beq f f'&&rW caps bk.length&&aAI (mapN (kE bk) caps) caps' with
    |false=>rw[hb]at h;cases h
    |true=>
     rw[hb]at h;simp only[cdt]at h;simp only[bjE,cJ,djE,Bool.not_eq_true']at hb;obtain⟨⟨⟨h0,h1⟩,h2⟩,h3⟩:=hb;obtain⟨qs,g1,g2⟩:=r1;refine fin (.cl f caps) [] d h rfl rfl ⟨qs,by rw[g1,h1];rfl,(aCk h2).1 (by rw[nQ h3];exact g2)⟩ (fun ho=>by rw[h0]at ho;cases ho)
   |_=>cases h
  |rw j=>
   cases sx with
   |rw k=>
    simp only[iQ]at h;cases hb: !own&&Nat.blt j bk.length&&Nat.beq k (kE bk j)with
    |false=>rw[hb]at h;cases h
    |true=>
     rw[hb]at h;simp only[cdt]at h;simp only[bjE,fP,cJ,djE,Bool.not_eq_true']at hb;obtain⟨⟨h0,h1⟩,h2⟩:=hb;obtain⟨e,g1,g2⟩:=r1;refine fin (.rw j) [] d h rfl rfl ⟨e,?_,?_⟩ (fun ho=>by rw[h0]at ho;cases ho)
     ·unfold lM;rw[if_pos h1,←h2];exact g1
     ·rcases g2 with⟨k1,k2,rfl|rfl⟩|⟨id,k1,k2,rfl⟩
      ·exact .inl ⟨k1,k2,.inr rfl⟩
      ·exact .inl ⟨k1,k2,.inr rfl⟩
      ·exact .inr ⟨id,k1,k2,rfl⟩
   |_=>cases h
  |_=>cases h
 |[],_::_,_,d,i0,rest,h,_=>by cases h
 |(s,o)::_,[],_,d,i0,rest,h,_=>by cases s<;>cases h
 |_,[],_::_,d,i0,rest,h,hr=>hr.elim
 |_,_::_,[],d,i0,rest,h,hr=>hr.elim
end
end Go.TV
namespace Go.TV
open Go.AI Go.PI
section
variable{P:Program}{U:iN}{T:TP U.D}{c c0:Cx}{β:Type}{r:β}{q p:PSt}{M:TM U.D}
theorem aHm{x:Nat×Bool}: ∀{rs:Rts},leR.memW x rs=true→∃s,(x.1,s)∈rs∧(x.2=true→s=true)
 |y::ys,h=>by
  simp only[leR.memW,Bool.or_eq_true,bjE,cJ,djE,Bool.not_eq_true']at h;rcases h with⟨h1,h2⟩|h
  ·refine⟨y.2,by rw[h1];exact mhE ..,fun e=>?_⟩
   rcases h2 with h2|h2
   ·rw[e]at h2;cases h2
   ·exact h2
  ·obtain⟨s,h1,h2⟩:=aHm h;exact⟨s,mtE _ h1,h2⟩
theorem aHl: ∀{rs rs':Rts},leR rs rs'=true→∀o s,(o,s)∈rs→∃s',(o,s')∈rs'∧(s=true→s'=true)
 |x::rs,rs',h,o,s,hm=>by
  simp only[leR,bjE]at h;rcases List.mem_cons.1 hm with rfl|hm
  ·exact aHm h.1
  ·exact aHl h.2 o s hm
theorem aCU{rs rs':Rts}{cs:List (PV×Bool)}(h:leR rs rs'=true)(hb:rtB rs' cs):rtB rs cs:=fun o s hm=>by
 obtain⟨s',h1,h2⟩:=aHl h o s hm;obtain⟨x,h3,h4⟩:=hb o s' h1;exact⟨x,h3,fun e=>h4 (h2 e)⟩
theorem rtR_le{rs rs':Rts}{pv:PV}{ow:Bool}(h:leR rs rs'=true)(hb:rtR rs' pv ow):rtR rs pv ow:=fun o s hm=>by
 obtain⟨s',h1,h2⟩:=aHl h o s hm;rcases hb o s' h1 with h3|⟨h3,h4,h5,h6⟩
 ·exact .inl h3
 ·exact .inr ⟨h3,h4,h5,fun e=>h6 (h2 e)⟩
theorem qS{bk:List Nat}(Mm:MR U q c0 c M p): ∀{l:List (Sh×Rts)} {j:Nat} {e:List (V U)} (rest:List (V U)),yH U bk M l j=some e→j+l.length≤bk.length→
    ∃M0,unB U (cutOf.bxL l j) (e++rest)=some (M0,rest)∧(∀i b,bG M0 i=some b→∃ce,lM c bk i=some ce∧bcR U (lM c bk) p ce b)∧(∀i,i<l.length→bG M.bx (kE bk (j+i))≠none)
 |[],j,e,rest,h,_=>by
  simp only[yH,ojE]at h;subst h;exact⟨[],rfl,fun i b h=>(by cases h),fun i h=>(by simp at h)⟩
 |(s,rr)::l,j,e,rest,h,hj=>by
  simp only[lcS]at hj;unfold yH at h;split at h
  ·rename_i cont rs d hf hd;cases hb:leR rr rs with
   |false=>rw[hb]at h;cases h
   |true=>
    rw[hb]at h;simp only[cdt]at h;obtain⟨M0,g1,g2,g3⟩:=qS Mm rest hd (by omega)
    obtain⟨ce,hce,id,cs,hid,hget,hcs,hrt⟩:=Mm.bx _ _ hf;have hcc:lM c bk j=some ce:=by unfold lM;rw[if_pos (by omega)];exact hce
    have hne: ∀i,i<((s,rr)::l).length→bG M.bx (kE bk (j+i))≠none:=by
     intro i hi;cases i with
     |zero=>rw[Nat.add_zero,hf];exact fun e=>by cases e
     |succ i=>have:=g3 i (by simpa using hi);rwa [show j+(i+1)=j+1+i by omega]
    split at h
    ·rename_i t v;cases hv:v.t.beq t with
     |false=>rw[hv]at h;cases h
     |true=>
      rw[hv]at h;simp only[cdt,ojE]at h;subst h;refine⟨(j,.bx (.val v) rr)::M0,?_,?_,hne⟩
      ·simp only[cutOf.bxL,cnA,unB,unV,hv,cdt,g1]
      ·intro i b hb';rw[cN]at hb';by_cases e1:i=j
       ·rw[if_pos e1]at hb';simp only[ojE]at hb';subst hb';subst e1;exact⟨ce,hcc,id,cs,hid,hget,hcs,aCU hb hrt⟩
       ·rw[if_neg e1]at hb';exact g2 i b hb'
    ·rename_i f caps f' caps';cases hv:Nat.beq f f'&&rW caps bk.length&&aAI (mapN (kE bk) caps) caps' with
     |false=>rw[hv]at h;cases h
     |true=>
      rw[hv]at h;simp only[cdt,ojE]at h;subst h;simp only[bjE,cJ,djE]at hv;obtain⟨⟨rfl,h2⟩,h3⟩:=hv;obtain⟨pv,bb,e1,ps,e2,e3⟩:=hcs;refine⟨(j,.bx (.cl f caps) rr)::M0,?_,?_,hne⟩
      ·simp only[cutOf.bxL,unB,unV,g1]
      ·intro i b hb';rw[cN]at hb';by_cases e4:i=j
       ·rw[if_pos e4]at hb';simp only[ojE]at hb';subst hb';subst e4;exact⟨ce,hcc,id,cs,hid,hget,⟨pv,bb,e1,ps,e2,(aCk h2).1 (by rw[nQ h3];exact e3)⟩,aCU hb hrt⟩
       ·rw[if_neg e4]at hb';exact g2 i b hb'
    ·cases h
  ·rename_i et x d hf hd;obtain⟨M0,g1,g2,g3⟩:=qS Mm rest hd (by omega)
   obtain⟨ce,hce,hrow⟩:=Mm.bx _ _ hf;have hcc:lM c bk j=some ce:=by unfold lM;rw[if_pos (by omega)];exact hce
   split at h
   ·rename_i t;cases hv:et.beq t with
    |false=>rw[hv]at h;cases h
    |true=>
     rw[hv]at h;simp only[cdt,ojE]at h;subst h;have:=Ty.beq_eq hv;subst this;refine⟨(j,.row et x)::M0,?_,?_,?_⟩
     ·simp only[cutOf.bxL,cnA,unB,hv,cdt,g1]
     ·intro i b hb';rw[cN]at hb';by_cases e1:i=j
      ·rw[if_pos e1]at hb';simp only[ojE]at hb';subst hb';subst e1;exact⟨ce,hcc,hrow⟩
      ·rw[if_neg e1]at hb';exact g2 i b hb'
     ·intro i hi;cases i with
      |zero=>rw[Nat.add_zero,hf];exact fun e=>by cases e
      |succ i=>have:=g3 i (by simpa using hi);rwa [show j+(i+1)=j+1+i by omega]
   ·cases h
  ·cases h
theorem aQ: ∀{ts:List Ty} {l:List (V U)} {r:DenL U.D ts},dB ts l=some r→tvL ts r=l
 |[],[],r,h=>rfl
 |t::ts,v::vs,r,h=>by
  unfold dB at h;split at h
  ·rename_i x r' h1 h2;simp only[ojE]at h;subst h;rw[tvL,aQ h2];have:=jS h1;simp only;rw[←this]
  ·cases h
 |[],_::_,r,h=>by cases h
 |_::_,[],r,h=>by cases h
theorem obL_some{ts:List Ty}{a:Option (List (V U))}{K:DenL U.D ts→Option β}(h:obL ts a K=some r): ∃l x,a=some l∧tvL ts x=l∧K x=some r:=by
 unfold obL at h;split at h
 ·rename_i l;split at h
  ·rename_i x hx;exact⟨l,x,rfl,aQ hx,h⟩
  ·cases h
 ·cases h
theorem mC: ∀{l:List (Sh×Rts)} {rs:List Rts} {d:List (V U)} {m:List (BC U.D)},eY U l rs d=some m→m.length=l.length
 |[],[],[],m,h=>by simp only[eY,ojE]at h;subst h;rfl
 |(.val t,rr)::l,r::rs,v::d,m,h=>by
  simp only[eY]at h;split at h
  ·rename_i m' hm;cases h;simp only[lcS,mC hm]
  ·cases h
 |(.cl f caps,rr)::l,r::rs,d,m,h=>by
  simp only[eY]at h;split at h
  ·rename_i m' hm;cases h;simp only[lcS,mC hm]
  ·cases h
 |[],_::_,_,_,h=>by simp[eY]at h
 |[],[],_::_,_,h=>by simp[eY]at h
 |(s,rr)::l,[],d,m,h=>by cases s<;>simp[eY]at h
 |(.val t,rr)::l,r::rs,[],m,h=>by simp[eY]at h
 |(.tup _,_)::_,_::_,_,_,h=>by simp[eY]at h
 |(.nl,_)::_,_::_,_,_,h=>by simp[eY]at h
 |(.lc _ _ _,_)::_,_::_,_,_,h=>by simp[eY]at h
 |(.ep _,_)::_,_::_,_,_,h=>by simp[eY]at h
 |(.rw _,_)::_,_::_,_,_,h=>by simp[eY]at h
 |(.nf,_)::_,_::_,_,_,h=>by simp[eY]at h
 |(.row t,rr)::l,r::rs,⟨.sl e,x⟩::d,m,h=>by
  simp only[eY]at h;split at h
  ·rename_i m' hm;cases h;simp only[lcS,mC hm]
  ·cases h
 |(.row t,rr)::l,r::rs,[],m,h=>by simp[eY]at h
 |(.row t,rr)::l,r::rs,⟨.int _,x⟩::d,m,h=>by simp[eY]at h
 |(.row t,rr)::l,r::rs,⟨.bool,x⟩::d,m,h=>by simp[eY]at h
 |(.row t,rr)::l,r::rs,⟨.str,x⟩::d,m,h=>by simp[eY]at h
 |(.row t,rr)::l,r::rs,⟨.rc _,x⟩::d,m,h=>by simp[eY]at h
theorem tS{bk:List Nat}(hn:bk.Nodup): ∀(m:List (BC U.D)) (j0:Nat) (B:List (Nat×BC U.D)),(∀j,j<m.length→bG B (kE bk (j0+j))≠none)→j0+m.length≤bk.length→∀k,
    (∃j x,m[j]?=some x∧kE bk (j0+j)=k∧bG (putB U bk m j0 B) k=some (renB U bk x))∨((∀j,j<m.length→kE bk (j0+j)≠k)∧bG (putB U bk m j0 B) k=bG B k)
 |[],j0,B,_,_,k=> .inr ⟨fun j h=>by simp at h,rfl⟩
 |x::m,j0,B,hB,hl,k=>by
  simp only[lcS]at hl;have h0:bG B (kE bk j0)≠none:=by have:=hB 0 (by simp);rwa [Nat.add_zero]at this
  have hB': ∀j,j<m.length→bG (sR B (kE bk j0) (renB U bk x)) (kE bk (j0+1+j))≠none:=by
   intro j hj;have:=hB (j+1) (by simpa using hj)
   rw[show j0+(j+1)=j0+1+j by omega]at this
   rw[eQ];split
   ·cases hh:bG B (kE bk j0)with
    |none=>exact(h0 hh).elim
    |some b=>exact fun e=>by cases e
   ·exact this
  rcases tS hn m (j0+1) (sR B (kE bk j0) (renB U bk x)) hB' (by omega) k with⟨j,y,h1,h2,h3⟩|⟨h1,h2⟩
  ·exact .inl ⟨j+1,y,by rw[gcS];exact h1,by rw[←h2];congr 1;omega,h3⟩
  ·by_cases hk:kE bk j0=k
   ·refine .inl ⟨0,x,rfl,by rw[Nat.add_zero];exact hk,?_⟩
    rw[putB,h2,eQ,if_pos hk.symm];cases hh:bG B (kE bk j0)with
    |none=>exact(h0 hh).elim
    |some b=>rfl
   ·refine .inr ⟨fun j hj=>?_,?_⟩
    ·cases j with
     |zero=>rw[Nat.add_zero];exact hk
     |succ j=>have:=h1 j (by simpa using hj);rwa [show j0+(j+1)=j0+1+j by omega]
    ·rw[putB,h2,eQ,if_neg (fun e=>hk e.symm)]
theorem bcR_cc{bk:List Nat}{e:Ce}{x:BC U.D}(h:bcR U (lM c bk) p e x):bcR U c p e (renB U bk x):=by
 cases x with
 |bx s r=>
  obtain⟨id,cs,h1,h2,h3,h4⟩:=h;exact⟨id,cs,h1,h2,aId h3,h4⟩
 |row t l=>exact h
 |gone=>trivial
theorem MR.call(Mm:MR U q c0 c M p){bk:List Nat}(hn:bk.Nodup){m:List (BC U.D)}(hm:m.length=bk.length)(hne: ∀i,i<bk.length→bG M.bx (kE bk i)≠none){p':PSt}
    (hb: ∀j x,m[j]?=some x→∃e,lM c bk j=some e∧bcR U (lM c bk) p' e x) (hnx:p'.next=p.next)
    (hg: ∀id,id<p.next→(∀j e,lM c bk j=some e→e.id≠some id)→p'.get id=p.get id)
    (hg2: ∀id,id<p.next→id∉p'.dirty→p'.get id=p.get id)
    (hd: ∀id,id∈p'.dirty→id∈p.dirty∨∃j e,lM c bk j=some e∧e.id=some id) (hd2: ∀id,id∈p.dirty→id∈p'.dirty)
    (hw: ∀id,id∈p'.wr→id∈p.wr∨∃j e,lM c bk j=some e∧e.id=some id):
    MR U q c0 c ⟨putB U bk m 0 M.bx,bk++M.wr⟩ p'∧(WR U c M p→WR U c ⟨putB U bk m 0 M.bx,bk++M.wr⟩ p'):=by
 have hput:=tS hn m 0 M.bx (fun j hj=>by rw[Nat.zero_add];exact hne j (by omega)) (by omega)
 simp only[Nat.zero_add]at hput;have cck: ∀{j e},lM c bk j=some e→j<bk.length∧c (kE bk j)=some e:=by
  intro j e h;unfold lM at h;split at h
  ·rename_i hj;exact⟨hj,h⟩
  ·cases h
 have bor: ∀{j e id},lM c bk j=some e→e.id=some id→id<q.next→∃k e,c0 k=some e∧e.id=some id:=by
  intro j e id h1 h2 h3;obtain⟨_,h4⟩:=cck h1;have hk:kE bk j<100:=by
   rcases Nat.lt_or_ge (kE bk j) 100 with h|h
   ·exact h
   ·have:=Mm.loc _ e id h4 h h2;omega
  exact⟨_,e,Mm.bor _ e h4 hk,h2⟩
 refine⟨⟨fun k h=>?_,fun k b h=>?_,fun k e id h1 h2=>by rw[hnx];exact Mm.lt k e id h1 h2,Mm.inj,by rw[hnx];exact Mm.next,Mm.bor,Mm.loc,fun id hi ho=>?_,fun id hi hlt=>?_,fun id hi=>?_⟩,fun hW id hi k e h1 h2=>?_⟩
 ·simp only at h;rcases hput k with⟨j,x,h1,h2,h3⟩|⟨h1,h2⟩
  ·rw[h3]at h;cases h
  ·rw[h2]at h;exact Mm.dom k h
 ·simp only at h;rcases hput k with⟨j,x,h1,h2,h3⟩|⟨h1,h2⟩
  ·rw[h3]at h;cases h;obtain⟨e,g1,g2⟩:=hb j x h1;obtain⟨_,g3⟩:=cck g1;exact⟨e,by rw[←h2];exact g3,bcR_cc g2⟩
  ·rw[h2]at h;obtain⟨e,g1,g2⟩:=Mm.bx k b h;refine⟨e,g1,oH g2 fun id hid=>hg id (Mm.lt k e id g1 hid) fun j e' h3 h4=>?_⟩
   obtain⟨g3,g4⟩:=cck h3;exact h1 j (by omega) (Mm.inj _ _ e' e id g4 g1 h4 hid)
 ·rw[hg2 id (Nat.lt_of_lt_of_le hi Mm.next) ho]
  exact Mm.old id hi fun h=>ho (hd2 id h)
 ·rcases hd id hi with h|⟨j,e,h1,h2⟩
  ·exact Mm.dirty id h hlt
  ·exact bor h1 h2 hlt
 ·rcases hw id hi with h|⟨j,e,h1,h2⟩
  ·rw[hnx];exact Mm.wr id h
  ·rw[hnx];exact⟨Mm.lt _ e id (cck h1).2 h2,fun hlt=>bor h1 h2 hlt⟩
 ·have happ: ∀{l l':List Nat},bL k (l++l')=(bL k l||bL k l'):=by
   intro l l';rw[Bool.eq_iff_iff,Bool.or_eq_true,eS,eS,eS,List.mem_append]
  show bL k (bk++M.wr)=true;rw[happ,Bool.or_eq_true];rcases hw id hi with h|⟨j,e',h3,h4⟩
  ·exact .inr (hW id h k e h1 h2)
  ·obtain⟨h5,h6⟩:=cck h3;have:=Mm.inj _ _ e e' id h1 h6 h2 h4;left;rw[eS,this];exact List.mem_of_getElem? (pQ bk j h5)
theorem slR_cc{bk:List Nat}{own:Bool}{l:List (V U)}{y:PV×Bool}(h:slR U (lM c bk) (aFS U own l) y):slR U c (aFS U own l) y:=by
 unfold aFS at h⊢;split at h<;>exact h
theorem aGk{own:Bool}{l:List (V U)}{K:X U→Option β}(h:splT U own l K=some r):K (aFS U own l)=some r:=by
 unfold splT at h;split at h
 ·rename_i v b;cases b<;>exact h
 ·exact h
theorem callK_ok(hU:eX U){tc:lO U.D}{pc:eH}(hc:CallOK U T tc pc){take:Bool}{inst:Nat}{bk:List Nat}{S:TS U.D}{S':PS}(F:frR U c S S'){cl:Call}{f:Operand}{K:X U→TS U.D→TM U.D→Option β}
    (hcl:cl.callee= .value f) (h:callK U T tc take inst bk S M (evT U S f).1 cl.args.toList K=some r) (Mm:MR U q c0 c M p):
    ∃x S2 M' v own p' g args,K x S2 M'=some r∧lA take S' cl=some (g,args)∧pc g args p=some (v,own,p')∧slR U c x (v,own)∧frR U c S2 (iU take S' cl.args.toList).2∧MR U q c0 c M' p'∧(WR U c M p→WR U c M' p')∧p'.next=p.next:=by
 have rf:=(aX F f).1;unfold callK at h;split at h
 ·rename_i g caps s hf hs;rw[hf]at rf;obtain⟨ps,e1,e2⟩:=rf;have e1:pev S' f= .fn g [] ps:=e1;split at h
  ·rename_i d e hd he;cases hb:Nat.beq g s.f&&aHc bk&&Nat.beq bk.length s.bx.length with
   |false=>rw[hb]at h;cases h
   |true=>
    rw[hb]at h;simp only[cdt]at h;simp only[bjE,cJ,djE]at hb;obtain⟨⟨hg,hnd⟩,hlen⟩:=hb;have hnd:=qQ hnd;obtain⟨out,x,h1,h2,h⟩:=obL_some h;split at h
    ·rename_i m hm;obtain⟨g1,g2⟩:=aDq (take:=take) (args:=cl.args.toList) F;have g3:=rT g2 (aIe (take:=take) e2);obtain⟨k1,S0,k2,k3⟩:=yJ hU 0 e hd g3;obtain⟨M0,k4,k5,k6⟩:=qS Mm [] he (by omega)
     rw[apN]at k4;have hin:aAA U s (d++e) p (lM c bk) ((iU take S' cl.args.toList).1++nH ps) S0 ⟨M0,[]⟩:=by
      refine⟨?_,k1,fun i y hy=>?_,k5,fun j hj=>?_,fun j e id h1 h2=>?_,fun k k' e e' id h1 h2 h3 h4=>?_,fun id hi=>(Mm.wr id hi).1⟩
      ·simp only[unT',cutOf,k2,k4]
      ·have:=k3 i y hy;rwa [Nat.zero_add]at this
      ·unfold lM;rw[if_neg (by omega)]
      ·unfold lM at h1;split at h1
       ·exact Mm.lt _ e id h1 h2
       ·cases h1
      ·unfold lM at h1 h2;split at h1
       ·rename_i hk;split at h2
        ·rename_i hk';exact nth_inj hnd hk hk' (Mm.inj _ _ e e' id h1 h2 h3 h4)
        ·cases h2
       ·cases h1
     obtain⟨pv,own,p',j1,j2⟩:=hc inst s _ out hs h1 p (lM c bk) _ S0 _ hin;have h:=aGk h;rw[h2]at hm h;obtain⟨m',j3,j4⟩:=j2.out;rw[hm]at j3;cases j3;obtain⟨j5,j6⟩:=Mm.call hnd (m:=m) (by rw[mC hm,hlen]) (fun i hi=>by have:=k6 i (by omega);rwa [Nat.zero_add]at this) j4 j2.next j2.get j2.get2 j2.dirty j2.dirty2 j2.wr
     refine⟨_,_,_,pv,own,p',s.f,_,h,?_,j1,slR_cc j2.res,g1,j5,j6,j2.next⟩
     simp only[lA,hcl,e1,hg,nH,nlA]
    ·cases h
  ·cases h
 ·cases h
end
end Go.TV
