import Derived.Test.YtmebgielemmehaaGreatDoorKk
set_option linter.unusedVariables false
set_option linter.unusedSimpArgs false
set_option linter.constructorNameAsVariable false
set_option linter.defProp false
namespace Go.TV
open Go.AI Go.PI
section
variable{P:Program}{U:gT}{T:TP U.D}{c c0:Cx}{W:Type}{r:W}{q p:PSt}{M:TM U.D}
def S9{k t:Nat}(h:k≠t):Nat.beq k t=false:=by rw[cQ];exact bG h
def jQ(m:List (Nat×BC U.D))(k j:Nat)(y:BC U.D):dE (oV m k y) j=if j=k then(dE m k).map λ_=>y else dE m j:=by
 induction m with
 |nil=>simp[dE,oV]
 |cons x m ih=>
  obtain⟨a,b⟩:=x;unfold oV;by_cases h:a=k
  .subst h;simp only[Nat.beq_refl,aI];by_cases hj:j=a
   .subst hj;simp[dE]
   .have hja:Nat.beq a j=false:=S9 λe=>hj e.symm
    simp only[dE,hja,aJ,bH hj]
  .simp only[S9 h,aJ];by_cases hj:j=k
   .subst hj;have:=ih;rw[bI rfl]at this;simp only[dE,S9 h,aJ,bO];exact this
   .rw[bH hj]at ih⊢;simp only[dE];cases Nat.beq a j with
    |true=>rfl
    |false=>exact ih
def gD(m:List (Nat×BC U.D))(k j:Nat)(y:BC U.D):dE ((k,y)::m) j=if j=k then some y else dE m j:=by
 by_cases h:j=k
 .subst h;simp[dE]
 .have:Nat.beq k j=false:=S9 λe=>h e.symm
  simp only[dE,this,aJ,bH h]
def tH{p p':PSt}{e:Ce}{b:BC U.D}(h:Ag U c p e b)(hg: ∀id,e.id=some id->p'.get id=p.get id):Ag U c p' e b:=by
 cases b with
 |bx s r=>obtain⟨id,cs,h1,h2,h3⟩:=h;exact⟨id,cs,h1,by rw[hg id h1];exact h2,h3⟩
 |row t l=>
  obtain⟨h1,h2,h3⟩:=h;refine⟨h1,h2,?_⟩;rcases h3 with h3|⟨id,h3,h4⟩
  .exact .inl h3
  .exact .inr ⟨id,h3,by rw[hg id h3];exact h4⟩
 |gone=>trivial
def SU{c c':Cx}(h:leC c c'){s:SV U.D}{cs:List (PV×Bool)}(r:uP U c s cs):uP U c' s cs:=by
 cases s with
 |cl f caps=>obtain⟨p,b,h1,h2⟩:=r;exact⟨p,b,h1,Ug h h2⟩
 |_=>exact r
def XE{c c':Cx}(h:leC c c'){p:PSt}{e:Ce}{b:BC U.D}(r:Ag U c p e b):Ag U c' p e b:=by
 cases b with
 |bx s rs=>obtain⟨id,cs,h1,h2,h3,h4⟩:=r;exact⟨id,cs,h1,h2,SU h h3,h4⟩
 |row t l=>exact r
 |gone=>trivial
def MR.write(Mm:MR U q c0 c M p){k:Nat}{b b':BC U.D}{e:Ce}{id:Nat}{p':PSt}{w:List Nat}(hb:dE M.bx k=some b)(he:c k=some e)(hid:e.id=some id)
    (hn:p'.next=p.next) (hg: ∀j,j≠id->p'.get j=p.get j) (hd: ∀j,j∈p'.dirty↔j=id∨j∈p.dirty) (hw: ∀j,j∈p'.wr->j=id∨j∈p.wr) (hr:Ag U c p' e b'):
    MR U q c0 c ⟨oV M.bx k b',w⟩ p' where
 dom j h:=by
  simp only[jQ]at h;by_cases hj:j=k
  .rw[bI hj,hb]at h;cases h
  .rw[bH hj]at h;exact Mm.dom j h
 bx j y h:=by
  simp only[jQ]at h;by_cases hj:j=k
  .subst hj;rw[bI rfl,hb]at h;simp only[aK,aA]at h;subst h;exact⟨e,he,hr⟩
  .rw[bH hj]at h;obtain⟨e',h1,h2⟩:=Mm.bx j y h;exact⟨e',h1,tH h2 λi hi=>hg i λei=>hj (Mm.inj j k e' e id h1 he (by rw[<-ei];exact hi) hid)⟩
 lt j e' i h1 h2:=by rw[hn];exact Mm.lt j e' i h1 h2
 inj:=Mm.inj
 next:=by rw[hn];exact Mm.next
 bor:=Mm.bor
 loc:=Mm.loc
 old i hi ho:=by
  rw[hg i λe1=>ho ((hd i).2 (.inl e1))]
  exact Mm.old i hi λh=>ho ((hd i).2 (.inr h))
 dirty i hi bh:=by
  rcases(hd i).1 hi with rfl|h
  .have hk:k<100:=by
    rcases Nat.lt_or_ge k 100 with h|h
    .exact h
    .have:=Mm.loc k e i he h hid;omega
   exact⟨k,e,Mm.bor k e he hk,hid⟩
  .exact Mm.dirty i h bh
 wr i hi:=by
  rcases hw i hi with rfl|h
  .refine⟨by rw[hn];exact Mm.lt k e i he hid,λbh=>?_⟩
   have hk:k<100:=by
    rcases Nat.lt_or_ge k 100 with h|h
    .exact h
    .have:=Mm.loc k e i he h hid;omega
   exact⟨k,e,Mm.bor k e he hk,hid⟩
  .rw[hn];exact Mm.wr i h
def MR.upd(Mm:MR U q c0 c M p){k:Nat}{b b':BC U.D}{e:Ce}{id:Nat}{o:jU}(hb:dE M.bx k=some b)(he:c k=some e)(hid:e.id=some id)(hr:Ag U c (p.upd id o) e b'):
    MR U q c0 c ⟨oV M.bx k b',k::M.wr⟩ (p.upd id o)/\(WR U c M p->WR U c ⟨oV M.bx k b',k::M.wr⟩ (p.upd id o)):=by
 have bh:=Mm.lt k e id he hid;refine⟨Mm.write hb he hid rfl (λj hj=>by rw[kG bh,bH hj]) (λj=>lF) (λj hj=>lF.1 hj) hr,λhw i hi k' e' h1 h2=>?_⟩
 show(Nat.beq k k'||dQ k' M.wr)=true;rcases lF.1 hi with rfl|h
 .rw[Mm.inj k k' e e' i he h1 hid h2,Nat.beq_refl,Bool.true_or]
 .rw[hw i h k' e' h1 h2,Bool.or_true]
def Dz: ∀{m:List (Nat×BC U.D)} {k:Nat} {b:BC U.D},dE m k=some b->oV m k b=m
 |[],k,b,h=>rfl
 |(a,x)::m,k,b,h=>by
  simp only[dE]at h;unfold oV;cases hb:Nat.beq a k with
  |true=>
   rw[hb]at h;simp only[aI,aA]at h;subst h;rw[<-aE hb];rfl
  |false=>rw[hb]at h;simp only[aJ]at h⊢;rw[Dz h]
def JH{p:PSt}{id:Nat}{o:jU}(h:id<p.next)(k:Nat):(p.mark id o).get k=if k=id then some o else p.get k:=by
 have:=kG (o:=o) h k;simp only[PSt.get,PSt.upd,PSt.mark]at this⊢;exact this
def MR.mark(Mm:MR U q c0 c M p){k:Nat}{b b':BC U.D}{e:Ce}{id:Nat}{o:jU}(hb:dE M.bx k=some b)(he:c k=some e)(hid:e.id=some id)(hr:Ag U c (p.mark id o) e b'):
    MR U q c0 c ⟨oV M.bx k b',M.wr⟩ (p.mark id o)/\(WR U c M p->WR U c ⟨oV M.bx k b',M.wr⟩ (p.mark id o)):=by
 have bh:=Mm.lt k e id he hid;exact⟨Mm.write hb he hid rfl (λj hj=>by rw[JH bh,bH hj]) (λj=>lF) (λj hj=> .inr hj) hr,λhw=>hw⟩
def rX{o:Nat}: ∀{rs:iL},Bp o rs=true↔∃s,(o,s)∈rs
 |[]=>by simp[Bp]
 |x::rs=>by
  obtain⟨a,b⟩:=x;simp only[Bp,Bool.or_eq_true,cQ,aD,rX (rs:=rs),List.mem_cons,aB];constructor
  .rintro(rfl|⟨s,h⟩)
   .exact⟨b,.inl ⟨rfl,rfl⟩⟩
   .exact⟨s,.inr h⟩
  .rintro⟨s,⟨rfl,_⟩|h⟩
   .exact .inl rfl
   .exact .inr ⟨s,h⟩
def Qb{o n:Nat}: ∀{rs:iL} {x:Nat×Bool},x∈aMB o n rs->x∈rs/\¬(o<=x.1/\x.1<o+n)
 |[],x,h=>by cases h
 |y::rs,x,h=>by
  unfold aMB at h;cases hb:Nat.ble o y.1&&Nat.blt y.1 (o+n)with
  |true=>
   rw[hb]at h;obtain⟨h1,h2⟩:=Qb h;exact⟨aG _ h1,h2⟩
  |false=>
   rw[hb]at h;rcases List.mem_cons.1 h with rfl|h
   .refine⟨aH ..,λ⟨h1,h2⟩=>?_⟩
    have:(Nat.ble o x.1&&Nat.blt x.1 (o+n))=true:=by
     simp only[aC,Nat.ble_eq,gQ,aD];exact⟨h1,h2⟩
    rw[this]at hb;cases hb
   .obtain⟨h1,h2⟩:=Qb h;exact⟨aG _ h1,h2⟩
def rP(P:Program)(take:Bool)(p:PSt)(t:TypeId)(a:PV):Option (PV×Bool×PSt):=
 match jF P p t a with
 |some v=>bif take&&Aa v then some (v,(fK p a).2,(fK p a).1)else some (v,false,p)
 |none=>none
variable(hU:gO U)(hT:oQ P U T)
include hU
def SR.self(t:Ty)(x:Den U.D t):SR t x (dB U t x).cells:=⟨Fw (qW hU t x),AA (qW hU t x)⟩
def HJ{t:Ty}{l:List (Den U.D t)}{i:Nat}{y:Den U.D t}(h:l[i]?=some y):(((l.map (dB U t)).flatMap PV.cells).drop (i*cZ U t)).take (cZ U t)=(dB U t y).cells:=by
 induction l generalizing i with
 |nil=>simp at h
 |cons x l ih=>
  cases i with
  |zero=>
   simp only[aU,aA]at h;subst h;rw[Nat.zero_mul,List.drop_zero,aO,aN];exact List.take_left' (iH hU _ _)
  |succ i=>
   rw[aT]at h;rw[aO,aN,<-ih h,Nat.succ_mul,Nat.add_comm];congr 1;rw[<-List.drop_drop];congr 1;exact List.drop_left' (iH hU _ _)
include hT
def aLT{take:Bool}{t:TypeId}{a:SV U.D}{p0:PV}{K:X U->TM U.D->Option W}(h:a0Y U T.T take M t a K=some r)(ra:rG U c a p0)(Mm:MR U q c0 c M p):
    ∃x M' v own p',K x M'=some r/\rP P take p t p0=some (v,own,p')/\oE U c x (v,own)/\MR U q c0 c M' p'/\(WR U c M p->WR U c M' p'):=by
 unfold a0Y at h;split at h
 ·
  rename_i v;obtain⟨es,i,off,e,rfl,he,hcs⟩:=ra;split at h
  .rename_i ty fj;cases hb:v.t.beq ty with
   |false=>rw[hb]at h;cases h
   |true=>
    rw[hb]at h;obtain⟨vt,vx⟩:=v;have:=Ty.beq_eq hb;subst this;obtain⟨w,h1,h2,_⟩:=vM hU hT fj (cs:=e.cells) (off:=off) (x:=vx) (by rw[hcs];exact SR.self hU _ _)
    have hl:jF P p t (.pin es i off)=some w:=by simp only[jF,he];exact h1
    refine⟨_,_,w,false,p,h,?_,⟨h2,bW _ _⟩,Mm,λhw=>hw⟩
    simp only[rP,hl,fK];cases take&&Aa w<;>rfl
  .cases h
 ·
  rename_i k off path;obtain⟨e,id,he,hid,rfl⟩:=ra;split at h
  .rename_i Da rs hf;obtain⟨e',dz,id',cs,cw,bc,hcs,kq⟩:=Mm.bx k _ hf;rw[he]at dz;cases dz;rw[hid]at cw;cases cw;split at h
   ·
    rename_i cv;split at h
    .rename_i ty w o fj hp;cases hb:w.t.beq ty&&Nat.beq o off with
     |false=>rw[hb]at h;cases h
     |true=>
      rw[hb]at h;simp only[aI]at h;simp only[aC,cQ,aD]at hb;obtain⟨ky,rfl⟩:=hb;obtain⟨wt,wx⟩:=w;have:=Ty.beq_eq ky;subst this;obtain⟨h1,h2,h3⟩:=hcs;have hsr:SR cv.t cv.x (cs.map (·.1)):=⟨h1,h2⟩;obtain⟨g1,g2⟩:=sX hU hp hsr;obtain⟨v,k1,k2,k3,k4⟩:=vM hU hT fj g1;have hl:jF P p t (.ptr id o)=some v:=by simp only[jF,bc];exact k1
      have bh:=Mm.lt k e id he hid;have qk: ∀fv,(∀i s,(i,s)∈fv->(i,s)∈rs/\i≠o)->∀x b,cs[o]?=some (x,b)->Ag U c (p.mark id (.box (cs.set o (x,false)))) e (.bx (.val cv) fv):=by
       intro fv de x b hx;have qh:o<cs.length:=by
        rcases Nat.lt_or_ge o cs.length with h|h
        .exact h
        .rw[List.getElem?_eq_none h]at hx;cases hx
       have lj:(cs.set o (x,false)).map (·.1)=cs.map (·.1):=by
        rw[List.map_set];apply List.ext_getElem?;intro j;rw[List.getElem?_set];by_cases hj:o=j
        .subst hj;rw[List.length_map,bI rfl,bI qh,List.getElem?_map,hx];rfl
        .rw[bH hj]
       refine⟨id,_,hid,by rw[JH bh,bI rfl],⟨by rw[lj];exact h1,by rw[lj];exact h2,λy hy=>?_⟩,λi s hi=>?_⟩
       .rcases List.mem_or_eq_of_mem_set hy with hy|rfl
        .exact h3 y hy
        .exact h3 (x,b) (List.mem_of_getElem? hx)
       .obtain⟨m1,m2⟩:=de i s hi;obtain⟨x',lp,fy⟩:=kq i s m1;exact⟨x',by rw[List.getElem?_set,bH (λe=>m2 e.symm)];exact lp,fy⟩
      have hisSl:zB wt=true->Aa v=true:=by
       intro hs;cases wt with
       |sl et=>
        have hv:v≠ .nil:=by
         intro hv;have hc:v.cells=[v]:=by rw[hv];rfl
         rw[k3]at hc;have hm:v∈cs.map (·.1):=List.mem_of_mem_drop (List.mem_of_mem_take (by rw[hc];exact List.mem_singleton.2 rfl))
         obtain⟨y,hy,e1⟩:=List.mem_map.1 hm;exact h3 y hy (by rw[e1];exact hv)
        obtain⟨_,cr⟩:=pC k2;rcases cr with⟨_,h4|h4|h4⟩|⟨_,h4⟩
        .rw[h4];rfl
        .exact(hv h4).elim
        .rw[h4];rfl
        .rw[h4];rfl
       |_=>cases hs
      have hslNo:zB wt=false->Aa v=false:=by
       intro hs;cases wt with
       |sl et=>cases hs
       |int k=>rw[iF k2];rfl
       |bool=>rw[of_bool k2];rfl
       |str=>rw[uK k2];rfl
       |rc n=>obtain⟨cx,hc,_⟩:=IJ k2;rw[hc];rfl
      cases hc:take&&zB wt&&Bp o rs with
      |true=>
       rw[hc]at h;simp only[aC]at hc;obtain⟨⟨rfl,cr⟩,hmr⟩:=hc;obtain⟨s,hs⟩:=rX.1 hmr;obtain⟨x,hx,_⟩:=kq o s hs;have hvx:v=x:=by
        have hwt1:kS wt=false:=by cases wt<;>first|rfl|cases cr
        have hc1:v.cells=[v]:=mT λds e=>by rw[e,hwt1]at k4;cases k4
        have hc2:(cs.map (·.1))[o]?=some x:=by rw[List.getElem?_map,hx];rfl
        have hc3:((cs.map (·.1)).drop o).take 1=[v]:=by
         have:cZ U wt=1:=by cases wt<;>first|rfl|cases hwt1
         rw[this]at k3;rw[<-k3,hc1]
        have hc4:=congrArg (·[0]?) hc3;simp only[List.getElem?_take,List.getElem?_drop,aU]at hc4;rw[bI (by omega),Nat.add_zero,hc2]at hc4
        exact(Option.some.inj hc4).symm
       have hpt:fK p (.ptr id o)=(p.mark id (.box (cs.set o (x,false))),true):=by simp only[fK,bc,hx]
       obtain⟨m1,m2⟩:=Mm.mark hf he hid (qk (aMB o 1 rs) (λi s hi=>by
        obtain⟨y1,y2⟩:=Qb hi;exact⟨y1,λe=>y2 ⟨by simp only;omega,by simp only;omega⟩⟩) x true hx)
       refine⟨_,_,v,true,_,h,?_,⟨k2,?_⟩,m1,m2⟩
       .simp only[rP,hl,hisSl cr,Bool.and_self,aI,hpt]
       .intro i s' hi;obtain⟨y1,y2⟩:=Fa hi;obtain⟨x',lp,fy⟩:=kq _ _ y1;have hi0:i=0:=by simp only at y2;omega
        subst hi0;simp only[Nat.zero_add]at lp;rw[hx]at lp;cases lp;refine .inr ⟨rfl,?_,rfl,λe1=>by rw[hvx];exact fy e1⟩
        rw[k4];cases wt<;>first|rfl|cases cr
      |false=>
       rw[hc]at h;simp only[aJ]at h;cases jy:take&&Aa v with
       |false=>
        exact⟨_,_,v,false,p,h,by simp only[rP,hl,jy,aJ],⟨k2,bW _ _⟩,Mm,λhw=>hw⟩
       |true=>
        have hred:rP P take p t (.ptr id o)=some (v,(fK p (.ptr id o)).2,(fK p (.ptr id o)).1):=by simp only[rP,hl,jy,aI]
        simp only[aC]at jy;have cr:zB wt=true:=by
         cases hh:zB wt with
         |true=>rfl
         |false=>rw[hslNo hh]at jy;cases jy.2
        have hnm:Bp o rs=false:=by rw[jy.1,cr]at hc;simpa using hc
        refine⟨_,M,v,(fK p (.ptr id o)).2,(fK p (.ptr id o)).1,h,hred,⟨k2,bW _ _⟩,?_⟩;cases hx:cs[o]? with
        |none=>rw[show fK p (.ptr id o)=(p,false) by simp only[fK,bc,hx]];exact⟨Mm,λhw=>hw⟩
        |some y=>
         obtain⟨x,b⟩:=y;cases b with
         |false=>rw[show fK p (.ptr id o)=(p,false) by simp only[fK,bc,hx]];exact⟨Mm,λhw=>hw⟩
         |true=>
          rw[show fK p (.ptr id o)=(p.mark id (.box (cs.set o (x,false))),true) by simp only[fK,bc,hx]]
          have:=Mm.mark hf he hid (qk rs (λi s hi=>⟨hi,λe=>by
           rw[e]at hi;rw[rX.2 ⟨s,hi⟩]at hnm;cases hnm⟩) x true hx)
          rwa [Dz hf]at this
    .cases h
   ·
    rename_i f caps;obtain⟨pv,b,rfl,hpv⟩:=hcs;split at h
    .cases hb:T.T.fn t&&Nat.beq off 0 with
     |false=>rw[hb]at h;cases h
     |true=>
      rw[hb]at h;simp only[aC,cQ,aD]at hb;obtain⟨gh,rfl⟩:=hb;obtain⟨ha,_,_⟩:=hT.fn t gh;have hl:jF P p t (.ptr id 0)=some pv:=by simp only[jF,bc,pA,ha];rfl
      have hpv2:=hpv;obtain⟨ps,e1,_⟩:=hpv2;refine⟨_,_,pv,false,p,h,?_,⟨hpv,bW _ _⟩,Mm,λhw=>hw⟩
      have:Aa pv=false:=by rw[e1];rfl
      simp only[rP,hl,this,Bool.and_false,aJ]
    .cases h
   .cases h
  .cases h
 ·
  rename_i k i off path;obtain⟨e,id,he,hid,hi0,hi1,rfl⟩:=ra;split at h
  .rename_i et l hf;obtain⟨e',dz,hn,hz,bi⟩:=Mm.bx k _ hf;rw[he]at dz;cases dz;rcases bi with⟨dn,_⟩|⟨id',cw,bc⟩
   .rw[hid]at dn;cases dn
   .rw[hid]at cw;cases cw;obtain⟨y,hy,h⟩:=mD h;obtain⟨_,hy1,_⟩:=vV hy;split at h
    .rename_i ty w o fj hp;cases hb:w.t.beq ty&&Nat.beq o off with
     |false=>rw[hb]at h;cases h
     |true=>
      rw[hb]at h;simp only[aI]at h;simp only[aC,cQ,aD]at hb;obtain⟨ky,rfl⟩:=hb;obtain⟨wt,wx⟩:=w;have:=Ty.beq_eq ky;subst this;obtain⟨g1,g2⟩:=sX hU hp (SR.self hU et y);have rj:=HJ hU hy1;rw[<-rj,List.drop_take,List.drop_drop,List.take_take,Nat.min_eq_left (by simp only at g2⊢;omega)]at g1
      obtain⟨v,k1,k2,k3,k4⟩:=vM hU hT fj g1;have hl:jF P p t (.ptr id (i.toNat*e.z+o))=some v:=by simp only[jF,bc,hz];exact k1
      refine⟨_,_,v,false,p,h,?_,⟨k2,bW _ _⟩,Mm,λhw=>hw⟩
      have hpt:fK p (.ptr id (i.toNat*e.z+o))=(p,false):=by simp only[fK,bc]
      simp only[rP,hl,hpt];cases take&&Aa v<;>rfl
    .cases h
  .cases h
 .cases h
end
end Go.TV
namespace Go.TV
open Go.AI Go.PI
section
variable{P:Program}{U:gT}{T:TP U.D}{c c0:Cx}{W:Type}{r:W}{q p:PSt}{M:TM U.D}
def Uj{N:Type}(l s:List N)(o o' n m:Nat)(h1:o'+m<=n)(h2:o+n<=l.length):
    l.take (o+o')++s++l.drop (o+o'+m)=l.take o++(((l.drop o).take n).take o'++s++((l.drop o).take n).drop (o'+m))++l.drop (o+n):=by
 have e1:l.take (o+o')=l.take o++((l.drop o).take n).take o':=by
  rw[List.take_add,List.take_take,Nat.min_eq_left (by omega)]
 have e2:l.drop (o+o'+m)=((l.drop o).take n).drop (o'+m)++l.drop (o+n):=by
  rw[List.drop_take,List.drop_drop];have:l.drop (o+n)=(l.drop (o+(o'+m))).drop (n-(o'+m)):=by rw[List.drop_drop];congr 1;omega
  rw[this,List.take_append_drop,Nat.add_assoc]
 rw[e1,e2];simp only[aQ]
def K4{ts:List Ty}{cs s:List PV}{o n:Nat}(h:GM U ts cs)(hs:GM U ((ts.drop o).take n) s)(hl:s.length=n)(hle:o+n<=cs.length):GM U ts (cs.take o++s++cs.drop (o+n)):=λj z hj=>by
 have bh:(cs.take o).length=o:=by rw[List.length_take];omega
 rw[aQ]at hj;by_cases h1:j<o
 .rw[List.getElem?_append_left (by omega),List.getElem?_take,bI h1]at hj
  exact h j z hj
 .rw[List.getElem?_append_right (by omega),bh]at hj
  by_cases h2:j-o<n
  .rw[List.getElem?_append_left (by omega)]at hj
   obtain⟨e,g1,g2⟩:=hs _ z hj;rw[List.getElem?_take,bI h2,List.getElem?_drop]at g1;exact⟨e,by rw[<-g1];congr 1;omega,g2⟩
  .rw[List.getElem?_append_right (by omega),List.getElem?_drop]at hj
   have:o+n+(j-o-s.length)=j:=by omega
   rw[this]at hj;exact h j z hj
variable(hU:gO U)(hT:oQ P U T)
include hU
def MB{l:List (V U)}{i:Nat}{v w:V U}(h:l[i]?=some v)(ht:w.t=v.t):
    sH (l.set i w)=(sH l).take (eE U ((l.map λv=>v.t).take i))++(dB U w.t w.x).cells++(sH l).drop (eE U ((l.map λv=>v.t).take i)+cZ U v.t):=by
 induction l generalizing i with
 |nil=>simp at h
 |cons x l ih=>
  cases i with
  |zero=>
   simp only[aU,aA]at h;subst h;rw[List.set_cons_zero,iR,iR,List.take_zero,eE,List.take_zero,aW,Nat.zero_add,List.drop_left' (iH hU _ _)]
  |succ i=>
   rw[aT]at h;rw[List.set_cons_succ,iR,iR,ih h,aO,List.take_succ_cons,eE,Nat.add_assoc];have hl:=iH hU x.t x.x;rw[<-hl,List.take_length_add_append,List.drop_length_add_append];simp only[aQ]
def Po{path:List Nat}: ∀{v w c' old:V U} {o:Nat} {cs s:List PV},Sg U path v w=some c'->vX U path v=some (old,o)->SR v.t v.x cs->SR w.t w.x s->
    c'.t=v.t/\w.t=old.t/\SR c'.t c'.x (cs.take o++s++cs.drop (o+cZ U w.t)):=by
 induction path with
 |nil=>
  intro v w c' old o cs s h hp r rs;simp only[vX,aA,aB]at hp;obtain⟨rfl,rfl⟩:=hp;unfold Sg at h;cases hb:v.t.beq w.t with
  |false=>rw[hb]at h;cases h
  |true=>
   rw[hb]at h;simp only[aI,aA]at h;subst h;have:=Ty.beq_eq hb;refine⟨this.symm,this.symm,?_⟩;rw[List.take_zero,aW,Nat.zero_add,List.drop_eq_nil_of_le (by rw[r.len hU,this];exact aS _),bA]
   exact rs
 |cons i path ih=>
  intro v w c' old o cs s h hp r rs;obtain⟨vt,vx⟩:=v;unfold Sg at h;split at h
  .rename_i n x heq;cases heq;split at h
   .rename_i y hy;split at h
    .rename_i y' mj;split at h
     .rename_i z hz;cases h;unfold vX at hp;rw[show Fx U ⟨.rc n,x⟩ i=some y from hy]at hp
      simp only at hp;split at hp
      .rename_i r' ca;simp only[aA,aB]at hp;obtain⟨rfl,rfl⟩:=hp;have dg:vX U path y=some (r'.1,r'.2):=by rw[ca]
       have hpart:=r.fld hU hy;obtain⟨g1,g2,g3⟩:=ih mj dg hpart rs;obtain⟨g4,g5⟩:=sX hU dg hpart;have hun:=hU.un_of n _ z hz;have dx:cs.length=U.sz n:=r.len hU;have di:=hpart.len hU;rw[List.length_take,List.length_drop,dx]at di;have lq:=oC hU y.t;have hle:jM U n i+cZ U y.t<=cs.length:=by omega
       refine⟨rfl,g2,?_⟩;show SR (.rc n) z (cs.take (jM U n i+r'.2)++s++cs.drop (jM U n i+r'.2+cZ U w.t));rw[Uj cs s (jM U n i) r'.2 (cZ U y.t) (cZ U w.t) (by rw[g2];exact g5) hle]
       refine⟨?_,?_⟩
       .rw[pR,pR,AD,AE,r.wk,g3.wk];show _=U.en n z;rw[hU.en n z,hun];have:=MB hU hy g1;rw[hU.ty n x]at this;show _=sH _;rw[this];show(U.en n x).take _++_++(U.en n x).drop _=_;rw[hU.en n x];rfl
       .refine K4 r.z ?_ (by rw[g3.len hU,g1]) hle
        have h5:(((iO U (.rc n)).drop (jM U n i)).take (cZ U y.t))=iO U y.t:=BI hU (BH hU hy);have h6:iO U y'.t=iO U y.t:=by rw[g1]
        rw[h5,<-h6];exact g3.z
      .cases hp
     .cases h
    .cases h
   .cases h
  .cases h
omit hU in
def aMA(x:PV)(b:Bool):(fl x b).1=match x with| .nil=> .emp|x=>x:=by cases x<;>rfl
omit hU in
def aV3(x:PV)(b:Bool):wk (fl x b).1=wk x:=by cases x<;>rfl
omit hU in
def uO(x:PV)(b:Bool):(fl x b).1≠ .nil:=by cases x<;>simp[fl]
omit hU in
def SR.fl{t:Ty}{x:Den U.D t}{cs:List PV}(h:SR t x cs)(b:Bool):SR t x ((cs.map λc=>fl c b).map (·.1)):=by
 refine⟨?_,λj z hj=>?_⟩
 .rw[<-h.wk,lC,lC,List.map_map,List.map_map];exact List.map_congr_left λc _=>aV3 c b
 .rw[List.map_map,List.getElem?_map,aF]at hj;obtain⟨y,hy,e⟩:=hj;have mj:y= .sl z []:=by
   have e:(PI.fl y b).1= .sl z []:=e;rw[aMA]at e;split at e
   .cases e
   .exact e
  exact h.z j z (by rw[hy,mj])
omit hU in
def Us{rs:iL}{t:Ty}{x:Den U.D t}{pv:PV}{ow:Bool}(h:Tv rs pv ow)(hv:VR U t x pv):aXD rs (pv.cells.map λc=>fl c ow):=λo s hi=>by
 rcases h o s hi with⟨h1,h2⟩|⟨rfl,h1,h2,h3⟩
 .exact⟨.emp,by rw[List.getElem?_map,h2];rfl,λ_=>rfl⟩
 .have hc:pv.cells=[pv]:=mT λds e=>by rw[e]at h1;cases h1
  rw[hc];cases hn:jW pv with
  |true=>
   have:pv= .nil:=by cases pv<;>first|rfl|cases hn
   subst this;exact⟨.emp,rfl,λ_=>rfl⟩
  |false=>
   rw[hn,Bool.or_false]at h2;subst h2;refine⟨pv,?_,h3⟩;have:fl pv true=(pv,true):=by cases pv<;>first|rfl|cases hn
   simp[this]
def aJN(hT:oQ P U T){t:TypeId}{a:SV U.D}{x:X U}{p0 p1:PV}{ow:Bool}{K:TM U.D->Option W}(h:stT U T.T M t a x K=some r)(ra:rG U c a p0)(rx:oE U c x (p1,ow))(Mm:MR U q c0 c M p):
    ∃M' p',K M'=some r/\mK P p t p0 p1 ow=some p'/\MR U q c0 c M' p'/\(WR U c M p->WR U c M' p'):=by
 unfold stT at h;split at h
 ·
  rename_i k off path;obtain⟨e,id,he,hid,rfl⟩:=ra;have bh:=Mm.lt k e id he hid;split at h
  .rename_i Da rs hf;obtain⟨e',dz,id',cs,cw,bc,hcs,kq⟩:=Mm.bx k _ hf;rw[he]at dz;cases dz;rw[hid]at cw;cases cw;split at h
   .rename_i cv;split at h
    .rename_i ty w o fj hp;cases hb:w.t.beq ty&&Nat.beq o off with
     |false=>rw[hb]at h;cases h
     |true=>
      rw[hb]at h;simp only[aI]at h;simp only[aC,cQ,aD]at hb;obtain⟨ky,rfl⟩:=hb;have:=Ty.beq_eq ky;split at h
      .rename_i v hv;split at h
       .rename_i c' md;obtain⟨gt,jc⟩:=kM hU hv rx.1;obtain⟨h1,h2,h3⟩:=hcs;have hsr:SR cv.t cv.x (cs.map (·.1)):=⟨h1,h2⟩;have hs:=VR.sr jc;obtain⟨g1,g2,g3⟩:=Po hU md hp hsr (hs.fl ow);obtain⟨g4,g5⟩:=sX hU hp hsr;have dx:cs.length=cZ U cv.t:=by have:=hsr.len hU;rwa [List.length_map]at this
        have cq:gC P t=some (cZ U ty):=hT.sz t ty fj;have hn:p1.cells.length=cZ U ty:=by rw[hs.len hU,gt]
        have hle:o+cZ U ty<=cs.length:=by rw[dx,<-this];exact g5
        have c1:(Nat.beq p1.cells.length (cZ U ty)&&Nat.ble (o+cZ U ty) cs.length&&p1.cells.all PV.one)=true:=by
         rw[hs.one hU,hn,Nat.beq_refl,Bool.true_and,bE,Nat.ble_eq];exact hle
        refine⟨_,p.upd id (.box (cs.take o++p1.cells.map (λc=>fl c ow)++cs.drop (o+cZ U ty))),h,by simp only[mK,bc,cq,c1,aI],Mm.upd hf he hid ?_⟩
        refine⟨id,_,hid,by rw[kG bh,bI rfl],⟨?_,?_,?_⟩,?_⟩
        .rw[<-g3.wk,gt];simp only[List.map_append,List.map_take,List.map_drop]
        .rw[gt]at g3;have:=g3.z;simp only[List.map_append,List.map_take,List.map_drop];exact this
        .intro y hy;rcases List.mem_append.1 hy with hy|hy
         .rcases List.mem_append.1 hy with hy|hy
          .exact h3 y (List.mem_of_mem_take hy)
          .obtain⟨z,_,rfl⟩:=List.mem_map.1 hy;exact uO z ow
         .exact h3 y (List.mem_of_mem_drop hy)
        .intro i s hi;have htl:(cs.take o).length=o:=by rw[List.length_take];omega
         rcases List.mem_append.1 hi with hi|hi
         .obtain⟨j,e1,e2⟩:=VU hi;simp only at e1;subst e1;obtain⟨y,hy,hys⟩:=Us rx.2 jc j s e2;refine⟨y,?_,hys⟩;have hj:j<p1.cells.length:=by
           rcases Nat.lt_or_ge j p1.cells.length with h|h
           .exact h
           .rw[List.getElem?_eq_none (by rw[List.length_map];exact h)]at hy;cases hy
          rw[aQ,List.getElem?_append_right (by omega),htl,Nat.add_sub_cancel,List.getElem?_append_left (by rw[List.length_map];exact hj)]
          exact hy
         .obtain⟨e1,e2⟩:=Qb hi;obtain⟨y,hy,hys⟩:=kq i s e1;refine⟨y,?_,hys⟩;simp only at e2;rw[aQ];by_cases h4:i<o
          .rw[List.getElem?_append_left (by omega),List.getElem?_take,bI h4];exact hy
          .have h5:o+cZ U ty<=i:=by omega
           rw[List.getElem?_append_right (by omega),htl,List.getElem?_append_right (by rw[List.length_map];omega),List.length_map,hn,List.getElem?_drop]
           have:o+cZ U ty+(i-o-cZ U ty)=i:=by omega
           rw[this];exact hy
       .cases h
      .cases h
    .cases h
   ·
    split at h
    .rename_i f caps hx;cases hb:T.T.fn t&&Nat.beq off 0&&stT.isF U Da with
     |false=>rw[hb]at h;cases h
     |true=>
      rw[hb]at h;simp only[aI]at h;simp only[aC,cQ,aD]at hb;obtain⟨⟨gh,rfl⟩,hF⟩:=hb;obtain⟨_,cq,_⟩:=hT.fn t gh;have hx1:rG U c (.cl f caps) p1:=by have:=rx.1;rw[hx]at this;exact this
      obtain⟨ps,jo,fc⟩:=hx1;have hcs1: ∃y,cs=[y]:=by
       cases Da with
       |cl f' co=>obtain⟨pv,b,e1,_⟩:=hcs;exact⟨_,e1⟩
       |nf=>obtain⟨b,e1⟩:=hcs;exact⟨_,e1⟩
       |_=>cases hF
      obtain⟨y,rfl⟩:=hcs1;subst jo;refine⟨_,p.upd id (.box [(.fn f [] ps,ow)]),h,?_,Mm.upd hf he hid ?_⟩
      .simp only[mK,bc,cq];rfl
      .exact⟨id,_,hid,by rw[kG bh,bI rfl],⟨_,_,rfl,ps,rfl,fc⟩,λo s hi=>by cases hi⟩
    .cases h
  .cases h
 ·
  rename_i k i off path;obtain⟨e,id,he,hid,hi0,hi1,rfl⟩:=ra;have bh:=Mm.lt k e id he hid;split at h
  .rename_i et l hf;obtain⟨e',dz,hn,hz,bi⟩:=Mm.bx k _ hf;rw[he]at dz;cases dz;rcases bi with⟨dn,_⟩|⟨id',cw,bc⟩
   .rw[hid]at dn;cases dn
   .rw[hid]at cw;cases cw;obtain⟨y,hy,h8⟩:=mD h;clear h;have h:=h8;clear h8;obtain⟨_,hy1,hylt⟩:=vV hy;split at h
    .rename_i ty w o fj hp;cases hb:w.t.beq ty&&Nat.beq o off with
     |false=>rw[hb]at h;cases h
     |true=>
      rw[hb]at h;simp only[aI]at h;simp only[aC,cQ,aD]at hb;obtain⟨ky,rfl⟩:=hb;have:=Ty.beq_eq ky;split at h
      .rename_i v hv;split at h
       .rename_i c' md;split at h
        .rename_i z ln;obtain⟨gt,jc⟩:=kM hU hv rx.1;have hs:=VR.sr jc;have hsr:=SR.self hU et y;have hs2:SR v.t v.x (dB U v.t v.x).cells:=SR.self hU v.t v.x;obtain⟨g1,g2,g3⟩:=Po hU md hp hsr hs2;obtain⟨g4,g5⟩:=sX hU hp hsr;have ec:=mR ln;have cq:gC P t=some (cZ U ty):=hT.sz t ty fj;have hpn:p1.cells.length=cZ U ty:=by rw[hs.len hU,gt]
         have fm:((l.map (dB U et)).flatMap PV.cells).length=l.length*cZ U et:=by
          have:=gW (z:=cZ U et) (es:=l.map (dB U et)) (λe' dz=>by obtain⟨a,_,rfl⟩:=List.mem_map.1 dz;exact iH hU _ _)
          rw[List.length_map]at this;exact this
         have hmul:i.toNat*cZ U et+cZ U et<=l.length*cZ U et:=by rw[<-Nat.succ_mul];exact Nat.mul_le_mul_right _ hylt
         have hoz:o+cZ U ty<=cZ U et:=by rw[<-this];exact g5
         have c1:(Nat.beq p1.cells.length (cZ U ty)&&Nat.ble (i.toNat*e.z+o+cZ U ty) ((l.map (dB U et)).flatMap PV.cells).length&&p1.cells.all PV.one)=true:=by
          rw[hs.one hU,hpn,Nat.beq_refl,Bool.true_and,bE,Nat.ble_eq,fm,hz];omega
         refine⟨_,p.upd id (.row e.z (kS et) (((l.map (dB U et)).flatMap PV.cells).take (i.toNat*e.z+o)++PI.wks p1.cells++((l.map (dB U et)).flatMap PV.cells).drop (i.toNat*e.z+o+cZ U ty))),h,by simp only[mK,bc,cq,c1,aI],Mm.upd hf he hid ?_⟩
         refine⟨by rw[List.length_set];exact hn,hz,.inr ⟨id,hid,?_⟩⟩
         rw[kG bh,bI rfl];congr 2;have hz2:(dB U et z).cells=(dB U et y).cells.take o++PI.wks p1.cells++(dB U et y).cells.drop (o+cZ U ty):=by
          have h6:=g3.wk;have e6:(⟨c'.t,c'.x⟩:TV U.D)=⟨et,z⟩:=ec;have h7:(dB U (⟨c'.t,c'.x⟩:TV U.D).t (⟨c'.t,c'.x⟩:TV U.D).x).cells=(dB U et z).cells:=by rw[e6]
          rw[<-h7,<-h6];simp only[pR,AD,AE,gt];rw[Fw (qW hU et y),hs.wk];congr 2;exact Fw (qW hU v.t v.x)
         have hfs:((l.set i.toNat z).map (dB U et)).flatMap PV.cells=wQ (eD (l.map (dB U et))) (i.toNat*cZ U et) (dB U et z).cells:=by
          rw[List.map_set];exact JN (λe' dz=>by obtain⟨a,_,rfl⟩:=List.mem_map.1 dz;exact iH hU _ _) (by rw[List.length_map];exact hylt) (iH hU _ _)
         rw[hfs,PT _ _ _ (by rw[iH hU];show _<=((l.map (dB U et)).flatMap PV.cells).length;rw[fm];exact hmul),iH hU,hz2,hz]
         show((l.map (dB U et)).flatMap PV.cells).take (i.toNat*cZ U et+o)++_++((l.map (dB U et)).flatMap PV.cells).drop (i.toNat*cZ U et+o+cZ U ty)=_;rw[Uj _ _ (i.toNat*cZ U et) o (cZ U et) (cZ U ty) hoz (by rw[fm];exact hmul),HJ hU hy1]
         rfl
        .cases h
       .cases h
      .cases h
    .cases h
  .cases h
 .cases h
end
end Go.TV
namespace Go.TV
open Go.AI Go.PI
section
variable{P:Program}{U:gT}{T:TP U.D}{c c0:Cx}{W:Type}{r:W}{q p:PSt}{M:TM U.D}
def lI(c:Cx)(k:Nat)(e:Ce):Cx:=λj=>if j=k then some e else c j
def kD{k:Nat}{e:Ce}(h:c k=none):leC c (lI c k e):=λj e' hj=>by
 unfold lI;by_cases e1:j=k
 .subst e1;rw[h]at hj;cases hj
 .rw[bH e1];exact hj
def Qj{p:PSt}{o:jU}{id:Nat}(h:id<p.next):(p.new o).get id=p.get id:=by
 rw[kH,bH (by omega)]
def MR.new(Mm:MR U q c0 c M p){k:Nat}(hk:100<=k)(hf:dE M.bx k=none){o:jU}{b:BC U.D}{n z:Nat}(hr:Ag U (lI c k ⟨some p.next,n,z⟩) (p.new o) ⟨some p.next,n,z⟩ b):
    MR U q c0 (lI c k ⟨some p.next,n,z⟩) ⟨(k,b)::M.bx,M.wr⟩ (p.new o)/\(WR U c M p->WR U (lI c k ⟨some p.next,n,z⟩) ⟨(k,b)::M.bx,M.wr⟩ (p.new o)):=by
 have hc:=Mm.dom k hf;refine⟨⟨λj h=>?_,λj y h=>?_,λj e id h1 h2=>?_,λj j' e e' id h1 h2 h3 h4=>?_,Nat.le_succ_of_le Mm.next,λj e h1 h2=>?_,λj e id h1 h2 h3=>?_,λid hi ho=>?_,Mm.dirty,λid hi=>?_⟩,λhw id hi j e h1 h2=>?_⟩
 .rw[gD]at h;by_cases e1:j=k
  .rw[bI e1]at h;cases h
  .rw[bH e1]at h;unfold lI;rw[bH e1];exact Mm.dom j h
 .rw[gD]at h;by_cases e1:j=k
  .rw[bI e1]at h;simp only[aA]at h;subst h;exact⟨_,by unfold lI;rw[bI e1],hr⟩
  .rw[bH e1]at h;obtain⟨e,g1,g2⟩:=Mm.bx j y h;exact⟨e,kD hc j e g1,tH (XE (kD hc) g2) λid hid=>Qj (Mm.lt j e id g1 hid)⟩
 .unfold lI at h1;by_cases e1:j=k
  .rw[bI e1]at h1;cases h1;cases h2;exact Nat.lt_succ_self _
  .rw[bH e1]at h1;exact Nat.lt_succ_of_lt (Mm.lt j e id h1 h2)
 .unfold lI at h1 h2;by_cases e1:j=k<;>by_cases e2:j'=k
  .rw[e1,e2]
  .rw[bI e1]at h1;rw[bH e2]at h2;cases h1;cases h3;have:=Mm.lt j' e' _ h2 h4;omega
  .rw[bH e1]at h1;rw[bI e2]at h2;cases h2;cases h4;have:=Mm.lt j e _ h1 h3;omega
  .rw[bH e1]at h1;rw[bH e2]at h2;exact Mm.inj j j' e e' id h1 h2 h3 h4
 .unfold lI at h1;by_cases e1:j=k
  .omega
  .rw[bH e1]at h1;exact Mm.bor j e h1 h2
 .unfold lI at h1;by_cases e1:j=k
  .rw[bI e1]at h1;cases h1;cases h3;exact Mm.next
  .rw[bH e1]at h1;exact Mm.loc j e id h1 h2 h3
 .rw[Qj (Nat.lt_of_lt_of_le hi Mm.next)];exact Mm.old id hi ho
 .obtain⟨g1,g2⟩:=Mm.wr id hi;exact⟨Nat.lt_succ_of_lt g1,g2⟩
 .unfold lI at h1;by_cases e1:j=k
  .rw[bI e1]at h1;cases h1;cases h2;have:=(Mm.wr _ hi).1;omega
  .rw[bH e1]at h1;exact hw id hi j e h1 h2
def MR.new0(Mm:MR U q c0 c M p){k:Nat}(hk:100<=k)(hf:dE M.bx k=none){b:BC U.D}{n z:Nat}(hr:Ag U (lI c k ⟨none,n,z⟩) p ⟨none,n,z⟩ b):
    MR U q c0 (lI c k ⟨none,n,z⟩) ⟨(k,b)::M.bx,M.wr⟩ p/\(WR U c M p->WR U (lI c k ⟨none,n,z⟩) ⟨(k,b)::M.bx,M.wr⟩ p):=by
 have hc:=Mm.dom k hf;have un: ∀{j:Nat} {e:Ce} {id:Nat},lI c k ⟨none,n,z⟩ j=some e->e.id=some id->c j=some e:=by
  intro j e id h1 h2;unfold lI at h1;by_cases e1:j=k
  .rw[bI e1]at h1;cases h1;cases h2
  .rw[bH e1]at h1;exact h1
 refine⟨⟨λj h=>?_,λj y h=>?_,λj e id h1 h2=>Mm.lt j e id (un h1 h2) h2,λj j' e e' id h1 h2 h3 h4=>Mm.inj j j' e e' id (un h1 h3) (un h2 h4) h3 h4,Mm.next,λj e h1 h2=>?_,λj e id h1 h2 h3=>Mm.loc j e id (un h1 h3) h2 h3,Mm.old,Mm.dirty,Mm.wr⟩,λhw id hi j e h1 h2=>hw id hi j e (un h1 h2) h2⟩
 .rw[gD]at h;by_cases e1:j=k
  .rw[bI e1]at h;cases h
  .rw[bH e1]at h;unfold lI;rw[bH e1];exact Mm.dom j h
 .rw[gD]at h;by_cases e1:j=k
  .rw[bI e1]at h;simp only[aA]at h;subst h;exact⟨_,by unfold lI;rw[bI e1],hr⟩
  .rw[bH e1]at h;obtain⟨e,g1,g2⟩:=Mm.bx j y h;exact⟨e,kD hc j e g1,XE (kD hc) g2⟩
 .unfold lI at h1;by_cases e1:j=k
  .omega
  .rw[bH e1]at h1;exact Mm.bor j e h1 h2
def MR.gone(Mm:MR U q c0 c M p){k:Nat}{b:BC U.D}(hb:dE M.bx k=some b)(w:List Nat):MR U q c0 c ⟨oV M.bx k .gone,w⟩ p:=by
 refine⟨λj h=>?_,λj y h=>?_,Mm.lt,Mm.inj,Mm.next,Mm.bor,Mm.loc,Mm.old,Mm.dirty,Mm.wr⟩
 .simp only[jQ]at h;by_cases hj:j=k
  .rw[bI hj,hb]at h;cases h
  .rw[bH hj]at h;exact Mm.dom j h
 .simp only[jQ]at h;by_cases hj:j=k
  .subst hj;rw[bI rfl,hb]at h;simp only[aK,aA]at h;subst h;obtain⟨e,h1,_⟩:=Mm.bx j b hb;exact⟨e,h1,trivial⟩
  .rw[bH hj]at h;exact Mm.bx j y h
variable(hU:gO U)(hT:oQ P U T)
def pF{k:Nat}{b:BC U.D}{K:TM U.D->Option W}(h:LA U M k b K=some r):dE M.bx k=none/\K ⟨(k,b)::M.bx,M.wr⟩=some r:=by
 unfold LA at h;split at h
 .rename_i e;exact⟨e,h⟩
 .cases h
include hU hT
def aNX{S':PS}{o:Oper}{d:Option Tmp}{t:TypeId}{K:X U->TM U.D->Option W}(ho:o.op= .alloc t)(h:a2M U T.T M d t K=some r)(Mm:MR U q c0 c M p):
    ∃c' x M' v p',K x M'=some r/\eO P p S' o=some (v,false,p')/\leC c c'/\oE U c' x (v,false)/\MR U q c0 c' M' p'/\(WR U c M p->WR U c' M' p'):=by
 unfold a2M at h;split at h
 .rename_i d;split at h
  .rename_i ty fj;obtain⟨hf,hk⟩:=pF h;have hz:=hT.zc t ty fj;have hc:=Mm.dom _ hf;have hsr:=K3 hU ty;obtain⟨g1,g2⟩:=Mm.new (o:= .box ((GH U ty).map λc=>fl c false)) (n:=0) (z:=0) (b:= .bx (.val ⟨ty,nH U ty⟩) (vP U ty)) (Nat.le_add_right 100 d) hf ⟨p.next,_,rfl,by rw[kH,bI rfl],⟨(hsr.fl false).wk,(hsr.fl false).z,λy hy=>by
          obtain⟨z,_,rfl⟩:=List.mem_map.1 hy;exact uO z false⟩,λi s hi=>⟨.emp,by rw[List.getElem?_map,GG hU ty i s hi];rfl,λ_=>rfl⟩⟩
   exact⟨_,_,_,.ptr p.next 0,_,hk,by simp only[eO,ho,hz],kD hc,⟨⟨_,_,by unfold lI;rw[bI rfl],rfl,rfl⟩,bW _ _⟩,g1,g2⟩
  .cases gh:T.T.fn t with
   |false=>rw[gh]at h;cases h
   |true=>
    rw[gh]at h;obtain⟨hf,hk⟩:=pF h;obtain⟨_,_,hz⟩:=hT.fn t gh;have hc:=Mm.dom _ hf;obtain⟨g1,g2⟩:=Mm.new (o:= .box [(.v .nilFunc,false)]) (n:=0) (z:=0) (b:= .bx .nf []) (Nat.le_add_right 100 d) hf ⟨p.next,_,rfl,by rw[kH,bI rfl],⟨_,rfl⟩,λi s hi=>by cases hi⟩
    exact⟨_,_,_,.ptr p.next 0,_,hk,by simp only[eO,ho,hz];rfl,kD hc,⟨⟨_,_,by unfold lI;rw[bI rfl],rfl,rfl⟩,bW _ _⟩,g1,g2⟩
 .cases h
omit hT in
def aNC{S:TS U.D}{S':PS}(F:kU U c S S'){o:Oper}{d:Option Tmp}{t:TypeId}{x:Operand}{K:X U->TM U.D->Option W}(ho:o.op= .box t x)(h:a2J U T.T M d t (iQ U S x) K=some r)(Mm:MR U q c0 c M p):
    ∃c' x M' v p',K x M'=some r/\eO P p S' o=some (v,false,p')/\leC c c'/\oE U c' x (v,false)/\MR U q c0 c' M' p'/\(WR U c M p->WR U c' M' p'):=by
 have rx:=cX F x;unfold a2J at h;split at h
 .rename_i d;split at h
  .rename_i ty fj;split at h
   .rename_i v hv;obtain⟨hf,hk⟩:=pF h;obtain⟨gt,jc⟩:=kM hU hv rx.1;have hsr:=VR.sr jc;have hc:=Mm.dom _ hf;have kq:=(rZ rx).2;obtain⟨g1,g2⟩:=Mm.new (o:= .box ((cP S' x).cells.map λc=>fl c false)) (n:=0) (z:=0) (b:= .bx (.val v) (qU U (iQ U S x)).2) (Nat.le_add_right 100 d) hf ⟨p.next,_,rfl,by rw[kH,bI rfl],⟨(hsr.fl false).wk,(hsr.fl false).z,λy hy=>by
            obtain⟨z,_,rfl⟩:=List.mem_map.1 hy;exact uO z false⟩,Us kq jc⟩
    exact⟨_,_,_,.ptr p.next 0,_,hk,by simp only[eO,ho,hsr.one hU,aI],kD hc,⟨⟨_,_,by unfold lI;rw[bI rfl],rfl,rfl⟩,bW _ _⟩,g1,g2⟩
   .cases h
  .split at h
   .rename_i f caps hx;obtain⟨hf,hk⟩:=pF h;have h1:=rx.1;rw[hx]at h1;obtain⟨ps,jo,fc⟩:=h1;have hc:=Mm.dom _ hf;obtain⟨g1,g2⟩:=Mm.new (o:= .box [(.fn f [] ps,false)]) (n:=0) (z:=0) (b:= .bx (.cl f caps) []) (Nat.le_add_right 100 d) hf ⟨p.next,_,rfl,by rw[kH,bI rfl],⟨_,_,rfl,ps,rfl,FX (kD hc) fc⟩,λi s hi=>by cases hi⟩
    have jo:cP S' x= .fn f [] ps:=jo;exact⟨_,_,_,.ptr p.next 0,_,hk,by simp only[eO,ho,jo];rfl,kD hc,⟨⟨_,_,by unfold lI;rw[bI rfl],rfl,rfl⟩,bW _ _⟩,g1,g2⟩
   .cases h
 .cases h
omit hT in
def HH(e:Ty): ∀n,iJ (wks (GH U e)) n=((pT (nH U e) n).map (dB U e)).flatMap PV.cells
 |0=>rfl
 |n+1=>by rw[iJ,pT,aO,aN,HH e n,K2 hU]
omit hU hT in
def A3{N:Type}(x:N): ∀n,(pT x n).length=n
 |0=>rfl
 |n+1=>by rw[pT,aM,A3 x n]
def aLv{S:TS U.D}{S':PS}(F:kU U c S S'){o:Oper}{d:Option Tmp}{t:TypeId}{l k:Operand}{K:X U->TM U.D->Option W}(ho:o.op= .makeSlice t l k)(h:a0U U T.T M d t (a1d l) T.el (iQ U S l).1 (iQ U S k).1 K=some r)(Mm:MR U q c0 c M p):
    ∃c' x M' v own p',K x M'=some r/\eO P p S' o=some (v,own,p')/\leC c c'/\oE U c' x (v,own)/\MR U q c0 c' M' p'/\(WR U c M p->WR U c' M' p'):=by
 have rl:=(cX F l).1;have rk:=(cX F k).1;unfold a0U at h;split at h
 .rename_i et fe n m fj ta hl hk;rw[hl]at rl;rw[hk]at rk;have el:cP S' l= .v (.int .i64 n):=iF rl;have ek:cP S' k= .v (.int .i64 m):=iF rk;clear rl rk hl hk;obtain⟨n',hn'⟩: ∃n':Int,n'=n:=⟨n,rfl⟩;subst hn';obtain⟨m',qm⟩: ∃m':Int,m'=m:=⟨m,rfl⟩;subst qm;obtain⟨hc,h⟩:=eX h;simp only[aC,aD]at hc;obtain⟨⟨⟨hc1,hc2⟩,hc3⟩,hc4⟩:=hc;obtain⟨eid',hu,gu,gj⟩:=hT.un t _ fj;rw[ta]at gj;cases gj;obtain⟨info,z,hi,cq,hby,hb1,hz,jb,hzc,hzp⟩:=hT.inf fe et gu;have kd:=hT.ag fe et gu;have jo:=oC hU et;have c0: ∀(n' m':Int),0<=n'->n'<=m'->m'*(T.T.by' fe:Int)<=1073741824->m'<=1073741824->(decide (0<=n')&&decide (n'<=m')&&decide (m'*(info.bytes:Int)<=1073741824)&&decide (m'<=1073741824)&&z.cells.toList.all bR&&Nat.beq z.cells.size info.size&&Nat.ble 1 info.size&&(kS et||Nat.beq info.size 1))=true:=by
   intro n' m' hc1 hc2 hc3 hc4;rw[jb,cq,hby,hzp,Nat.beq_refl,(by rw[Nat.ble_eq];exact jo:Nat.ble 1 (cZ U et)=true),bF hc1,bF hc2,bF hc3,bF hc4]
   cases et<;>rfl
  have c1:=c0 n' m' hc1 hc2 hc3 hc4;have rt:eO P p S' o=bif decide (n'=0)then some (.sl info.size [],true,p)else bif decide (n'=m')then some (.rs p.next 0 n'.toNat,false,p.new (.row info.size (kS et) (iJ (wks (ofVs z.cells.toList)) n'.toNat)))else none:=by
   simp only[eO,ho,hu,el,ek,hi,kd,hz,c1,aI]
  have pk:VR U (.sl et) [] (.sl (cZ U et) []):=⟨rfl,λj z' hj=>by
   cases j with
   |zero=>simp only[PV.cells,aU,aA,PV.sl.injEq]at hj;exact⟨et,rfl,hj.1.symm⟩
   |succ j=>simp[PV.cells]at hj⟩
  cases np:a1d l with
  |true=>
   rw[np]at h;obtain⟨hn,h⟩:=eX h;have hn:=bK hn;refine⟨c,_,_,.sl (cZ U et) [],true,p,h,?_,leC.refl c,⟨pk,?_⟩,Mm,λhw=>hw⟩
   .rw[rt,bF hn,aI,cq]
   .intro i s hi;simp only[List.mem_singleton,aB]at hi;exact .inr ⟨hi.1,rfl,rfl,λe=>by rw[hi.2]at e;cases e⟩
  |false=>
   rw[np]at h;obtain⟨hn,h⟩:=eX h;have hn:=bK hn;cases d with
   |none=>cases h
   |some d=>
    obtain⟨hf,hk⟩:=pF h;have hcn:=Mm.dom _ hf;by_cases h0:n'=0
    .have h00:n'.toNat=0:=by omega
     obtain⟨g1,g2⟩:=Mm.new0 (b:= .row et (pT (nH U et) n'.toNat)) (n:=0) (z:=cZ U et) (Nat.le_add_right 100 d) hf ⟨by rw[A3,h00],rfl,.inl ⟨rfl,by rw[h00];rfl⟩⟩
     refine⟨_,_,_,.sl (cZ U et) [],true,p,hk,by rw[rt,bF h0,aI,cq],kD hcn,⟨⟨_,by unfold lI;rw[bI rfl],.inl ⟨rfl,rfl,.inl rfl⟩⟩,bW _ _⟩,g1,g2⟩
    .obtain⟨g1,g2⟩:=Mm.new (o:= .row (cZ U et) (kS et) (iJ (wks (ofVs z.cells.toList)) n'.toNat)) (b:= .row et (pT (nH U et) n'.toNat)) (n:=n'.toNat) (z:=cZ U et) (Nat.le_add_right 100 d) hf ⟨by rw[A3],rfl,.inr ⟨p.next,rfl,by rw[kH,bI rfl,hzc,HH hU]⟩⟩
     refine⟨_,_,_,.rs p.next 0 n'.toNat,false,_,hk,by rw[rt,bG h0,aJ,bF hn,aI,cq],kD hcn,⟨⟨_,by unfold lI;rw[bI rfl],.inr ⟨_,rfl,by
      have k1:(0:Int)<=n':=hc1;have k2: ¬(n':Int)=0:=h0;simp only;omega,rfl⟩⟩,bW _ _⟩,g1,g2⟩
 .cases h
omit hT in
def qO{n:Nat}: ∀(l:List (U.D n)),mS (U.sz n) l.length ((l.map (dB U (.rc n))).flatMap PV.cells)=l.map (dB U (.rc n))
 |[]=>rfl
 |x::l=>by
  rw[aM,mS,aO,aN];have hl:(dB U (.rc n) x).cells.length=U.sz n:=iH hU (.rc n) x;rw[List.take_left' hl,List.drop_left' hl,qO l];rfl
omit hU hT in
def JQ{t:Ty}(h:kS t=false): ∀(l:List (Den U.D t)),(l.map (dB U t)).flatMap PV.cells=l.map (dB U t)
 |[]=>rfl
 |x::l=>by
  rw[aO,aN,JQ h l];have:(dB U t x).cells=[dB U t x]:=by
   cases t with
   |rc n=>cases h
   |sl t=>exact mO (eJ _ _)
   |_=>rfl
  rw[this];rfl
omit hU hT in
def JI{p:PSt}{x:PV×Bool}(h: ∀id off len,x.1≠ .rs id off len):aV2 p x=some (x,p):=by
 obtain⟨pv,b⟩:=x;cases pv with
 |rs id off len=>exact(h id off len rfl).elim
 |_=>rfl
omit hU hT in
def G6{S0:TS U.D}{S':PS}{t:Nat}(F:kU U c S0 S'):kU U c S0 (S'.set t (S'.at t)):=λk=>by
 rw[mU];by_cases e:k=t
 .rw[bI e,<-e];exact F k
 .rw[bH e];exact F k
omit hT in
def LO{S:TS U.D}{S':PS}(F:kU U c S S'){t:Nat}{R:TS U.D×TM U.D}(h:aOH U S M t=some R)(Mm:MR U q c0 c M p):
    ∃S'' p',jI p S' t=some (S'',p')/\kU U c R.1 S''/\MR U q c0 c R.2 p'/\(WR U c M p->WR U c R.2 p'):=by
 have hs:=F t;have same: ∀{x:SV U.D} {r:iL},kT S t=(x,r)->(∀id off len,(S'.at t).1≠ .rs id off len)->R=((t,(x,r))::S,M)->
      ∃S'' p',jI p S' t=some (S'',p')/\kU U c R.1 S''/\MR U q c0 c R.2 p'/\(WR U c M p->WR U c R.2 p'):=by
  intro x r hx bn hR;subst hR;refine⟨S'.set t (S'.at t),p,by simp only[jI,JI bn],?_,Mm,λhw=>hw⟩
  exact G6 (JJ F (show oE U c (x,r) (S'.at t) by rw[<-hx];exact hs))
 unfold aOH at h;split at h
 .rename_i k rr hx;split at h
  .rename_i e l hf;simp only[aA]at h;subst h;have h1:=hs.1;rw[hx]at h1;obtain⟨ce,pz,h1⟩:=h1;obtain⟨ce',hce',hn,hz,bi⟩:=Mm.bx k _ hf;rw[pz]at hce';cases hce';rcases h1 with⟨hid,hn0,hp⟩|⟨id,hid,hn1,hp⟩
   .have hl:l=[]:=List.length_eq_zero_iff.1 (by omega)
    subst hl;refine⟨S'.set t (S'.at t),p,by rw[jI,JI (by rcases hp with hp|hp<;>(rw[hp];intro _ _ _ e;cases e))],?_,Mm.gone hf _,λhw i hi j e' g1 g2=>by
     show(Nat.beq k j||dQ j M.wr)=true;rw[hw i hi j e' g1 g2,Bool.or_true]⟩
    refine qL F ⟨?_,bW _ _⟩;show VR U (.sl e) [] (S'.at t).1;rcases hp with hp|hp
    .rw[hp,hz];exact⟨rfl,λj z' hj=>by
      cases j with
      |zero=>simp only[PV.cells,aU,aA,PV.sl.injEq]at hj;exact⟨e,rfl,hj.1.symm⟩
      |succ j=>simp[PV.cells]at hj⟩
    .rw[hp];exact uB e [] (z:=cZ U e) (es:=[]) rfl rfl
   .rcases bi with⟨dn,_⟩|⟨id',cw,bc⟩
    .rw[hid]at dn;cases dn
    .rw[hid]at cw;cases cw;have fm:((l.map (dB U e)).flatMap PV.cells).length=l.length*cZ U e:=by
      have:=gW (z:=cZ U e) (es:=l.map (dB U e)) (λe' dz=>by obtain⟨a,_,rfl⟩:=List.mem_map.1 dz;exact iH hU _ _)
      rw[List.length_map]at this;exact this
     have hpur:((l.map (dB U e)).flatMap PV.cells).all PV.pur=true:=by
      rw[bJ];intro x hx;obtain⟨y,hy,hx⟩:=List.mem_flatMap.1 hx;obtain⟨a,_,rfl⟩:=List.mem_map.1 hy;exact aMx (bJ.1 (qW hU e a) x hx)
     have jo:=oC hU e;have c1:(Nat.ble (0+ce.n*ce.z) ((l.map (dB U e)).flatMap PV.cells).length&&Nat.ble 1 ce.z&&(kS e||Nat.beq ce.z 1)&&((l.map (dB U e)).flatMap PV.cells).all PV.pur)=true:=by
      rw[fm,hpur,hz,hn,Nat.zero_add,(by rw[Nat.ble_eq];exact aS _:Nat.ble (l.length*cZ U e) (l.length*cZ U e)=true),(by rw[Nat.ble_eq];exact jo:Nat.ble 1 (cZ U e)=true)]
      cases e<;>rfl
     have pg:(bif kS e then mS ce.z ce.n ((((l.map (dB U e)).flatMap PV.cells).drop 0).take (ce.n*ce.z))else((((l.map (dB U e)).flatMap PV.cells).drop 0).take (ce.n*ce.z)))=l.map (dB U e):=by
      rw[List.drop_zero,List.take_of_length_le (by rw[fm,hn,hz];exact aS _)]
      cases hr:kS e with
      |true=>
       cases e with
       |rc n=>rw[aI,hz,hn];exact qO hU l
       |_=>cases hr
      |false=>rw[aJ];exact JQ hr l
     have hat:S'.at t=(.rs id 0 ce.n,(S'.at t).2):=by rw[<-hp]
     obtain⟨m1,m2⟩:=Mm.upd (o:= .gone) (b':= .gone) hf pz hid trivial;refine⟨S'.set t (dD ce.z (l.map (dB U e)),false),p.upd id .gone,?_,?_,m1,m2⟩
     .rw[jI,hat];simp only[aV2,bc,c1,aI,pg]
     .exact qL F ⟨uB _ _ hz rfl,bW _ _⟩
  .cases h
 .rename_i v rr hx;simp only[aA]at h;refine same hx ?_ h.symm;intro id off len e;have h1:=hs.1;rw[hx]at h1;have h2:VR U v.t v.x (S'.at t).1:=h1;have h3:=h2.wk;rw[e]at h3;obtain⟨vt,vx⟩:=v;cases vt with
  |sl t=>have:=eJ (cZ U t) (List.map (dB U t) vx);simp only[dB]at h3;rw[<-h3]at this;cases this
  |_=>cases h3
 .rename_i rr hx;simp only[aA]at h;refine same hx ?_ h.symm;intro id off len e;have h1:=hs.1;rw[hx]at h1;have h2:(S'.at t).1= .nil:=h1;rw[h2]at e;cases e
 .rename_i f caps rr hx;simp only[aA]at h;refine same hx ?_ h.symm;intro id off len e;have h1:=hs.1;rw[hx]at h1;obtain⟨ps,h2,_⟩:=h1;rw[h2]at e;cases e
 .cases h
end
end Go.TV
namespace Go.TV
open Go.AI Go.PI
section
variable{P:Program}{U:gT}{T:TP U.D}{c c0:Cx}{W:Type}{r:W}{q p:PSt}{M:TM U.D}
def Bd{S':PS}{x:Operand}(h:(gZ S' x||jW (cP S' x))=true):gZ S' x=true:=by
 cases x with
 |tmp t=>simpa [gZ,cP,Bool.or_assoc]using h
 |const v=>
  cases v with
  |slice b l k=>
   cases b with
   |none=>rfl
   |some b=>simp[gZ,cP,wW,jW]at h
  |_=>simp[gZ,cP,wW,jW]at h
 |global g=>simp[gZ,cP,jW]at h
 |func f=>simp[gZ,cP,jW]at h
variable(hU:gO U)(hT:oQ P U T)
include hU hT
def aNS{S:TS U.D}{S':PS}(F:kU U c S S'){cl:Call}{s x:Operand}{K:X U->Option W}(h:a2L U T.T T.el cl.argTypes.toList (iQ U S s) (iQ U S x).1 K=some r):
    ∃y v own,K y=some r/\sR P S' cl s x=some (v,own,lK S' s)/\oE U c y (v,own):=by
 have rs:=cX F s;have rx:=(cX F x).1;unfold a2L at h;split at h
 .rename_i t t1 jy;split at h
  .rename_i et fe e1 fj ta hty1;split at h
   .rename_i a l b w hs hx;split at h
    .rename_i l' w' hl hw;obtain⟨ci,mn⟩:=kM hU hs rs.1;obtain⟨hxt,hxv⟩:=kM hU hx rx;have e2:=mR hl;have e3:=mR hw;have mn:VR U (.sl et) l' (cP S' s):=by
      have:VR U (⟨a,l⟩:TV U.D).t (⟨a,l⟩:TV U.D).x (cP S' s):=mn;rw[e2]at this;exact this
     have hxv:VR U (.sl et) w' (cP S' x):=by
      have:VR U (⟨b,w⟩:TV U.D).t (⟨b,w⟩:TV U.D).x (cP S' x):=hxv;rw[e3]at this;exact this
     obtain⟨eid',hu,gu,gj⟩:=hT.un t _ fj;rw[ta]at gj;cases gj;obtain⟨eid1,hu1,_⟩:=hT.un t1 _ hty1;obtain⟨info,z,hi,cq,hby,hb1,hz,jb,hzc,hzp⟩:=hT.inf fe et gu;obtain⟨g1,g2⟩:=pC mn;obtain⟨k1,k2⟩:=pC hxv;have c1:(Nat.ble 1 info.size&&Nat.ble 1 info.bytes&&Nat.beq z.cells.size info.size)=true:=by
      rw[jb,Nat.beq_refl,cq,(by rw[Nat.ble_eq];exact oC hU et:Nat.ble 1 (cZ U et)=true),(by rw[Nat.ble_eq];exact hb1:Nat.ble 1 info.bytes=true)];rfl
     have ly:isAgg (cP S' s)=false:=mI (v:=⟨.sl et,l'⟩) mn rfl;have ru:sR P S' cl s x=(match w'.map (dB U et)with
              |[]=>some (cP S' s,gZ S' s,lK S' s)
              |xs=>bif gZ S' s&&Nat.ble (((l'.map (dB U et)).length+(w'.map (dB U et)).length)*info.bytes) 1073741824 then some (dD info.size (l'.map (dB U et)++w'.map (dB U et)),true,lK S' s)else none):=by
      have e4:mQ info.size (cP S' s)=some (l'.map (dB U et)):=by rw[cq];exact g1
      have e5:sQ info.size (.slice eid1) (cP S' x)=some (w'.map (dB U et)):=by rw[cq];exact k1
      simp only[sR,jy,hu,hu1,hi,e4,e5,hz,c1,aI];rfl
     cases hm:Bp 0 (iQ U S s).2 with
     |true=>
      rw[hm]at h;obtain⟨hc,h⟩:=eX h;obtain⟨st,hst2⟩:=rX.1 hm;have how:gZ S' s=true:=by
       rcases rs.2 0 st hst2 with⟨h1,_⟩|⟨_,_,h1,_⟩
       .rw[ly]at h1;cases h1
       .exact Bd h1
      cases w' with
      |nil=>
       refine⟨_,cP S' s,gZ S' s,h,by rw[ru];rfl,?_,rs.2⟩
       show VR U (.sl et) (l'++ []) (cP S' s);rw[bA];exact mn
      |cons w0 w'=>
       refine⟨_,dD info.size (l'.map (dB U et)++(w0::w').map (dB U et)),true,h,?_,uB _ _ cq (by rw[<-List.map_append]),?_⟩
       .rw[ru,how];simp only[aO,List.length_map,aM,hby];have md:Nat.ble ((l'.length+(w'.length+1))*T.T.by' fe) 1073741824=true:=hc
        rw[md];rfl
       .intro o s' jz;have hg:=eJ info.size (l'.map (dB U et)++(w0::w').map (dB U et));rcases rs.2 o s' jz with⟨h1,_⟩|⟨h1,_⟩
        .rw[ly]at h1;cases h1
        .refine .inr ⟨h1,?_,rfl,λ_=>xN hg⟩
         cases hc:dD info.size (l'.map (dB U et)++(w0::w').map (dB U et))<;>first|rfl|(rw[hc]at hg;cases hg)
     |false=>
      rw[hm]at h;obtain⟨hc,h⟩:=eX h;cases w' with
      |nil=>exact⟨_,cP S' s,gZ S' s,h,by rw[ru];rfl,mn,bW _ _⟩
      |cons w0 w'=>cases hc
    .cases h
   .cases h
  .cases h
 .cases h
def aEE{S:TS U.D}{S':PS}(F:kU U c S S'){ts:List TypeId}{t1 t2:TypeId}{s zz n x:Operand}{K:V U->V U->Option W}(h:aNT U T.T T.el ts t1 t2 (iQ U S s) (iQ U S zz).1 (iQ U S n).1 (iQ U S x).1 K=some r):
    ∃y w v,K y w=some r/\PY P ts t1 t2 (cP S' s) (gZ S' s) (cP S' zz) (cP S' n) (cP S' x)=some v/\oE U c (.val y,[(0,true)]) (v,true)/\rG U c (.ep w) (Sx v):=by
 have rs:=cX F s;have rz:=(cX F zz).1;have rn:=(cX F n).1;have rx:=(cX F x).1;unfold aNT at h;split at h
 .rename_i t tz;split at h
  .rename_i et fe e1 fj ta hty1;split at h
   .rename_i a l b y kk k v hs hz hn hx;split at h
    .rename_i l' y0 w' hl hy hw;rw[hn]at rn;cases hb:Bp 0 (iQ U S s).2&&Nat.beq t1 t&&Nat.beq t2 fe with
     |false=>rw[hb]at h;cases h
     |true=>
      rw[hb]at h;simp only[aC,cQ,aD]at hb;obtain⟨⟨hm,rfl⟩,rfl⟩:=hb;obtain⟨hc,h⟩:=eX h;simp only[aC,aD]at hc;obtain⟨ci,mn⟩:=kM hU hs rs.1;obtain⟨hzt,qy⟩:=kM hU hz rz;obtain⟨hxt,hxv⟩:=kM hU hx rx;have e2:=mR hl;have e3:=mR hy;have e4:=mR hw;have mn:VR U (.sl et) l' (cP S' s):=by
       have:VR U (⟨a,l⟩:TV U.D).t (⟨a,l⟩:TV U.D).x (cP S' s):=mn;rw[e2]at this;exact this
      have qy:VR U (.sl et) [y0] (cP S' zz):=by
       have:VR U (⟨b,y⟩:TV U.D).t (⟨b,y⟩:TV U.D).x (cP S' zz):=qy;rw[e3]at this;exact this
      have hxv:VR U et w' (cP S' x):=by
       have:VR U (⟨v.t,v.x⟩:TV U.D).t (⟨v.t,v.x⟩:TV U.D).x (cP S' x):=hxv;rw[e4]at this;exact this
      obtain⟨eid',hu,gu,gj⟩:=hT.un t1 _ fj;rw[ta]at gj;cases gj;obtain⟨eid1,hu1,_⟩:=hT.un tz _ hty1;obtain⟨info,z,hi,cq,hby,hb1,ln,jb,hzc,hzp⟩:=hT.inf t2 et gu;obtain⟨g1,g2⟩:=pC mn;obtain⟨k1,_⟩:=pC qy;have ly:isAgg (cP S' s)=false:=mI (v:=⟨.sl et,l'⟩) mn rfl;obtain⟨st,hst2⟩:=rX.1 hm;have how:gZ S' s=true:=by
       rcases rs.2 0 st hst2 with⟨h1,_⟩|⟨_,_,h1,_⟩
       .rw[ly]at h1;cases h1
       .exact Bd h1
      have e5:mQ info.size (cP S' s)=some (l'.map (dB U et)):=by rw[cq];exact g1
      have e6:sQ info.size (.slice eid1) (cP S' zz)=some [dB U et y0]:=by rw[cq];exact k1
      have e7:cP S' n= .v (.int kk k):=iF rn;have hlen:((l'.map (dB U et)).length+1)*info.bytes=(l'.length+1)*T.T.by' t2:=by rw[List.length_map,hby]
      have hlen2:(k:Int)=((l'.map (dB U et)).length:Int):=by rw[List.length_map];exact hc.2
      have c1:(Nat.ble 1 info.size&&Nat.ble 1 info.bytes&&Nat.beq z.cells.size info.size&&gZ S' s&&Nat.ble (((l'.map (dB U et)).length+1)*info.bytes) 1073741824&&Nat.beq t1 t1&&Nat.beq t2 t2&&decide ((k:Int)=((l'.map (dB U et)).length:Int))&&PI.shape (kS et) info.size (cP S' x))=true:=by
       rw[hlen,hc.1,bF hlen2,jb,cq,rJ hU hxv,how,(by rw[Nat.ble_eq];exact oC hU et:Nat.ble 1 (cZ U et)=true),(by rw[Nat.ble_eq];exact hb1:Nat.ble 1 info.bytes=true)]
       simp only[Nat.beq_refl,Bool.and_self]
      have bn:l'.map (dB U et)++ [wk (cP S' x)]≠ []:=by simp
      have lg:PV.sl info.size (l'.map (dB U et)++ [wk (cP S' x)])=dD info.size (l'.map (dB U et)++ [wk (cP S' x)]):=by
       cases hh:l'.map (dB U et)++ [wk (cP S' x)]with
       |nil=>exact(bn hh).elim
       |cons a b=>rfl
      refine⟨_,_,dD info.size (l'.map (dB U et)++ [wk (cP S' x)]),h,?_,⟨uB _ _ cq (by rw[List.map_append,hxv.wk];rfl),?_⟩,?_⟩
      .simp only[PY,hu,hu1,hi,hT.ag _ _ gu,e5,e6,ln,e7];rw[c1,<-lg];rfl
      .intro o s' jz;simp only[List.mem_singleton,aB]at jz;have hg:=eJ info.size (l'.map (dB U et)++ [wk (cP S' x)]);refine .inr ⟨jz.1,?_,rfl,λ_=>xN hg⟩
       cases hc:dD info.size (l'.map (dB U et)++ [wk (cP S' x)])<;>first|rfl|(rw[hc]at hg;cases hg)
      .rw[<-lg];refine⟨_,_,0,wk (cP S' x),rfl,by simp,?_⟩
       rw[hxv.wk,List.drop_zero];exact List.take_of_length_le (Nat.le_of_eq (iH hU et w'))
    .cases h
   .cases h
  .cases h
 .cases h
end
end Go.TV
namespace Go.TV
open Go.AI Go.PI
section
variable{P:Program}{U:gT}{T:TP U.D}{c c0:Cx}{W:Type}{r:W}{q p:PSt}{M:TM U.D}
structure CO(U:gT)(s:Dj)(d:List (V U))(p:PSt)(cc:Cx)(args:List (PV×Bool))(S0:TS U.D)(M0:TM U.D):Prop where
 start:EH U (cutOf s) d=some (S0,M0)
 len:args.length=s.ps.length
 args: ∀i y,args[i]?=some y->oE U cc (kT S0 i) y
 bx: ∀j b,dE M0.bx j=some b->∃e,cc j=some e/\Ag U cc p e b
 dom: ∀j,s.bx.length<=j->cc j=none
 lt: ∀j e id,cc j=some e->e.id=some id->id<p.next
 inj: ∀k k' e e' id,cc k=some e->cc k'=some e'->e.id=some id->e'.id=some id->k=k'
 wr: ∀id,id∈p.wr->id<p.next
structure Ro(U:gT)(s:Dj)(out:List (V U))(p:PSt)(cc:Cx)(pv:PV)(own:Bool)(p':PSt):Prop where
 res:oE U cc (zX U s.own (out.take s.rs.length)) (pv,own)
 out: ∃m,fA U s.bx s.bo (out.drop s.rs.length)=some m/\∀j x,m[j]?=some x->∃e,cc j=some e/\Ag U cc p' e x
 next:p'.next=p.next
 get: ∀id,id<p.next->(∀j e,cc j=some e->e.id≠some id)->p'.get id=p.get id
 get2: ∀id,id<p.next->id∉p'.dirty->p'.get id=p.get id
 dirty: ∀id,id∈p'.dirty->id∈p.dirty∨∃j e,cc j=some e/\e.id=some id
 dirty2: ∀id,id∈p.dirty->id∈p'.dirty
 wr: ∀id,id∈p'.wr->id∈p.wr∨∃j e,cc j=some e/\e.id=some id
def CallOK(U:gT)(T:TP U.D)(tc:kX U.D)(pc:fI):Prop:=
 ∀inst s d out,T.sig inst=some s->tc inst d=some out->∀p cc args S0 M0,CO U s d p cc args S0 M0->∃pv own p',pc s.f args p=some (pv,own,p')/\Ro U s out p cc pv own p'
def jR(c:Cx)(bk:List Nat):Cx:=λj=>if j<bk.length then c (jB bk j)else none
def vO: ∀(l:List Nat) (i:Nat),i<l.length->l[i]?=some (jB l i)
 |x::l,0,_=>rfl
 |x::l,i+1,h=>by rw[aT];exact vO l i (by simpa using h)
 |[],i,h=>by simp at h
def sZ: ∀{a b:List Nat},tP a b=true->a=b
 |[],[],_=>rfl
 |x::a,y::b,h=>by
  simp only[tP,aC,cQ,aD]at h;rw[h.1,sZ h.2]
 |[],_::_,h=>by cases h
 |_::_,[],h=>by cases h
def jH{i:Nat}: ∀{l:List Nat},dQ i l=true↔i∈l
 |[]=>by simp[dQ]
 |x::l=>by
  simp only[dQ,Bool.or_eq_true,cQ,aD,jH (l:=l),List.mem_cons];exact or_congr eq_comm Iff.rfl
def yX: ∀{l:List Nat},IP l=true->l.Nodup
 |[],_=>List.nodup_nil
 |x::l,h=>by
  simp only[IP,aC,Bool.not_eq_true']at h;refine List.nodup_cons.2 ⟨λhm=>?_,yX h.2⟩
  rw[jH.2 hm]at h;cases h.1
def aCq{bk:List Nat}(h:bk.Nodup){i j:Nat}(hi:i<bk.length)(hj:j<bk.length)(e:jB bk i=jB bk j):i=j:=by
 have h1:=vO bk i hi;have h2:=vO bk j hj;rw[<-e,<-h1]at h2;exact((List.getElem?_inj hj h).1 h2).symm
def FY{bk:List Nat}: ∀{caps:List Nat} {ps:List PV},sM caps bk.length=true->(tQ c (Fb (jB bk) caps) ps↔tQ (jR c bk) caps ps)
 |[],[],_=>Iff.rfl
 |k::ks,x::ps,h=>by
  simp only[sM,aC,gQ,aD]at h;simp only[Fb,tQ,jR,bI h.1];exact and_congr Iff.rfl (FY h.2)
 |[],_::_,_=>Iff.rfl
 |_::_,[],_=>Iff.rfl
def Kw{bk:List Nat}: ∀{caps:List Nat} {ps:List PV},tQ (jR c bk) caps ps->tQ c (Fb (jB bk) caps) ps
 |[],[],_=>trivial
 |k::ks,x::ps,⟨⟨e,id,h1,h2,h3⟩,h4⟩=>by
  unfold jR at h1;split at h1
  .exact⟨⟨e,id,h1,h2,h3⟩,Kw h4⟩
  .cases h1
 |[],_::_,h=>h.elim
 |_::_,[],h=>h.elim
def SW{bk:List Nat}{s:SV U.D}{cs:List (PV×Bool)}(h:uP U (jR c bk) s cs):uP U c (aRR U bk s) cs:=by
 cases s with
 |cl f caps=>obtain⟨p,b,e,ps,h1,h2⟩:=h;exact⟨p,b,e,ps,h1,Kw h2⟩
 |_=>exact h
def aG1{t:Ty}{x:Den U.D t}{p:PV}(hU:gO U)(h:VR U t x p):VR U t x (wk p):=by
 refine⟨by rw[h.wk,Qs hU],?_⟩
 rw[h.wk];exact AA (qW hU t x)
def MG(U:gT)(c:Cx)(take:Bool):List (X U)->List (PV×Bool)->Prop
 |[],[]=>True
 |x::xs,y::ys=>(∃pv ow,rG U c x.1 pv/\Tv x.2 pv ow/\y=(wk pv,take&&ow&& !Ff pv)/\(take=false->x.2=[])/\(jW pv=true->ow=true))/\MG U c take xs ys
 |_,_=>False
def zG{take:Bool}: ∀{xs xs':List (X U)} {ys ys':List (PV×Bool)},MG U c take xs ys->MG U c take xs' ys'->MG U c take (xs++xs') (ys++ys')
 |[],_,[],_,_,h=>h
 |x::xs,_,y::ys,_,h,h'=>⟨h.1,zG h.2 h'⟩
 |[],_,_::_,_,h,_=>h.elim
 |_::_,_,[],_,h,_=>h.elim
def IB{take:Bool}: ∀{args:List Operand} {S:TS U.D} {S':PS},kU U c S S'->kU U c (DI U take S args).2 (kV take S' args).2/\MG U c take (DI U take S args).1 (kV take S' args).1
 |[],S,S',F=>⟨F,trivial⟩
 |x::xs,S,S',F=>by
  have F1:kU U c (bif take then rY U S x else S) (bif take then lK S' x else S'):=by
   cases take with
   |true=>exact pI F x
   |false=>exact F
  obtain⟨h1,h2⟩:=IB (args:=xs) F1;have:=cX F x;refine⟨h1,⟨cP S' x,gZ S' x,this.1,?_,rfl,λe=>by rw[e];rfl,λh=>Bd (by rw[h,Bool.or_true])⟩,h2⟩
  cases take with
  |true=>exact this.2
  |false=>exact bW _ _
def QB{take:Bool}: ∀{caps:List Nat} {ps:List PV},tQ c caps ps->MG U c take (caps.map λk=>(SV.lc k 0 [],[])) (pD ps)
 |[],[],_=>trivial
 |k::ks,x::ps,⟨⟨e,id,h1,h2,h3⟩,h4⟩=>by
  refine⟨⟨x,false,⟨e,id,h1,h2,h3⟩,bW _ _,by rw[Bool.and_false,Bool.false_and],λ_=>rfl,λh=>by rw[h3]at h;cases h⟩,QB h4⟩
 |[],_::_,h=>h.elim
 |_::_,[],h=>h.elim
def BD{S:TS U.D}{i k:Nat}{x:X U}(h:k≠i):kT ((i,x)::S) k=kT S k:=by rw[sW,bH h]
def pS: ∀{rs:iL},oD rs=true->(0,true)∈rs
 |x::rs,h=>by
  obtain⟨a,b⟩:=x;simp only[oD,Bool.or_eq_true,aC,cQ,aD]at h;rcases h with⟨rfl,rfl⟩|h
  .exact aH ..
  .exact aG _ (pS h)
def DR(hU:gO U){bk:List Nat}{take:Bool}: ∀{ps:List (Sh×Bool)} {xs:List (X U)} {ys:List (PV×Bool)} {d:List (V U)} (i0:Nat) (rest:List (V U)),lW U bk ps xs=some d->MG U c take xs ys->
    ys.length=ps.length/\∃S0,Tt U (cutOf.psL ps i0) (d++rest)=some (S0,rest)/\∀i y,ys[i]?=some y->oE U (jR c bk) (kT S0 (i0+i)) y
 |[],[],[],d,i0,rest,h,_=>by
  simp only[lW,aA]at h;subst h;exact⟨rfl,[],rfl,λi y hy=>by simp at hy⟩
 |(s,own)::ps,x::xs,y::ys,d,i0,rest,h,⟨⟨pv,ow,r1,r2,hy0,r3,r4⟩,hr⟩=>by
  subst hy0;have iG: ∀(sv:SV U.D) (dv dl:List (V U)),lW U bk ps xs=some dl->d=dv++dl->Li U s (dv++(dl++rest))=some (sv,dl++rest)->rG U (jR c bk) sv (wk pv)->(own=true->oD x.2=true/\isAgg pv=false)->
        ((wk pv,take&&ow&& !Ff pv)::ys).length=((s,own)::ps).length/\∃S0,Tt U (cutOf.psL ((s,own)::ps) i0) (d++rest)=some (S0,rest)/\∀i y,((wk pv,take&&ow&& !Ff pv)::ys)[i]?=some y->oE U (jR c bk) (kT S0 (i0+i)) y:=by
   intro sv dv dl hm hd hu hs ho;obtain⟨g1,S0,g2,g3⟩:=DR hU (i0+1) rest hm hr;refine⟨by rw[aM,aM,g1],(i0,(sv,Lx own))::S0,?_,?_⟩
   .rw[hd,aQ];simp only[cutOf.psL,Tt,hu,g2]
   .intro i y hy;cases i with
    |zero=>
     simp only[aU,aA]at hy;subst hy;rw[sW,bI (Nat.add_zero _)];refine⟨hs,?_⟩;cases own with
     |false=>exact bW _ _
     |true=>
      obtain⟨h1,h2⟩:=ho rfl;have hm:=pS h1;intro o st hi;simp only[Lx,List.mem_singleton,aB]at hi;have ko:take=true:=by
       cases take with
       |true=>rfl
       |false=>rw[r3 rfl]at hm;cases hm
      rcases r2 _ _ hm with⟨h3,_⟩|⟨_,_,h3,h4⟩
      .rw[h2]at h3;cases h3
      .have how:ow=true:=by
        cases hh:jW pv with
        |true=>exact r4 hh
        |false=>rw[hh,Bool.or_false]at h3;exact h3
       refine .inr ⟨hi.1,?_,?_,λ_=>?_⟩
       .cases pv with
        |agg cs=>cases h2
        |sl z es=>cases es<;>rfl
        |_=>rfl
       .rw[ko,how,h4 rfl];rfl
       .exact V6 pv
    |succ i=>
     rw[aT]at hy;have:=g3 i y hy;rw[BD (by omega),show i0+(i+1)=i0+1+i by omega]
     exact this
  obtain⟨sx,rx⟩:=x;cases s with
  |val t=>
   simp only[lW]at h;split at h
   .rename_i v l hv hl;cases hb: !own||(oD rx&& !kS t)with
    |false=>rw[hb]at h;cases h
    |true=>
     rw[hb]at h;simp only[aI,aA]at h;obtain⟨h1,h2⟩:=kM hU hv r1;refine iG (.val v) [v] l hl h.symm ?_ (aG1 hU h2) ?_
     .simp only[aR,Li,h1,Ty.beq_rfl,aI]
     .intro ho;rw[ho]at hb;simp only[bD,Bool.false_or,aC,Bool.not_eq_true']at hb;exact⟨hb.1,mI h2 (by rw[h1];exact hb.2)⟩
   .cases h
  |lc j off path=>
   cases sx with
   |lc k fh mf=>
    simp only[lW]at h;cases hb: !own&&Nat.blt j bk.length&&Nat.beq k (jB bk j)&&Nat.beq off fh&&tP path mf with
    |false=>rw[hb]at h;cases h
    |true=>
     rw[hb]at h;simp only[aI]at h;simp only[aC,gQ,cQ,aD,Bool.not_eq_true']at hb;obtain⟨⟨⟨⟨h0,h1⟩,h2⟩,h3⟩,h4⟩:=hb;obtain⟨e,id,g1,g2,g3⟩:=r1;refine iG (.lc j off path) [] d h rfl rfl ⟨e,id,?_,g2,by rw[g3,h3];rfl⟩ (λho=>by rw[h0]at ho;cases ho)
     unfold jR;rw[bI h1,<-h2];exact g1
   |_=>cases h
  |cl f caps=>
   cases sx with
   |cl f' co=>
    simp only[lW]at h;cases hb: !own&&Nat.beq f f'&&sM caps bk.length&&tP (Fb (jB bk) caps) co with
    |false=>rw[hb]at h;cases h
    |true=>
     rw[hb]at h;simp only[aI]at h;simp only[aC,cQ,aD,Bool.not_eq_true']at hb;obtain⟨⟨⟨h0,h1⟩,h2⟩,h3⟩:=hb;obtain⟨qs,g1,g2⟩:=r1;refine iG (.cl f caps) [] d h rfl rfl ⟨qs,by rw[g1,h1];rfl,(FY h2).1 (by rw[sZ h3];exact g2)⟩ (λho=>by rw[h0]at ho;cases ho)
   |_=>cases h
  |rw j=>
   cases sx with
   |rw k=>
    simp only[lW]at h;cases hb: !own&&Nat.blt j bk.length&&Nat.beq k (jB bk j)with
    |false=>rw[hb]at h;cases h
    |true=>
     rw[hb]at h;simp only[aI]at h;simp only[aC,gQ,cQ,aD,Bool.not_eq_true']at hb;obtain⟨⟨h0,h1⟩,h2⟩:=hb;obtain⟨e,g1,g2⟩:=r1;refine iG (.rw j) [] d h rfl rfl ⟨e,?_,?_⟩ (λho=>by rw[h0]at ho;cases ho)
     .unfold jR;rw[bI h1,<-h2];exact g1
     .rcases g2 with⟨k1,k2,rfl|rfl⟩|⟨id,k1,k2,rfl⟩
      .exact .inl ⟨k1,k2,.inr rfl⟩
      .exact .inl ⟨k1,k2,.inr rfl⟩
      .exact .inr ⟨id,k1,k2,rfl⟩
   |_=>cases h
  |_=>cases h
 |[],_::_,_,d,i0,rest,h,_=>by cases h
 |(s,o)::_,[],_,d,i0,rest,h,_=>by cases s<;>cases h
 |_,[],_::_,d,i0,rest,h,hr=>hr.elim
 |_,_::_,[],d,i0,rest,h,hr=>hr.elim
end
end Go.TV
namespace Go.TV
open Go.AI Go.PI
section
variable{P:Program}{U:gT}{T:TP U.D}{c c0:Cx}{W:Type}{r:W}{q p:PSt}{M:TM U.D}
def Qe{x:Nat×Bool}: ∀{rs:iL},leR.memW x rs=true->∃s,(x.1,s)∈rs/\(x.2=true->s=true)
 |y::ys,h=>by
  simp only[leR.memW,Bool.or_eq_true,aC,cQ,aD,Bool.not_eq_true']at h;rcases h with⟨h1,h2⟩|h
  .refine⟨y.2,by rw[h1];exact aH ..,λe=>?_⟩
   rcases h2 with h2|h2
   .rw[e]at h2;cases h2
   .exact h2
  .obtain⟨s,h1,h2⟩:=Qe h;exact⟨s,aG _ h1,h2⟩
def LF: ∀{rs fv:iL},leR rs fv=true->∀o s,(o,s)∈rs->∃s',(o,s')∈fv/\(s=true->s'=true)
 |x::rs,fv,h,o,s,hm=>by
  simp only[leR,aC]at h;rcases List.mem_cons.1 hm with rfl|hm
  .exact Qe h.1
  .exact LF h.2 o s hm
def EO{rs fv:iL}{cs:List (PV×Bool)}(h:leR rs fv=true)(hb:aXD fv cs):aXD rs cs:=λo s hm=>by
 obtain⟨s',h1,h2⟩:=LF h o s hm;obtain⟨x,h3,h4⟩:=hb o s' h1;exact⟨x,h3,λe=>h4 (h2 e)⟩
def aKt{rs fv:iL}{pv:PV}{ow:Bool}(h:leR rs fv=true)(hb:Tv fv pv ow):Tv rs pv ow:=λo s hm=>by
 obtain⟨s',h1,h2⟩:=LF h o s hm;rcases hb o s' h1 with h3|⟨h3,h4,h5,h6⟩
 .exact .inl h3
 .exact .inr ⟨h3,h4,h5,λe=>h6 (h2 e)⟩
def wZ{bk:List Nat}(Mm:MR U q c0 c M p): ∀{l:List (Sh×iL)} {j:Nat} {e:List (V U)} (rest:List (V U)),Bq U bk M l j=some e->j+l.length<=bk.length->
    ∃M0,zU U (cutOf.bxL l j) (e++rest)=some (M0,rest)/\(∀i b,dE M0 i=some b->∃ce,jR c bk i=some ce/\Ag U (jR c bk) p ce b)/\(∀i,i<l.length->dE M.bx (jB bk (j+i))≠none)
 |[],j,e,rest,h,_=>by
  simp only[Bq,aA]at h;subst h;exact⟨[],rfl,λi b h=>(by cases h),λi h=>(by simp at h)⟩
 |(s,rr)::l,j,e,rest,h,hj=>by
  simp only[aM]at hj;unfold Bq at h;split at h
  .rename_i Da rs d hf hd;cases hb:leR rr rs with
   |false=>rw[hb]at h;cases h
   |true=>
    rw[hb]at h;simp only[aI]at h;obtain⟨M0,g1,g2,g3⟩:=wZ Mm rest hd (by omega)
    obtain⟨ce,pz,id,cs,hid,bc,hcs,kq⟩:=Mm.bx _ _ hf;have gp:jR c bk j=some ce:=by unfold jR;rw[bI (by omega)];exact pz
    have bn: ∀i,i<((s,rr)::l).length->dE M.bx (jB bk (j+i))≠none:=by
     intro i hi;cases i with
     |zero=>rw[Nat.add_zero,hf];exact λe=>by cases e
     |succ i=>have:=g3 i (by simpa using hi);rwa [show j+(i+1)=j+1+i by omega]
    split at h
    .rename_i t v;cases hv:v.t.beq t with
     |false=>rw[hv]at h;cases h
     |true=>
      rw[hv]at h;simp only[aI,aA]at h;subst h;refine⟨(j,.bx (.val v) rr)::M0,?_,?_,bn⟩
      .simp only[cutOf.bxL,aY,zU,Li,hv,aI,g1]
      .intro i b bv;rw[gD]at bv;by_cases e1:i=j
       .rw[bI e1]at bv;simp only[aA]at bv;subst bv;subst e1;exact⟨ce,gp,id,cs,hid,bc,hcs,EO hb kq⟩
       .rw[bH e1]at bv;exact g2 i b bv
    .rename_i f caps f' co;cases hv:Nat.beq f f'&&sM caps bk.length&&tP (Fb (jB bk) caps) co with
     |false=>rw[hv]at h;cases h
     |true=>
      rw[hv]at h;simp only[aI,aA]at h;subst h;simp only[aC,cQ,aD]at hv;obtain⟨⟨rfl,h2⟩,h3⟩:=hv;obtain⟨pv,bb,e1,ps,e2,e3⟩:=hcs;refine⟨(j,.bx (.cl f caps) rr)::M0,?_,?_,bn⟩
      .simp only[cutOf.bxL,zU,Li,g1]
      .intro i b bv;rw[gD]at bv;by_cases e4:i=j
       .rw[bI e4]at bv;simp only[aA]at bv;subst bv;subst e4;exact⟨ce,gp,id,cs,hid,bc,⟨pv,bb,e1,ps,e2,(FY h2).1 (by rw[sZ h3];exact e3)⟩,EO hb kq⟩
       .rw[bH e4]at bv;exact g2 i b bv
    .cases h
  .rename_i et x d hf hd;obtain⟨M0,g1,g2,g3⟩:=wZ Mm rest hd (by omega)
   obtain⟨ce,pz,bi⟩:=Mm.bx _ _ hf;have gp:jR c bk j=some ce:=by unfold jR;rw[bI (by omega)];exact pz
   split at h
   .rename_i t;cases hv:et.beq t with
    |false=>rw[hv]at h;cases h
    |true=>
     rw[hv]at h;simp only[aI,aA]at h;subst h;have:=Ty.beq_eq hv;subst this;refine⟨(j,.row et x)::M0,?_,?_,?_⟩
     .simp only[cutOf.bxL,aY,zU,hv,aI,g1]
     .intro i b bv;rw[gD]at bv;by_cases e1:i=j
      .rw[bI e1]at bv;simp only[aA]at bv;subst bv;subst e1;exact⟨ce,gp,bi⟩
      .rw[bH e1]at bv;exact g2 i b bv
     .intro i hi;cases i with
      |zero=>rw[Nat.add_zero,hf];exact λe=>by cases e
      |succ i=>have:=g3 i (by simpa using hi);rwa [show j+(i+1)=j+1+i by omega]
   .cases h
  .cases h
def B6: ∀{ts:List Ty} {l:List (V U)} {r:DenL U.D ts},fH ts l=some r->aAY ts r=l
 |[],[],r,h=>rfl
 |t::ts,v::vs,r,h=>by
  unfold fH at h;split at h
  .rename_i x r' h1 h2;simp only[aA]at h;subst h;rw[aAY,B6 h2];have:=mR h1;simp only;rw[<-this]
  .cases h
 |[],_::_,r,h=>by cases h
 |_::_,[],r,h=>by cases h
def Vp{ts:List Ty}{a:Option (List (V U))}{K:DenL U.D ts->Option W}(h:fZ ts a K=some r): ∃l x,a=some l/\aAY ts x=l/\K x=some r:=by
 unfold fZ at h;split at h
 .rename_i l;split at h
  .rename_i x hx;exact⟨l,x,rfl,B6 hx,h⟩
  .cases h
 .cases h
def rT: ∀{l:List (Sh×iL)} {rs:List iL} {d:List (V U)} {m:List (BC U.D)},fA U l rs d=some m->m.length=l.length
 |[],[],[],m,h=>by simp only[fA,aA]at h;subst h;rfl
 |(.val t,rr)::l,r::rs,v::d,m,h=>by
  simp only[fA]at h;split at h
  .rename_i m' hm;cases h;simp only[aM,rT hm]
  .cases h
 |(.cl f caps,rr)::l,r::rs,d,m,h=>by
  simp only[fA]at h;split at h
  .rename_i m' hm;cases h;simp only[aM,rT hm]
  .cases h
 |[],_::_,_,_,h=>by simp[fA]at h
 |[],[],_::_,_,h=>by simp[fA]at h
 |(s,rr)::l,[],d,m,h=>by cases s<;>simp[fA]at h
 |(.val t,rr)::l,r::rs,[],m,h=>by simp[fA]at h
 |(.tup _,_)::_,_::_,_,_,h=>by simp[fA]at h
 |(.nl,_)::_,_::_,_,_,h=>by simp[fA]at h
 |(.lc _ _ _,_)::_,_::_,_,_,h=>by simp[fA]at h
 |(.ep _,_)::_,_::_,_,_,h=>by simp[fA]at h
 |(.rw _,_)::_,_::_,_,_,h=>by simp[fA]at h
 |(.nf,_)::_,_::_,_,_,h=>by simp[fA]at h
 |(.row t,rr)::l,r::rs,⟨.sl e,x⟩::d,m,h=>by
  simp only[fA]at h;split at h
  .rename_i m' hm;cases h;simp only[aM,rT hm]
  .cases h
 |(.row t,rr)::l,r::rs,[],m,h=>by simp[fA]at h
 |(.row t,rr)::l,r::rs,⟨.int _,x⟩::d,m,h=>by simp[fA]at h
 |(.row t,rr)::l,r::rs,⟨.bool,x⟩::d,m,h=>by simp[fA]at h
 |(.row t,rr)::l,r::rs,⟨.str,x⟩::d,m,h=>by simp[fA]at h
 |(.row t,rr)::l,r::rs,⟨.rc _,x⟩::d,m,h=>by simp[fA]at h
def BK{bk:List Nat}(hn:bk.Nodup): ∀(m:List (BC U.D)) (j0:Nat) (B:List (Nat×BC U.D)),(∀j,j<m.length->dE B (jB bk (j0+j))≠none)->j0+m.length<=bk.length->∀k,
    (∃j x,m[j]?=some x/\jB bk (j0+j)=k/\dE (HS U bk m j0 B) k=some (UB U bk x))∨((∀j,j<m.length->jB bk (j0+j)≠k)/\dE (HS U bk m j0 B) k=dE B k)
 |[],j0,B,_,_,k=> .inr ⟨λj h=>by simp at h,rfl⟩
 |x::m,j0,B,hB,hl,k=>by
  simp only[aM]at hl;have h0:dE B (jB bk j0)≠none:=by have:=hB 0 (by simp);rwa [Nat.add_zero]at this
  have hB': ∀j,j<m.length->dE (oV B (jB bk j0) (UB U bk x)) (jB bk (j0+1+j))≠none:=by
   intro j hj;have:=hB (j+1) (by simpa using hj)
   rw[show j0+(j+1)=j0+1+j by omega]at this
   rw[jQ];split
   .cases hh:dE B (jB bk j0)with
    |none=>exact(h0 hh).elim
    |some b=>exact λe=>by cases e
   .exact this
  rcases BK hn m (j0+1) (oV B (jB bk j0) (UB U bk x)) hB' (by omega) k with⟨j,y,h1,h2,h3⟩|⟨h1,h2⟩
  .exact .inl ⟨j+1,y,by rw[aT];exact h1,by rw[<-h2];congr 1;omega,h3⟩
  .by_cases hk:jB bk j0=k
   .refine .inl ⟨0,x,rfl,by rw[Nat.add_zero];exact hk,?_⟩
    rw[HS,h2,jQ,bI hk.symm];cases hh:dE B (jB bk j0)with
    |none=>exact(h0 hh).elim
    |some b=>rfl
   .refine .inr ⟨λj hj=>?_,?_⟩
    .cases j with
     |zero=>rw[Nat.add_zero];exact hk
     |succ j=>have:=h1 j (by simpa using hj);rwa [show j0+(j+1)=j0+1+j by omega]
    .rw[HS,h2,jQ,bH (λe=>hk e.symm)]
def aNG{bk:List Nat}{e:Ce}{x:BC U.D}(h:Ag U (jR c bk) p e x):Ag U c p e (UB U bk x):=by
 cases x with
 |bx s r=>
  obtain⟨id,cs,h1,h2,h3,h4⟩:=h;exact⟨id,cs,h1,h2,SW h3,h4⟩
 |row t l=>exact h
 |gone=>trivial
def MR.call(Mm:MR U q c0 c M p){bk:List Nat}(hn:bk.Nodup){m:List (BC U.D)}(hm:m.length=bk.length)(bn: ∀i,i<bk.length->dE M.bx (jB bk i)≠none){p':PSt}
    (hb: ∀j x,m[j]?=some x->∃e,jR c bk j=some e/\Ag U (jR c bk) p' e x) (jf:p'.next=p.next)
    (hg: ∀id,id<p.next->(∀j e,jR c bk j=some e->e.id≠some id)->p'.get id=p.get id)
    (hg2: ∀id,id<p.next->id∉p'.dirty->p'.get id=p.get id)
    (hd: ∀id,id∈p'.dirty->id∈p.dirty∨∃j e,jR c bk j=some e/\e.id=some id) (hd2: ∀id,id∈p.dirty->id∈p'.dirty)
    (hw: ∀id,id∈p'.wr->id∈p.wr∨∃j e,jR c bk j=some e/\e.id=some id):
    MR U q c0 c ⟨HS U bk m 0 M.bx,bk++M.wr⟩ p'/\(WR U c M p->WR U c ⟨HS U bk m 0 M.bx,bk++M.wr⟩ p'):=by
 have dh:=BK hn m 0 M.bx (λj hj=>by rw[Nat.zero_add];exact bn j (by omega)) (by omega)
 simp only[Nat.zero_add]at dh;have cck: ∀{j e},jR c bk j=some e->j<bk.length/\c (jB bk j)=some e:=by
  intro j e h;unfold jR at h;split at h
  .rename_i hj;exact⟨hj,h⟩
  .cases h
 have bor: ∀{j e id},jR c bk j=some e->e.id=some id->id<q.next->∃k e,c0 k=some e/\e.id=some id:=by
  intro j e id h1 h2 h3;obtain⟨_,h4⟩:=cck h1;have hk:jB bk j<100:=by
   rcases Nat.lt_or_ge (jB bk j) 100 with h|h
   .exact h
   .have:=Mm.loc _ e id h4 h h2;omega
  exact⟨_,e,Mm.bor _ e h4 hk,h2⟩
 refine⟨⟨λk h=>?_,λk b h=>?_,λk e id h1 h2=>by rw[jf];exact Mm.lt k e id h1 h2,Mm.inj,by rw[jf];exact Mm.next,Mm.bor,Mm.loc,λid hi ho=>?_,λid hi bh=>?_,λid hi=>?_⟩,λhW id hi k e h1 h2=>?_⟩
 .simp only at h;rcases dh k with⟨j,x,h1,h2,h3⟩|⟨h1,h2⟩
  .rw[h3]at h;cases h
  .rw[h2]at h;exact Mm.dom k h
 .simp only at h;rcases dh k with⟨j,x,h1,h2,h3⟩|⟨h1,h2⟩
  .rw[h3]at h;cases h;obtain⟨e,g1,g2⟩:=hb j x h1;obtain⟨_,g3⟩:=cck g1;exact⟨e,by rw[<-h2];exact g3,aNG g2⟩
  .rw[h2]at h;obtain⟨e,g1,g2⟩:=Mm.bx k b h;refine⟨e,g1,tH g2 λid hid=>hg id (Mm.lt k e id g1 hid) λj e' h3 h4=>?_⟩
   obtain⟨g3,g4⟩:=cck h3;exact h1 j (by omega) (Mm.inj _ _ e' e id g4 g1 h4 hid)
 .rw[hg2 id (Nat.lt_of_lt_of_le hi Mm.next) ho]
  exact Mm.old id hi λh=>ho (hd2 id h)
 .rcases hd id hi with h|⟨j,e,h1,h2⟩
  .exact Mm.dirty id h bh
  .exact bor h1 h2 bh
 .rcases hw id hi with h|⟨j,e,h1,h2⟩
  .rw[jf];exact Mm.wr id h
  .rw[jf];exact⟨Mm.lt _ e id (cck h1).2 h2,λbh=>bor h1 h2 bh⟩
 .have happ: ∀{l l':List Nat},dQ k (l++l')=(dQ k l||dQ k l'):=by
   intro l l';rw[Bool.eq_iff_iff,Bool.or_eq_true,jH,jH,jH,List.mem_append]
  show dQ k (bk++M.wr)=true;rw[happ,Bool.or_eq_true];rcases hw id hi with h|⟨j,e',h3,h4⟩
  .exact .inr (hW id h k e h1 h2)
  .obtain⟨h5,h6⟩:=cck h3;have:=Mm.inj _ _ e e' id h1 h6 h2 h4;left;rw[jH,this];exact List.mem_of_getElem? (vO bk j h5)
def aJT{bk:List Nat}{own:Bool}{l:List (V U)}{y:PV×Bool}(h:oE U (jR c bk) (zX U own l) y):oE U c (zX U own l) y:=by
 unfold zX at h⊢;split at h<;>exact h
def Se{own:Bool}{l:List (V U)}{K:X U->Option W}(h:aJP U own l K=some r):K (zX U own l)=some r:=by
 unfold aJP at h;split at h
 .rename_i v b;cases b<;>exact h
 .exact h
def Xr(hU:gO U){tc:kX U.D}{pc:fI}(hc:CallOK U T tc pc){take:Bool}{inst:Nat}{bk:List Nat}{S:TS U.D}{S':PS}(F:kU U c S S'){cl:Call}{f:Operand}{K:X U->TS U.D->TM U.D->Option W}
    (dx:cl.callee= .value f) (h:Xs U T tc take inst bk S M (iQ U S f).1 cl.args.toList K=some r) (Mm:MR U q c0 c M p):
    ∃x S2 M' v own p' g args,K x S2 M'=some r/\pW take S' cl=some (g,args)/\pc g args p=some (v,own,p')/\oE U c x (v,own)/\kU U c S2 (kV take S' cl.args.toList).2/\MR U q c0 c M' p'/\(WR U c M p->WR U c M' p')/\p'.next=p.next:=by
 have rf:=(cX F f).1;unfold Xs at h;split at h
 .rename_i g caps s hf hs;rw[hf]at rf;obtain⟨ps,e1,e2⟩:=rf;have e1:cP S' f= .fn g [] ps:=e1;split at h
  .rename_i d e hd he;cases hb:Nat.beq g s.f&&IP bk&&Nat.beq bk.length s.bx.length with
   |false=>rw[hb]at h;cases h
   |true=>
    rw[hb]at h;simp only[aI]at h;simp only[aC,cQ,aD]at hb;obtain⟨⟨hg,ge⟩,hlen⟩:=hb;have ge:=yX ge;obtain⟨out,x,h1,h2,h⟩:=Vp h;split at h
    .rename_i m hm;obtain⟨g1,g2⟩:=IB (take:=take) (args:=cl.args.toList) F;have g3:=zG g2 (QB (take:=take) e2);obtain⟨k1,S0,k2,k3⟩:=DR hU 0 e hd g3;obtain⟨M0,k4,k5,k6⟩:=wZ Mm [] he (by omega)
     rw[bA]at k4;have hin:CO U s (d++e) p (jR c bk) ((kV take S' cl.args.toList).1++pD ps) S0 ⟨M0,[]⟩:=by
      refine⟨?_,k1,λi y hy=>?_,k5,λj hj=>?_,λj e id h1 h2=>?_,λk k' e e' id h1 h2 h3 h4=>?_,λid hi=>(Mm.wr id hi).1⟩
      .simp only[EH,cutOf,k2,k4]
      .have:=k3 i y hy;rwa [Nat.zero_add]at this
      .unfold jR;rw[bH (by omega)]
      .unfold jR at h1;split at h1
       .exact Mm.lt _ e id h1 h2
       .cases h1
      .unfold jR at h1 h2;split at h1
       .rename_i hk;split at h2
        .rename_i gx;exact aCq ge hk gx (Mm.inj _ _ e e' id h1 h2 h3 h4)
        .cases h2
       .cases h1
     obtain⟨pv,own,p',j1,j2⟩:=hc inst s _ out hs h1 p (jR c bk) _ S0 _ hin;have h:=Se h;rw[h2]at hm h;obtain⟨m',j3,j4⟩:=j2.out;rw[hm]at j3;cases j3;obtain⟨j5,j6⟩:=Mm.call ge (m:=m) (by rw[rT hm,hlen]) (λi hi=>by have:=k6 i (by omega);rwa [Nat.zero_add]at this) j4 j2.next j2.get j2.get2 j2.dirty j2.dirty2 j2.wr
     refine⟨_,_,_,pv,own,p',s.f,_,h,?_,j1,aJT j2.res,g1,j5,j6,j2.next⟩
     simp only[pW,dx,e1,hg,pD,aW]
    .cases h
  .cases h
 .cases h
end
end Go.TV
