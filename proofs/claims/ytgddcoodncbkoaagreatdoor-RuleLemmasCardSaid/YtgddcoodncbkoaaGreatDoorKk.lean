import Derived.Test.YtgddcoodncbkoaaGreatDoorKj
set_option linter.unusedVariables false
set_option linter.unusedSimpArgs false
set_option linter.constructorNameAsVariable false
set_option linter.defProp false
namespace Go.TV
open Go.AI Go.PI
section
variable{P:Program}{U:jP}{T:TP U.D}{c c0:Cx}{W:Type}{r:W}{q p:PSt}{M:TM U.D}
def beqF{k t:Nat}(h:k≠t):Nat.beq k t=false:=by rw[cG];exact decide_eq_false h
def fM(m:List (Nat×BC U.D))(k j:Nat)(y:BC U.D):bR (wH m k y) j=if j=k then(bR m k).map λ_=>y else bR m j:=by
 induction m with
 |nil=>simp[bR,wH]
 |cons x m ih=>
  obtain⟨a,b⟩:=x;unfold wH;by_cases h:a=k
  ·subst h;simp only[Nat.beq_refl,cdt];by_cases hj:j=a
   ·subst hj;simp[bR]
   ·have hja:Nat.beq a j=false:=beqF λe=>hj e.symm
    simp only[bR,hja,cdf,if_neg hj]
  ·simp only[beqF h,cdf];by_cases hj:j=k
   ·subst hj;have:=ih;rw[if_pos rfl]at this;simp only[bR,beqF h,cdf,if_true];exact this
   ·rw[if_neg hj]at ih⊢;simp only[bR];cases Nat.beq a j with
    |true=>rfl
    |false=>exact ih
def dK(m:List (Nat×BC U.D))(k j:Nat)(y:BC U.D):bR ((k,y)::m) j=if j=k then some y else bR m j:=by
 by_cases h:j=k
 ·subst h;simp[bR]
 ·have:Nat.beq k j=false:=beqF λe=>h e.symm
  simp only[bR,this,cdf,if_neg h]
def qI{p p':PSt}{e:Ce}{b:BC U.D}(h:bcR U c p e b)(hg: ∀id,e.id=some id->p'.get id=p.get id):bcR U c p' e b:=by
 cases b with
 |bx s r=>obtain⟨id,cs,h1,h2,h3⟩:=h;exact⟨id,cs,h1,by rw[hg id h1];exact h2,h3⟩
 |row t l=>
  obtain⟨h1,h2,h3⟩:=h;refine⟨h1,h2,?_⟩;rcases h3 with h3|⟨id,h3,h4⟩
  ·exact .inl h3
  ·exact .inr ⟨id,h3,by rw[hg id h3];exact h4⟩
 |gone=>trivial
def aMz{c c':Cx}(h:leC c c'){s:SV U.D}{cs:List (PV×Bool)}(r:uE U c s cs):uE U c' s cs:=by
 cases s with
 |cl f caps=>obtain⟨p,b,h1,h2⟩:=r;exact⟨p,b,h1,svR_le h h2⟩
 |_=>exact r
def bcR_le{c c':Cx}(h:leC c c'){p:PSt}{e:Ce}{b:BC U.D}(r:bcR U c p e b):bcR U c' p e b:=by
 cases b with
 |bx s rs=>obtain⟨id,cs,h1,h2,h3,h4⟩:=r;exact⟨id,cs,h1,h2,aMz h h3,h4⟩
 |row t l=>exact r
 |gone=>trivial
def MR.write(Mm:MR U q c0 c M p){k:Nat}{b b':BC U.D}{e:Ce}{id:Nat}{p':PSt}{w:List Nat}(hb:bR M.bx k=some b)(he:c k=some e)(hid:e.id=some id)
    (hn:p'.next=p.next) (hg: ∀j,j≠id->p'.get j=p.get j) (hd: ∀j,j∈p'.dirty↔j=id∨j∈p.dirty) (hw: ∀j,j∈p'.wr->j=id∨j∈p.wr) (hr:bcR U c p' e b'):
    MR U q c0 c ⟨wH M.bx k b',w⟩ p' where
 dom j h:=by
  simp only[fM]at h;by_cases hj:j=k
  ·rw[if_pos hj,hb]at h;cases h
  ·rw[if_neg hj]at h;exact Mm.dom j h
 bx j y h:=by
  simp only[fM]at h;by_cases hj:j=k
  ·subst hj;rw[if_pos rfl,hb]at h;simp only[omS,ojE]at h;subst h;exact⟨e,he,hr⟩
  ·rw[if_neg hj]at h;obtain⟨e',h1,h2⟩:=Mm.bx j y h;exact⟨e',h1,qI h2 λi hi=>hg i λei=>hj (Mm.inj j k e' e id h1 he (by rw[<-ei];exact hi) hid)⟩
 lt j e' i h1 h2:=by rw[hn];exact Mm.lt j e' i h1 h2
 inj:=Mm.inj
 next:=by rw[hn];exact Mm.next
 bor:=Mm.bor
 loc:=Mm.loc
 old i hi ho:=by
  rw[hg i λe1=>ho ((hd i).2 (.inl e1))]
  exact Mm.old i hi λh=>ho ((hd i).2 (.inr h))
 dirty i hi bi:=by
  rcases(hd i).1 hi with rfl|h
  ·have hk:k<100:=by
    rcases Nat.lt_or_ge k 100 with h|h
    ·exact h
    ·have:=Mm.loc k e i he h hid;omega
   exact⟨k,e,Mm.bor k e he hk,hid⟩
  ·exact Mm.dirty i h bi
 wr i hi:=by
  rcases hw i hi with rfl|h
  ·refine⟨by rw[hn];exact Mm.lt k e i he hid,λbi=>?_⟩
   have hk:k<100:=by
    rcases Nat.lt_or_ge k 100 with h|h
    ·exact h
    ·have:=Mm.loc k e i he h hid;omega
   exact⟨k,e,Mm.bor k e he hk,hid⟩
  ·rw[hn];exact Mm.wr i h
def MR.upd(Mm:MR U q c0 c M p){k:Nat}{b b':BC U.D}{e:Ce}{id:Nat}{o:mW}(hb:bR M.bx k=some b)(he:c k=some e)(hid:e.id=some id)(hr:bcR U c (p.upd id o) e b'):
    MR U q c0 c ⟨wH M.bx k b',k::M.wr⟩ (p.upd id o)/\(WR U c M p->WR U c ⟨wH M.bx k b',k::M.wr⟩ (p.upd id o)):=by
 have bi:=Mm.lt k e id he hid;refine⟨Mm.write hb he hid rfl (λj hj=>by rw[gO bi,if_neg hj]) (λj=>iG) (λj hj=>iG.1 hj) hr,λhw i hi k' e' h1 h2=>?_⟩
 show(Nat.beq k k'||bW k' M.wr)=true;rcases iG.1 hi with rfl|h
 ·rw[Mm.inj k k' e e' i he h1 hid h2,Nat.beq_refl,Bool.true_or]
 ·rw[hw i h k' e' h1 h2,Bool.or_true]
def aBf: ∀{m:List (Nat×BC U.D)} {k:Nat} {b:BC U.D},bR m k=some b->wH m k b=m
 |[],k,b,h=>rfl
 |(a,x)::m,k,b,h=>by
  simp only[bR]at h;unfold wH;cases hb:Nat.beq a k with
  |true=>
   rw[hb]at h;simp only[cdt,ojE]at h;subst h;rw[<-nqE hb];rfl
  |false=>rw[hb]at h;simp only[cdf]at h⊢;rw[aBf h]
def aGd{p:PSt}{id:Nat}{o:mW}(h:id<p.next)(k:Nat):(p.mark id o).get k=if k=id then some o else p.get k:=by
 have:=gO (o:=o) h k;simp only[PSt.get,PSt.upd,PSt.mark]at this⊢;exact this
def MR.mark(Mm:MR U q c0 c M p){k:Nat}{b b':BC U.D}{e:Ce}{id:Nat}{o:mW}(hb:bR M.bx k=some b)(he:c k=some e)(hid:e.id=some id)(hr:bcR U c (p.mark id o) e b'):
    MR U q c0 c ⟨wH M.bx k b',M.wr⟩ (p.mark id o)/\(WR U c M p->WR U c ⟨wH M.bx k b',M.wr⟩ (p.mark id o)):=by
 have bi:=Mm.lt k e id he hid;exact⟨Mm.write hb he hid rfl (λj hj=>by rw[aGd bi,if_neg hj]) (λj=>iG) (λj hj=> .inr hj) hr,λhw=>hw⟩
def oD{o:Nat}: ∀{rs:Rts},aKK o rs=true↔∃s,(o,s)∈rs
 |[]=>by simp[aKK]
 |x::rs=>by
  obtain⟨a,b⟩:=x;simp only[aKK,Bool.or_eq_true,cG,djE,oD (rs:=rs),List.mem_cons,pjE];constructor
  ·rintro(rfl|⟨s,h⟩)
   ·exact⟨b,.inl ⟨rfl,rfl⟩⟩
   ·exact⟨s,.inr h⟩
  ·rintro⟨s,⟨rfl,_⟩|h⟩
   ·exact .inl rfl
   ·exact .inr ⟨s,h⟩
def memex{o n:Nat}: ∀{rs:Rts} {x:Nat×Bool},x∈exR o n rs->x∈rs/\¬(o<=x.1/\x.1<o+n)
 |[],x,h=>by cases h
 |y::rs,x,h=>by
  unfold exR at h;cases hb:Nat.ble o y.1&&Nat.blt y.1 (o+n)with
  |true=>
   rw[hb]at h;obtain⟨h1,h2⟩:=memex h;exact⟨mtE _ h1,h2⟩
  |false=>
   rw[hb]at h;rcases List.mem_cons.1 h with rfl|h
   ·refine⟨mhE ..,λ⟨h1,h2⟩=>?_⟩
    have:(Nat.ble o x.1&&Nat.blt x.1 (o+n))=true:=by
     simp only[bjE,Nat.ble_eq,iN,djE];exact⟨h1,h2⟩
    rw[this]at hb;cases hb
   ·obtain⟨h1,h2⟩:=memex h;exact⟨mtE _ h1,h2⟩
def sI(P:Program)(take:Bool)(p:PSt)(t:TypeId)(a:PV):Option (PV×Bool×PSt):=
 match iF P p t a with
 |some v=>bif take&&aIY v then some (v,(eI p a).2,(eI p a).1)else some (v,false,p)
 |none=>none
variable(hU:fV U)(hT:zD P U T)
include hU
def SR.self(t:Ty)(x:Den U.D t):SR t x (enV U t x).cells:=⟨aGf (rQ hU t x),aA7 (rQ hU t x)⟩
def aFp{t:Ty}{l:List (Den U.D t)}{i:Nat}{y:Den U.D t}(h:l[i]?=some y):(((l.map (enV U t)).flatMap PV.cells).drop (i*szT U t)).take (szT U t)=(enV U t y).cells:=by
 induction l generalizing i with
 |nil=>simp at h
 |cons x l ih=>
  cases i with
  |zero=>
   simp only[gcZ,ojE]at h;subst h;rw[Nat.zero_mul,List.drop_zero,mpC,fmC];exact List.take_left' (fE hU _ _)
  |succ i=>
   rw[gcS]at h;rw[mpC,fmC,<-ih h,Nat.succ_mul,Nat.add_comm];congr 1;rw[<-List.drop_drop];congr 1;exact List.drop_left' (fE hU _ _)
include hT
def ldT_ok{take:Bool}{t:TypeId}{a:SV U.D}{p0:PV}{K:X U->TM U.D->Option W}(h:ldT U T.T take M t a K=some r)(ra:svR U c a p0)(Mm:MR U q c0 c M p):
    ∃x M' v own p',K x M'=some r/\sI P take p t p0=some (v,own,p')/\slR U c x (v,own)/\MR U q c0 c M' p'/\(WR U c M p->WR U c M' p'):=by
 unfold ldT at h;split at h
 ·
  rename_i v;obtain⟨es,i,off,e,rfl,he,hcs⟩:=ra;split at h
  ·rename_i ty ff;cases hb:v.t.beq ty with
   |false=>rw[hb]at h;cases h
   |true=>
    rw[hb]at h;obtain⟨vt,vx⟩:=v;have:=Ty.beq_eq hb;subst this;obtain⟨w,h1,h2,_⟩:=sP hU hT ff (cs:=e.cells) (off:=off) (x:=vx) (by rw[hcs];exact SR.self hU _ _)
    have hl:iF P p t (.pin es i off)=some w:=by simp only[iF,he];exact h1
    refine⟨_,_,w,false,p,h,?_,⟨h2,aJ _ _⟩,Mm,λhw=>hw⟩
    simp only[sI,hl,eI];cases take&&aIY w<;>rfl
  ·cases h
 ·
  rename_i k off path;obtain⟨e,id,he,hid,rfl⟩:=ra;split at h
  ·rename_i cont rs hf;obtain⟨e',fo,bp,cs,dq,bf,hcs,kr⟩:=Mm.bx k _ hf;rw[he]at fo;cases fo;rw[hid]at dq;cases dq;split at h
   ·
    rename_i cv;split at h
    ·rename_i ty w o ff hp;cases hb:w.t.beq ty&&Nat.beq o off with
     |false=>rw[hb]at h;cases h
     |true=>
      rw[hb]at h;simp only[cdt]at h;simp only[bjE,cG,djE]at hb;obtain⟨lb,rfl⟩:=hb;obtain⟨wt,wx⟩:=w;have:=Ty.beq_eq lb;subst this;obtain⟨h1,h2,h3⟩:=hcs;have hsr:SR cv.t cv.x (cs.map (·.1)):=⟨h1,h2⟩;obtain⟨g1,g2⟩:=pT hU hp hsr;obtain⟨v,k1,k2,k3,k4⟩:=sP hU hT ff g1;have hl:iF P p t (.ptr id o)=some v:=by simp only[iF,bf];exact k1
      have bi:=Mm.lt k e id he hid;have qd: ∀fw,(∀i s,(i,s)∈fw->(i,s)∈rs/\i≠o)->∀x b,cs[o]?=some (x,b)->bcR U c (p.mark id (.box (cs.set o (x,false)))) e (.bx (.val cv) fw):=by
       intro fw cw x b hx;have qa:o<cs.length:=by
        rcases Nat.lt_or_ge o cs.length with h|h
        ·exact h
        ·rw[List.getElem?_eq_none h]at hx;cases hx
       have ll:(cs.set o (x,false)).map (·.1)=cs.map (·.1):=by
        rw[List.map_set];apply List.ext_getElem?;intro j;rw[List.getElem?_set];by_cases hj:o=j
        ·subst hj;rw[List.length_map,if_pos rfl,if_pos qa,List.getElem?_map,hx];rfl
        ·rw[if_neg hj]
       refine⟨id,_,hid,by rw[aGd bi,if_pos rfl],⟨by rw[ll];exact h1,by rw[ll];exact h2,λy hy=>?_⟩,λi s hi=>?_⟩
       ·rcases List.mem_or_eq_of_mem_set hy with hy|rfl
        ·exact h3 y hy
        ·exact h3 (x,b) (List.mem_of_getElem? hx)
       ·obtain⟨m1,m2⟩:=cw i s hi;obtain⟨x',lq,fy⟩:=kr i s m1;exact⟨x',by rw[List.getElem?_set,if_neg (λe=>m2 e.symm)];exact lq,fy⟩
      have hisSl:aBB wt=true->aIY v=true:=by
       intro hs;cases wt with
       |sl et=>
        have hv:v≠ .nil:=by
         intro hv;have hc:v.cells=[v]:=by rw[hv];rfl
         rw[k3]at hc;have hm:v∈cs.map (·.1):=List.mem_of_mem_drop (List.mem_of_mem_take (by rw[hc];exact List.mem_singleton.2 rfl))
         obtain⟨y,hy,e1⟩:=List.mem_map.1 hm;exact h3 y hy (by rw[e1];exact hv)
        obtain⟨_,cr⟩:=rH k2;rcases cr with⟨_,h4|h4|h4⟩|⟨_,h4⟩
        ·rw[h4];rfl
        ·exact(hv h4).elim
        ·rw[h4];rfl
        ·rw[h4];rfl
       |_=>cases hs
      have hslNo:aBB wt=false->aIY v=false:=by
       intro hs;cases wt with
       |sl et=>cases hs
       |int k=>rw[fD k2];rfl
       |bool=>rw[of_bool k2];rfl
       |str=>rw[sS k2];rfl
       |rc n=>obtain⟨cx,hc,_⟩:=aKD k2;rw[hc];rfl
      cases hc:take&&aBB wt&&aKK o rs with
      |true=>
       rw[hc]at h;simp only[bjE]at hc;obtain⟨⟨rfl,cr⟩,hmr⟩:=hc;obtain⟨s,hs⟩:=oD.1 hmr;obtain⟨x,hx,_⟩:=kr o s hs;have hvx:v=x:=by
        have hwt1:oY wt=false:=by cases wt<;>first|rfl|cases cr
        have hc1:v.cells=[v]:=jM λds e=>by rw[e,hwt1]at k4;cases k4
        have hc2:(cs.map (·.1))[o]?=some x:=by rw[List.getElem?_map,hx];rfl
        have hc3:((cs.map (·.1)).drop o).take 1=[v]:=by
         have:szT U wt=1:=by cases wt<;>first|rfl|cases hwt1
         rw[this]at k3;rw[<-k3,hc1]
        have hc4:=congrArg (·[0]?) hc3;simp only[List.getElem?_take,List.getElem?_drop,gcZ]at hc4;rw[if_pos (by omega),Nat.add_zero,hc2]at hc4
        exact(Option.some.inj hc4).symm
       have nw:eI p (.ptr id o)=(p.mark id (.box (cs.set o (x,false))),true):=by simp only[eI,bf,hx]
       obtain⟨m1,m2⟩:=Mm.mark hf he hid (qd (exR o 1 rs) (λi s hi=>by
        obtain⟨y1,y2⟩:=memex hi;exact⟨y1,λe=>y2 ⟨by simp only;omega,by simp only;omega⟩⟩) x true hx)
       refine⟨_,_,v,true,_,h,?_,⟨k2,?_⟩,m1,m2⟩
       ·simp only[sI,hl,hisSl cr,Bool.and_self,cdt,nw]
       ·intro i s' hi;obtain⟨y1,y2⟩:=aF3 hi;obtain⟨x',lq,fy⟩:=kr _ _ y1;have hi0:i=0:=by simp only at y2;omega
        subst hi0;simp only[Nat.zero_add]at lq;rw[hx]at lq;cases lq;refine .inr ⟨rfl,?_,rfl,λe1=>by rw[hvx];exact fy e1⟩
        rw[k4];cases wt<;>first|rfl|cases cr
      |false=>
       rw[hc]at h;simp only[cdf]at h;cases ju:take&&aIY v with
       |false=>
        exact⟨_,_,v,false,p,h,by simp only[sI,hl,ju,cdf],⟨k2,aJ _ _⟩,Mm,λhw=>hw⟩
       |true=>
        have hred:sI P take p t (.ptr id o)=some (v,(eI p (.ptr id o)).2,(eI p (.ptr id o)).1):=by simp only[sI,hl,ju,cdt]
        simp only[bjE]at ju;have cr:aBB wt=true:=by
         cases hh:aBB wt with
         |true=>rfl
         |false=>rw[hslNo hh]at ju;cases ju.2
        have hnm:aKK o rs=false:=by rw[ju.1,cr]at hc;simpa using hc
        refine⟨_,M,v,(eI p (.ptr id o)).2,(eI p (.ptr id o)).1,h,hred,⟨k2,aJ _ _⟩,?_⟩;cases hx:cs[o]? with
        |none=>rw[show eI p (.ptr id o)=(p,false) by simp only[eI,bf,hx]];exact⟨Mm,λhw=>hw⟩
        |some y=>
         obtain⟨x,b⟩:=y;cases b with
         |false=>rw[show eI p (.ptr id o)=(p,false) by simp only[eI,bf,hx]];exact⟨Mm,λhw=>hw⟩
         |true=>
          rw[show eI p (.ptr id o)=(p.mark id (.box (cs.set o (x,false))),true) by simp only[eI,bf,hx]]
          have:=Mm.mark hf he hid (qd rs (λi s hi=>⟨hi,λe=>by
           rw[e]at hi;rw[oD.2 ⟨s,hi⟩]at hnm;cases hnm⟩) x true hx)
          rwa [aBf hf]at this
    ·cases h
   ·
    rename_i f caps;obtain⟨pv,b,rfl,hpv⟩:=hcs;split at h
    ·cases hb:T.T.fn t&&Nat.beq off 0 with
     |false=>rw[hb]at h;cases h
     |true=>
      rw[hb]at h;simp only[bjE,cG,djE]at hb;obtain⟨fi,rfl⟩:=hb;obtain⟨ha,_,_⟩:=hT.fn t fi;have hl:iF P p t (.ptr id 0)=some pv:=by simp only[iF,bf,pI,ha];rfl
      have hpv2:=hpv;obtain⟨ps,e1,_⟩:=hpv2;refine⟨_,_,pv,false,p,h,?_,⟨hpv,aJ _ _⟩,Mm,λhw=>hw⟩
      have:aIY pv=false:=by rw[e1];rfl
      simp only[sI,hl,this,Bool.and_false,cdf]
    ·cases h
   ·cases h
  ·cases h
 ·
  rename_i k i off path;obtain⟨e,id,he,hid,hi0,hi1,rfl⟩:=ra;split at h
  ·rename_i et l hf;obtain⟨e',fo,hn,hz,bh⟩:=Mm.bx k _ hf;rw[he]at fo;cases fo;rcases bh with⟨de,_⟩|⟨bp,dq,bf⟩
   ·rw[hid]at de;cases de
   ·rw[hid]at dq;cases dq;obtain⟨y,hy,h⟩:=jF h;obtain⟨_,hy1,_⟩:=rY hy;split at h
    ·rename_i ty w o ff hp;cases hb:w.t.beq ty&&Nat.beq o off with
     |false=>rw[hb]at h;cases h
     |true=>
      rw[hb]at h;simp only[cdt]at h;simp only[bjE,cG,djE]at hb;obtain⟨lb,rfl⟩:=hb;obtain⟨wt,wx⟩:=w;have:=Ty.beq_eq lb;subst this;obtain⟨g1,g2⟩:=pT hU hp (SR.self hU et y);have qo:=aFp hU hy1;rw[<-qo,List.drop_take,List.drop_drop,List.take_take,Nat.min_eq_left (by simp only at g2⊢;omega)]at g1
      obtain⟨v,k1,k2,k3,k4⟩:=sP hU hT ff g1;have hl:iF P p t (.ptr id (i.toNat*e.z+o))=some v:=by simp only[iF,bf,hz];exact k1
      refine⟨_,_,v,false,p,h,?_,⟨k2,aJ _ _⟩,Mm,λhw=>hw⟩
      have nw:eI p (.ptr id (i.toNat*e.z+o))=(p,false):=by simp only[eI,bf]
      simp only[sI,hl,nw];cases take&&aIY v<;>rfl
    ·cases h
  ·cases h
 ·cases h
end
end Go.TV
namespace Go.TV
open Go.AI Go.PI
section
variable{P:Program}{U:jP}{T:TP U.D}{c c0:Cx}{W:Type}{r:W}{q p:PSt}{M:TM U.D}
def splice{N:Type}(l s:List N)(o o' n m:Nat)(h1:o'+m<=n)(h2:o+n<=l.length):
    l.take (o+o')++s++l.drop (o+o'+m)=l.take o++(((l.drop o).take n).take o'++s++((l.drop o).take n).drop (o'+m))++l.drop (o+n):=by
 have e1:l.take (o+o')=l.take o++((l.drop o).take n).take o':=by
  rw[List.take_add,List.take_take,Nat.min_eq_left (by omega)]
 have e2:l.drop (o+o'+m)=((l.drop o).take n).drop (o'+m)++l.drop (o+n):=by
  rw[List.drop_take,List.drop_drop];have:l.drop (o+n)=(l.drop (o+(o'+m))).drop (n-(o'+m)):=by rw[List.drop_drop];congr 1;omega
  rw[this,List.take_append_drop,Nat.add_assoc]
 rw[e1,e2];simp only[apA]
def aHR{ts:List Ty}{cs s:List PV}{o n:Nat}(h:zOK U ts cs)(hs:zOK U ((ts.drop o).take n) s)(hl:s.length=n)(hle:o+n<=cs.length):zOK U ts (cs.take o++s++cs.drop (o+n)):=λj z hj=>by
 have bi:(cs.take o).length=o:=by rw[List.length_take];omega
 rw[apA]at hj;by_cases h1:j<o
 ·rw[List.getElem?_append_left (by omega),List.getElem?_take,if_pos h1]at hj
  exact h j z hj
 ·rw[List.getElem?_append_right (by omega),bi]at hj
  by_cases h2:j-o<n
  ·rw[List.getElem?_append_left (by omega)]at hj
   obtain⟨e,g1,g2⟩:=hs _ z hj;rw[List.getElem?_take,if_pos h2,List.getElem?_drop]at g1;exact⟨e,by rw[<-g1];congr 1;omega,g2⟩
  ·rw[List.getElem?_append_right (by omega),List.getElem?_drop]at hj
   have:o+n+(j-o-s.length)=j:=by omega
   rw[this]at hj;exact h j z hj
variable(hU:fV U)(hT:zD P U T)
include hU
def aIp{l:List (V U)}{i:Nat}{v w:V U}(h:l[i]?=some v)(ht:w.t=v.t):
    qV (l.set i w)=(qV l).take (cY U ((l.map λv=>v.t).take i))++(enV U w.t w.x).cells++(qV l).drop (cY U ((l.map λv=>v.t).take i)+szT U v.t):=by
 induction l generalizing i with
 |nil=>simp at h
 |cons x l ih=>
  cases i with
  |zero=>
   simp only[gcZ,ojE]at h;subst h;rw[List.set_cons_zero,eK,eK,List.take_zero,cY,List.take_zero,nlA,Nat.zero_add,List.drop_left' (fE hU _ _)]
  |succ i=>
   rw[gcS]at h;rw[List.set_cons_succ,eK,eK,ih h,mpC,List.take_succ_cons,cY,Nat.add_assoc];have hl:=fE hU x.t x.x;rw[<-hl,List.take_length_add_append,List.drop_length_add_append];simp only[apA]
def aJz{path:List Nat}: ∀{v w c' old:V U} {o:Nat} {cs s:List PV},setP U path v w=some c'->aGe U path v=some (old,o)->SR v.t v.x cs->SR w.t w.x s->
    c'.t=v.t/\w.t=old.t/\SR c'.t c'.x (cs.take o++s++cs.drop (o+szT U w.t)):=by
 induction path with
 |nil=>
  intro v w c' old o cs s h hp r rs;simp only[aGe,ojE,pjE]at hp;obtain⟨rfl,rfl⟩:=hp;unfold setP at h;cases hb:v.t.beq w.t with
  |false=>rw[hb]at h;cases h
  |true=>
   rw[hb]at h;simp only[cdt,ojE]at h;subst h;have:=Ty.beq_eq hb;refine⟨this.symm,this.symm,?_⟩;rw[List.take_zero,nlA,Nat.zero_add,List.drop_eq_nil_of_le (by rw[r.len hU,this];exact nlR _),apN]
   exact rs
 |cons i path ih=>
  intro v w c' old o cs s h hp r rs;obtain⟨vt,vx⟩:=v;unfold setP at h;split at h
  ·rename_i n x heq;cases heq;split at h
   ·rename_i y hy;split at h
    ·rename_i y' mi;split at h
     ·rename_i z hz;cases h;unfold aGe at hp;rw[show fldT U ⟨.rc n,x⟩ i=some y from hy]at hp
      simp only at hp;split at hp
      ·rename_i r' cb;simp only[ojE,pjE]at hp;obtain⟨rfl,rfl⟩:=hp;have db:aGe U path y=some (r'.1,r'.2):=by rw[cb]
       have hpart:=r.fld hU hy;obtain⟨g1,g2,g3⟩:=ih mi db hpart rs;obtain⟨g4,g5⟩:=pT hU db hpart;have py:=hU.un_of n _ z hz;have dt:cs.length=U.sz n:=r.len hU;have dd:=hpart.len hU;rw[List.length_take,List.length_drop,dt]at dd;have hsp:=lQ hU y.t;have hle:mD U n i+szT U y.t<=cs.length:=by omega
       refine⟨rfl,g2,?_⟩;show SR (.rc n) z (cs.take (mD U n i+r'.2)++s++cs.drop (mD U n i+r'.2+szT U w.t));rw[splice cs s (mD U n i) r'.2 (szT U y.t) (szT U w.t) (by rw[g2];exact g5) hle]
       refine⟨?_,?_⟩
       ·rw[kZ,kZ,zE,zG,r.wk,g3.wk];show _=U.en n z;rw[hU.en n z,py];have:=aIp hU hy g1;rw[hU.ty n x]at this;show _=qV _;rw[this];show(U.en n x).take _++_++(U.en n x).drop _=_;rw[hU.en n x];rfl
       ·refine aHR r.z ?_ (by rw[g3.len hU,g1]) hle
        have h5:(((fS U (.rc n)).drop (mD U n i)).take (szT U y.t))=fS U y.t:=xJ hU (aBM hU hy);have h6:fS U y'.t=fS U y.t:=by rw[g1]
        rw[h5,<-h6];exact g3.z
      ·cases hp
     ·cases h
    ·cases h
   ·cases h
  ·cases h
omit hU in
def fl_fst(x:PV)(b:Bool):(fl x b).1=match x with| .nil=> .emp|x=>x:=by cases x<;>rfl
omit hU in
def fl_wk(x:PV)(b:Bool):wk (fl x b).1=wk x:=by cases x<;>rfl
omit hU in
def pV(x:PV)(b:Bool):(fl x b).1≠ .nil:=by cases x<;>simp[fl]
omit hU in
def SR.fl{t:Ty}{x:Den U.D t}{cs:List PV}(h:SR t x cs)(b:Bool):SR t x ((cs.map λc=>fl c b).map (·.1)):=by
 refine⟨?_,λj z hj=>?_⟩
 ·rw[<-h.wk,iC,iC,List.map_map,List.map_map];exact List.map_congr_left λc _=>fl_wk c b
 ·rw[List.map_map,List.getElem?_map,mjE]at hj;obtain⟨y,hy,e⟩:=hj;have mi:y= .sl z []:=by
   have e:(PI.fl y b).1= .sl z []:=e;rw[fl_fst]at e;split at e
   ·cases e
   ·exact e
  exact h.z j z (by rw[hy,mi])
omit hU in
def rts_fl{rs:Rts}{t:Ty}{x:Den U.D t}{pv:PV}{ow:Bool}(h:rtR rs pv ow)(hv:VR U t x pv):rtB rs (pv.cells.map λc=>fl c ow):=λo s hi=>by
 rcases h o s hi with⟨h1,h2⟩|⟨rfl,h1,h2,h3⟩
 ·exact⟨.emp,by rw[List.getElem?_map,h2];rfl,λ_=>rfl⟩
 ·have hc:pv.cells=[pv]:=jM λds e=>by rw[e]at h1;cases h1
  rw[hc];cases hn:iO pv with
  |true=>
   have:pv= .nil:=by cases pv<;>first|rfl|cases hn
   subst this;exact⟨.emp,rfl,λ_=>rfl⟩
  |false=>
   rw[hn,Bool.or_false]at h2;subst h2;refine⟨pv,?_,h3⟩;have:fl pv true=(pv,true):=by cases pv<;>first|rfl|cases hn
   simp[this]
def stT_ok(hT:zD P U T){t:TypeId}{a:SV U.D}{x:X U}{p0 p1:PV}{ow:Bool}{K:TM U.D->Option W}(h:stT U T.T M t a x K=some r)(ra:svR U c a p0)(rx:slR U c x (p1,ow))(Mm:MR U q c0 c M p):
    ∃M' p',K M'=some r/\kI P p t p0 p1 ow=some p'/\MR U q c0 c M' p'/\(WR U c M p->WR U c M' p'):=by
 unfold stT at h;split at h
 ·
  rename_i k off path;obtain⟨e,id,he,hid,rfl⟩:=ra;have bi:=Mm.lt k e id he hid;split at h
  ·rename_i cont rs hf;obtain⟨e',fo,bp,cs,dq,bf,hcs,kr⟩:=Mm.bx k _ hf;rw[he]at fo;cases fo;rw[hid]at dq;cases dq;split at h
   ·rename_i cv;split at h
    ·rename_i ty w o ff hp;cases hb:w.t.beq ty&&Nat.beq o off with
     |false=>rw[hb]at h;cases h
     |true=>
      rw[hb]at h;simp only[cdt]at h;simp only[bjE,cG,djE]at hb;obtain⟨lb,rfl⟩:=hb;have:=Ty.beq_eq lb;split at h
      ·rename_i v hv;split at h
       ·rename_i c' me;obtain⟨gn,kq⟩:=hY hU hv rx.1;obtain⟨h1,h2,h3⟩:=hcs;have hsr:SR cv.t cv.x (cs.map (·.1)):=⟨h1,h2⟩;have hs:=VR.sr kq;obtain⟨g1,g2,g3⟩:=aJz hU me hp hsr (hs.fl ow);obtain⟨g4,g5⟩:=pT hU hp hsr;have dt:cs.length=szT U cv.t:=by have:=hsr.len hU;rwa [List.length_map]at this
        have co:iK P t=some (szT U ty):=hT.sz t ty ff;have hn:p1.cells.length=szT U ty:=by rw[hs.len hU,gn]
        have hle:o+szT U ty<=cs.length:=by rw[dt,<-this];exact g5
        have c1:(Nat.beq p1.cells.length (szT U ty)&&Nat.ble (o+szT U ty) cs.length&&p1.cells.all PV.one)=true:=by
         rw[hs.one hU,hn,Nat.beq_refl,Bool.true_and,bnA,Nat.ble_eq];exact hle
        refine⟨_,p.upd id (.box (cs.take o++p1.cells.map (λc=>fl c ow)++cs.drop (o+szT U ty))),h,by simp only[kI,bf,co,c1,cdt],Mm.upd hf he hid ?_⟩
        refine⟨id,_,hid,by rw[gO bi,if_pos rfl],⟨?_,?_,?_⟩,?_⟩
        ·rw[<-g3.wk,gn];simp only[List.map_append,List.map_take,List.map_drop]
        ·rw[gn]at g3;have:=g3.z;simp only[List.map_append,List.map_take,List.map_drop];exact this
        ·intro y hy;rcases List.mem_append.1 hy with hy|hy
         ·rcases List.mem_append.1 hy with hy|hy
          ·exact h3 y (List.mem_of_mem_take hy)
          ·obtain⟨z,_,rfl⟩:=List.mem_map.1 hy;exact pV z ow
         ·exact h3 y (List.mem_of_mem_drop hy)
        ·intro i s hi;have htl:(cs.take o).length=o:=by rw[List.length_take];omega
         rcases List.mem_append.1 hi with hi|hi
         ·obtain⟨j,e1,e2⟩:=memsh hi;simp only at e1;subst e1;obtain⟨y,hy,hys⟩:=rts_fl rx.2 kq j s e2;refine⟨y,?_,hys⟩;have hj:j<p1.cells.length:=by
           rcases Nat.lt_or_ge j p1.cells.length with h|h
           ·exact h
           ·rw[List.getElem?_eq_none (by rw[List.length_map];exact h)]at hy;cases hy
          rw[apA,List.getElem?_append_right (by omega),htl,Nat.add_sub_cancel,List.getElem?_append_left (by rw[List.length_map];exact hj)]
          exact hy
         ·obtain⟨e1,e2⟩:=memex hi;obtain⟨y,hy,hys⟩:=kr i s e1;refine⟨y,?_,hys⟩;simp only at e2;rw[apA];by_cases h4:i<o
          ·rw[List.getElem?_append_left (by omega),List.getElem?_take,if_pos h4];exact hy
          ·have h5:o+szT U ty<=i:=by omega
           rw[List.getElem?_append_right (by omega),htl,List.getElem?_append_right (by rw[List.length_map];omega),List.length_map,hn,List.getElem?_drop]
           have:o+szT U ty+(i-o-szT U ty)=i:=by omega
           rw[this];exact hy
       ·cases h
      ·cases h
    ·cases h
   ·
    split at h
    ·rename_i f caps hx;cases hb:T.T.fn t&&Nat.beq off 0&&stT.isF U cont with
     |false=>rw[hb]at h;cases h
     |true=>
      rw[hb]at h;simp only[cdt]at h;simp only[bjE,cG,djE]at hb;obtain⟨⟨fi,rfl⟩,hF⟩:=hb;obtain⟨_,co,_⟩:=hT.fn t fi;have hx1:svR U c (.cl f caps) p1:=by have:=rx.1;rw[hx]at this;exact this
      obtain⟨ps,jv,fa⟩:=hx1;have hcs1: ∃y,cs=[y]:=by
       cases cont with
       |cl f' cm=>obtain⟨pv,b,e1,_⟩:=hcs;exact⟨_,e1⟩
       |nf=>obtain⟨b,e1⟩:=hcs;exact⟨_,e1⟩
       |_=>cases hF
      obtain⟨y,rfl⟩:=hcs1;subst jv;refine⟨_,p.upd id (.box [(.fn f [] ps,ow)]),h,?_,Mm.upd hf he hid ?_⟩
      ·simp only[kI,bf,co];rfl
      ·exact⟨id,_,hid,by rw[gO bi,if_pos rfl],⟨_,_,rfl,ps,rfl,fa⟩,λo s hi=>by cases hi⟩
    ·cases h
  ·cases h
 ·
  rename_i k i off path;obtain⟨e,id,he,hid,hi0,hi1,rfl⟩:=ra;have bi:=Mm.lt k e id he hid;split at h
  ·rename_i et l hf;obtain⟨e',fo,hn,hz,bh⟩:=Mm.bx k _ hf;rw[he]at fo;cases fo;rcases bh with⟨de,_⟩|⟨bp,dq,bf⟩
   ·rw[hid]at de;cases de
   ·rw[hid]at dq;cases dq;obtain⟨y,hy,h8⟩:=jF h;clear h;have h:=h8;clear h8;obtain⟨_,hy1,hylt⟩:=rY hy;split at h
    ·rename_i ty w o ff hp;cases hb:w.t.beq ty&&Nat.beq o off with
     |false=>rw[hb]at h;cases h
     |true=>
      rw[hb]at h;simp only[cdt]at h;simp only[bjE,cG,djE]at hb;obtain⟨lb,rfl⟩:=hb;have:=Ty.beq_eq lb;split at h
      ·rename_i v hv;split at h
       ·rename_i c' me;split at h
        ·rename_i z nd;obtain⟨gn,kq⟩:=hY hU hv rx.1;have hs:=VR.sr kq;have hsr:=SR.self hU et y;have hs2:SR v.t v.x (enV U v.t v.x).cells:=SR.self hU v.t v.x;obtain⟨g1,g2,g3⟩:=aJz hU me hp hsr hs2;obtain⟨g4,g5⟩:=pT hU hp hsr;have ec:=kT nd;have co:iK P t=some (szT U ty):=hT.sz t ty ff;have hpn:p1.cells.length=szT U ty:=by rw[hs.len hU,gn]
         have kx:((l.map (enV U et)).flatMap PV.cells).length=l.length*szT U et:=by
          have:=dR (z:=szT U et) (es:=l.map (enV U et)) (λe' fo=>by obtain⟨a,_,rfl⟩:=List.mem_map.1 fo;exact fE hU _ _)
          rw[List.length_map]at this;exact this
         have hmul:i.toNat*szT U et+szT U et<=l.length*szT U et:=by rw[<-Nat.succ_mul];exact Nat.mul_le_mul_right _ hylt
         have hoz:o+szT U ty<=szT U et:=by rw[<-this];exact g5
         have c1:(Nat.beq p1.cells.length (szT U ty)&&Nat.ble (i.toNat*e.z+o+szT U ty) ((l.map (enV U et)).flatMap PV.cells).length&&p1.cells.all PV.one)=true:=by
          rw[hs.one hU,hpn,Nat.beq_refl,Bool.true_and,bnA,Nat.ble_eq,kx,hz];omega
         refine⟨_,p.upd id (.row e.z (oY et) (((l.map (enV U et)).flatMap PV.cells).take (i.toNat*e.z+o)++PI.wks p1.cells++((l.map (enV U et)).flatMap PV.cells).drop (i.toNat*e.z+o+szT U ty))),h,by simp only[kI,bf,co,c1,cdt],Mm.upd hf he hid ?_⟩
         refine⟨by rw[List.length_set];exact hn,hz,.inr ⟨id,hid,?_⟩⟩
         rw[gO bi,if_pos rfl];congr 2;have hz2:(enV U et z).cells=(enV U et y).cells.take o++PI.wks p1.cells++(enV U et y).cells.drop (o+szT U ty):=by
          have h6:=g3.wk;have e6:(⟨c'.t,c'.x⟩:TV U.D)=⟨et,z⟩:=ec;have h7:(enV U (⟨c'.t,c'.x⟩:TV U.D).t (⟨c'.t,c'.x⟩:TV U.D).x).cells=(enV U et z).cells:=by rw[e6]
          rw[<-h7,<-h6];simp only[kZ,zE,zG,gn];rw[aGf (rQ hU et y),hs.wk];congr 2;exact aGf (rQ hU v.t v.x)
         have hfs:((l.set i.toNat z).map (enV U et)).flatMap PV.cells=aH5 (fL (l.map (enV U et))) (i.toNat*szT U et) (enV U et z).cells:=by
          rw[List.map_set];exact aGk (λe' fo=>by obtain⟨a,_,rfl⟩:=List.mem_map.1 fo;exact fE hU _ _) (by rw[List.length_map];exact hylt) (fE hU _ _)
         rw[hfs,aKg _ _ _ (by rw[fE hU];show _<=((l.map (enV U et)).flatMap PV.cells).length;rw[kx];exact hmul),fE hU,hz2,hz]
         show((l.map (enV U et)).flatMap PV.cells).take (i.toNat*szT U et+o)++_++((l.map (enV U et)).flatMap PV.cells).drop (i.toNat*szT U et+o+szT U ty)=_;rw[splice _ _ (i.toNat*szT U et) o (szT U et) (szT U ty) hoz (by rw[kx];exact hmul),aFp hU hy1]
         rfl
        ·cases h
       ·cases h
      ·cases h
    ·cases h
  ·cases h
 ·cases h
end
end Go.TV
namespace Go.TV
open Go.AI Go.PI
section
variable{P:Program}{U:jP}{T:TP U.D}{c c0:Cx}{W:Type}{r:W}{q p:PSt}{M:TM U.D}
def qL(c:Cx)(k:Nat)(e:Ce):Cx:=λj=>if j=k then some e else c j
def gH{k:Nat}{e:Ce}(h:c k=none):leC c (qL c k e):=λj e' hj=>by
 unfold qL;by_cases e1:j=k
 ·subst e1;rw[h]at hj;cases hj
 ·rw[if_neg e1];exact hj
def aKZ{p:PSt}{o:mW}{id:Nat}(h:id<p.next):(p.new o).get id=p.get id:=by
 rw[gP,if_neg (by omega)]
def MR.new(Mm:MR U q c0 c M p){k:Nat}(hk:100<=k)(hf:bR M.bx k=none){o:mW}{b:BC U.D}{n z:Nat}(hr:bcR U (qL c k ⟨some p.next,n,z⟩) (p.new o) ⟨some p.next,n,z⟩ b):
    MR U q c0 (qL c k ⟨some p.next,n,z⟩) ⟨(k,b)::M.bx,M.wr⟩ (p.new o)/\(WR U c M p->WR U (qL c k ⟨some p.next,n,z⟩) ⟨(k,b)::M.bx,M.wr⟩ (p.new o)):=by
 have hc:=Mm.dom k hf;refine⟨⟨λj h=>?_,λj y h=>?_,λj e id h1 h2=>?_,λj j' e e' id h1 h2 h3 h4=>?_,Nat.le_succ_of_le Mm.next,λj e h1 h2=>?_,λj e id h1 h2 h3=>?_,λid hi ho=>?_,Mm.dirty,λid hi=>?_⟩,λhw id hi j e h1 h2=>?_⟩
 ·rw[dK]at h;by_cases e1:j=k
  ·rw[if_pos e1]at h;cases h
  ·rw[if_neg e1]at h;unfold qL;rw[if_neg e1];exact Mm.dom j h
 ·rw[dK]at h;by_cases e1:j=k
  ·rw[if_pos e1]at h;simp only[ojE]at h;subst h;exact⟨_,by unfold qL;rw[if_pos e1],hr⟩
  ·rw[if_neg e1]at h;obtain⟨e,g1,g2⟩:=Mm.bx j y h;exact⟨e,gH hc j e g1,qI (bcR_le (gH hc) g2) λid hid=>aKZ (Mm.lt j e id g1 hid)⟩
 ·unfold qL at h1;by_cases e1:j=k
  ·rw[if_pos e1]at h1;cases h1;cases h2;exact Nat.lt_succ_self _
  ·rw[if_neg e1]at h1;exact Nat.lt_succ_of_lt (Mm.lt j e id h1 h2)
 ·unfold qL at h1 h2;by_cases e1:j=k<;>by_cases e2:j'=k
  ·rw[e1,e2]
  ·rw[if_pos e1]at h1;rw[if_neg e2]at h2;cases h1;cases h3;have:=Mm.lt j' e' _ h2 h4;omega
  ·rw[if_neg e1]at h1;rw[if_pos e2]at h2;cases h2;cases h4;have:=Mm.lt j e _ h1 h3;omega
  ·rw[if_neg e1]at h1;rw[if_neg e2]at h2;exact Mm.inj j j' e e' id h1 h2 h3 h4
 ·unfold qL at h1;by_cases e1:j=k
  ·omega
  ·rw[if_neg e1]at h1;exact Mm.bor j e h1 h2
 ·unfold qL at h1;by_cases e1:j=k
  ·rw[if_pos e1]at h1;cases h1;cases h3;exact Mm.next
  ·rw[if_neg e1]at h1;exact Mm.loc j e id h1 h2 h3
 ·rw[aKZ (Nat.lt_of_lt_of_le hi Mm.next)];exact Mm.old id hi ho
 ·obtain⟨g1,g2⟩:=Mm.wr id hi;exact⟨Nat.lt_succ_of_lt g1,g2⟩
 ·unfold qL at h1;by_cases e1:j=k
  ·rw[if_pos e1]at h1;cases h1;cases h2;have:=(Mm.wr _ hi).1;omega
  ·rw[if_neg e1]at h1;exact hw id hi j e h1 h2
def MR.new0(Mm:MR U q c0 c M p){k:Nat}(hk:100<=k)(hf:bR M.bx k=none){b:BC U.D}{n z:Nat}(hr:bcR U (qL c k ⟨none,n,z⟩) p ⟨none,n,z⟩ b):
    MR U q c0 (qL c k ⟨none,n,z⟩) ⟨(k,b)::M.bx,M.wr⟩ p/\(WR U c M p->WR U (qL c k ⟨none,n,z⟩) ⟨(k,b)::M.bx,M.wr⟩ p):=by
 have hc:=Mm.dom k hf;have un: ∀{j:Nat} {e:Ce} {id:Nat},qL c k ⟨none,n,z⟩ j=some e->e.id=some id->c j=some e:=by
  intro j e id h1 h2;unfold qL at h1;by_cases e1:j=k
  ·rw[if_pos e1]at h1;cases h1;cases h2
  ·rw[if_neg e1]at h1;exact h1
 refine⟨⟨λj h=>?_,λj y h=>?_,λj e id h1 h2=>Mm.lt j e id (un h1 h2) h2,λj j' e e' id h1 h2 h3 h4=>Mm.inj j j' e e' id (un h1 h3) (un h2 h4) h3 h4,Mm.next,λj e h1 h2=>?_,λj e id h1 h2 h3=>Mm.loc j e id (un h1 h3) h2 h3,Mm.old,Mm.dirty,Mm.wr⟩,λhw id hi j e h1 h2=>hw id hi j e (un h1 h2) h2⟩
 ·rw[dK]at h;by_cases e1:j=k
  ·rw[if_pos e1]at h;cases h
  ·rw[if_neg e1]at h;unfold qL;rw[if_neg e1];exact Mm.dom j h
 ·rw[dK]at h;by_cases e1:j=k
  ·rw[if_pos e1]at h;simp only[ojE]at h;subst h;exact⟨_,by unfold qL;rw[if_pos e1],hr⟩
  ·rw[if_neg e1]at h;obtain⟨e,g1,g2⟩:=Mm.bx j y h;exact⟨e,gH hc j e g1,bcR_le (gH hc) g2⟩
 ·unfold qL at h1;by_cases e1:j=k
  ·omega
  ·rw[if_neg e1]at h1;exact Mm.bor j e h1 h2
def MR.gone(Mm:MR U q c0 c M p){k:Nat}{b:BC U.D}(hb:bR M.bx k=some b)(w:List Nat):MR U q c0 c ⟨wH M.bx k .gone,w⟩ p:=by
 refine⟨λj h=>?_,λj y h=>?_,Mm.lt,Mm.inj,Mm.next,Mm.bor,Mm.loc,Mm.old,Mm.dirty,Mm.wr⟩
 ·simp only[fM]at h;by_cases hj:j=k
  ·rw[if_pos hj,hb]at h;cases h
  ·rw[if_neg hj]at h;exact Mm.dom j h
 ·simp only[fM]at h;by_cases hj:j=k
  ·subst hj;rw[if_pos rfl,hb]at h;simp only[omS,ojE]at h;subst h;obtain⟨e,h1,_⟩:=Mm.bx j b hb;exact⟨e,h1,trivial⟩
  ·rw[if_neg hj]at h;exact Mm.bx j y h
variable(hU:fV U)(hT:zD P U T)
def kM{k:Nat}{b:BC U.D}{K:TM U.D->Option W}(h:newT U M k b K=some r):bR M.bx k=none/\K ⟨(k,b)::M.bx,M.wr⟩=some r:=by
 unfold newT at h;split at h
 ·rename_i e;exact⟨e,h⟩
 ·cases h
include hU hT
def alT_ok{S':PS}{o:Oper}{d:Option Tmp}{t:TypeId}{K:X U->TM U.D->Option W}(ho:o.op= .alloc t)(h:alT U T.T M d t K=some r)(Mm:MR U q c0 c M p):
    ∃c' x M' v p',K x M'=some r/\dB P p S' o=some (v,false,p')/\leC c c'/\slR U c' x (v,false)/\MR U q c0 c' M' p'/\(WR U c M p->WR U c' M' p'):=by
 unfold alT at h;split at h
 ·rename_i d;split at h
  ·rename_i ty ff;obtain⟨hf,hk⟩:=kM h;have hz:=hT.zc t ty ff;have hc:=Mm.dom _ hf;have hsr:=aI5 hU ty;obtain⟨g1,g2⟩:=Mm.new (o:= .box ((zcT U ty).map λc=>fl c false)) (n:=0) (z:=0) (b:= .bx (.val ⟨ty,nD U ty⟩) (aAl U ty)) (Nat.le_add_right 100 d) hf ⟨p.next,_,rfl,by rw[gP,if_pos rfl],⟨(hsr.fl false).wk,(hsr.fl false).z,λy hy=>by
          obtain⟨z,_,rfl⟩:=List.mem_map.1 hy;exact pV z false⟩,λi s hi=>⟨.emp,by rw[List.getElem?_map,aE5 hU ty i s hi];rfl,λ_=>rfl⟩⟩
   exact⟨_,_,_,.ptr p.next 0,_,hk,by simp only[dB,ho,hz],gH hc,⟨⟨_,_,by unfold qL;rw[if_pos rfl],rfl,rfl⟩,aJ _ _⟩,g1,g2⟩
  ·cases fi:T.T.fn t with
   |false=>rw[fi]at h;cases h
   |true=>
    rw[fi]at h;obtain⟨hf,hk⟩:=kM h;obtain⟨_,_,hz⟩:=hT.fn t fi;have hc:=Mm.dom _ hf;obtain⟨g1,g2⟩:=Mm.new (o:= .box [(.v .nilFunc,false)]) (n:=0) (z:=0) (b:= .bx .nf []) (Nat.le_add_right 100 d) hf ⟨p.next,_,rfl,by rw[gP,if_pos rfl],⟨_,rfl⟩,λi s hi=>by cases hi⟩
    exact⟨_,_,_,.ptr p.next 0,_,hk,by simp only[dB,ho,hz];rfl,gH hc,⟨⟨_,_,by unfold qL;rw[if_pos rfl],rfl,rfl⟩,aJ _ _⟩,g1,g2⟩
 ·cases h
omit hT in
def bxT_ok{S:TS U.D}{S':PS}(F:frR U c S S'){o:Oper}{d:Option Tmp}{t:TypeId}{x:Operand}{K:X U->TM U.D->Option W}(ho:o.op= .box t x)(h:bxT U T.T M d t (evT U S x) K=some r)(Mm:MR U q c0 c M p):
    ∃c' x M' v p',K x M'=some r/\dB P p S' o=some (v,false,p')/\leC c c'/\slR U c' x (v,false)/\MR U q c0 c' M' p'/\(WR U c M p->WR U c' M' p'):=by
 have rx:=bA F x;unfold bxT at h;split at h
 ·rename_i d;split at h
  ·rename_i ty ff;split at h
   ·rename_i v hv;obtain⟨hf,hk⟩:=kM h;obtain⟨gn,kq⟩:=hY hU hv rx.1;have hsr:=VR.sr kq;have hc:=Mm.dom _ hf;have kr:=(oF rx).2;obtain⟨g1,g2⟩:=Mm.new (o:= .box ((pev S' x).cells.map λc=>fl c false)) (n:=0) (z:=0) (b:= .bx (.val v) (rJ U (evT U S x)).2) (Nat.le_add_right 100 d) hf ⟨p.next,_,rfl,by rw[gP,if_pos rfl],⟨(hsr.fl false).wk,(hsr.fl false).z,λy hy=>by
            obtain⟨z,_,rfl⟩:=List.mem_map.1 hy;exact pV z false⟩,rts_fl kr kq⟩
    exact⟨_,_,_,.ptr p.next 0,_,hk,by simp only[dB,ho,hsr.one hU,cdt],gH hc,⟨⟨_,_,by unfold qL;rw[if_pos rfl],rfl,rfl⟩,aJ _ _⟩,g1,g2⟩
   ·cases h
  ·split at h
   ·rename_i f caps hx;obtain⟨hf,hk⟩:=kM h;have h1:=rx.1;rw[hx]at h1;obtain⟨ps,jv,fa⟩:=h1;have hc:=Mm.dom _ hf;obtain⟨g1,g2⟩:=Mm.new (o:= .box [(.fn f [] ps,false)]) (n:=0) (z:=0) (b:= .bx (.cl f caps) []) (Nat.le_add_right 100 d) hf ⟨p.next,_,rfl,by rw[gP,if_pos rfl],⟨_,_,rfl,ps,rfl,aEy (gH hc) fa⟩,λi s hi=>by cases hi⟩
    have jv:pev S' x= .fn f [] ps:=jv;exact⟨_,_,_,.ptr p.next 0,_,hk,by simp only[dB,ho,jv];rfl,gH hc,⟨⟨_,_,by unfold qL;rw[if_pos rfl],rfl,rfl⟩,aJ _ _⟩,g1,g2⟩
   ·cases h
 ·cases h
omit hT in
def aFo(e:Ty): ∀n,eT (wks (zcT U e)) n=((aCX (nD U e) n).map (enV U e)).flatMap PV.cells
 |0=>rfl
 |n+1=>by rw[eT,aCX,mpC,fmC,aFo e n,aI4 hU]
omit hU hT in
def zW{N:Type}(x:N): ∀n,(aCX x n).length=n
 |0=>rfl
 |n+1=>by rw[aCX,lcS,zW x n]
def msT_ok{S:TS U.D}{S':PS}(F:frR U c S S'){o:Oper}{d:Option Tmp}{t:TypeId}{l k:Operand}{K:X U->TM U.D->Option W}(ho:o.op= .makeSlice t l k)(h:msT U T.T M d t (isZ l) T.el (evT U S l).1 (evT U S k).1 K=some r)(Mm:MR U q c0 c M p):
    ∃c' x M' v own p',K x M'=some r/\dB P p S' o=some (v,own,p')/\leC c c'/\slR U c' x (v,own)/\MR U q c0 c' M' p'/\(WR U c M p->WR U c' M' p'):=by
 have rl:=(bA F l).1;have rk:=(bA F k).1;unfold msT at h;split at h
 ·rename_i et fb n m ff rv hl hk;rw[hl]at rl;rw[hk]at rk;have el:pev S' l= .v (.int .i64 n):=fD rl;have ek:pev S' k= .v (.int .i64 m):=fD rk;clear rl rk hl hk;obtain⟨n',hn'⟩: ∃n':Int,n'=n:=⟨n,rfl⟩;subst hn';obtain⟨m',qf⟩: ∃m':Int,m'=m:=⟨m,rfl⟩;subst qf;obtain⟨hc,h⟩:=cN h;simp only[bjE,djE]at hc;obtain⟨⟨⟨hc1,hc2⟩,hc3⟩,hc4⟩:=hc;obtain⟨eid',hu,gp,gh⟩:=hT.un t _ ff;rw[rv]at gh;cases gh;obtain⟨info,z,hi,co,hby,hb1,hz,ja,hzc,hzp⟩:=hT.inf fb et gp;have gz:=hT.ag fb et gp;have jv:=lQ hU et;have c0: ∀(n' m':Int),0<=n'->n'<=m'->m'*(T.T.by' fb:Int)<=1073741824->m'<=1073741824->(decide (0<=n')&&decide (n'<=m')&&decide (m'*(info.bytes:Int)<=1073741824)&&decide (m'<=1073741824)&&z.cells.toList.all aE&&Nat.beq z.cells.size info.size&&Nat.ble 1 info.size&&(oY et||Nat.beq info.size 1))=true:=by
   intro n' m' hc1 hc2 hc3 hc4;rw[ja,co,hby,hzp,Nat.beq_refl,(by rw[Nat.ble_eq];exact jv:Nat.ble 1 (szT U et)=true),decide_eq_true hc1,decide_eq_true hc2,decide_eq_true hc3,decide_eq_true hc4]
   cases et<;>rfl
  have c1:=c0 n' m' hc1 hc2 hc3 hc4;have qr:dB P p S' o=bif decide (n'=0)then some (.sl info.size [],true,p)else bif decide (n'=m')then some (.rs p.next 0 n'.toNat,false,p.new (.row info.size (oY et) (eT (wks (ofVs z.cells.toList)) n'.toNat)))else none:=by
   simp only[dB,ho,hu,el,ek,hi,gz,hz,c1,cdt]
  have ny:VR U (.sl et) [] (.sl (szT U et) []):=⟨rfl,λj z' hj=>by
   cases j with
   |zero=>simp only[PV.cells,gcZ,ojE,PV.sl.injEq]at hj;exact⟨et,rfl,hj.1.symm⟩
   |succ j=>simp[PV.cells]at hj⟩
  cases nc:isZ l with
  |true=>
   rw[nc]at h;obtain⟨hn,h⟩:=cN h;have hn:=of_decide_eq_true hn;refine⟨c,_,_,.sl (szT U et) [],true,p,h,?_,leC.refl c,⟨ny,?_⟩,Mm,λhw=>hw⟩
   ·rw[qr,decide_eq_true hn,cdt,co]
   ·intro i s hi;simp only[List.mem_singleton,pjE]at hi;exact .inr ⟨hi.1,rfl,rfl,λe=>by rw[hi.2]at e;cases e⟩
  |false=>
   rw[nc]at h;obtain⟨hn,h⟩:=cN h;have hn:=of_decide_eq_true hn;cases d with
   |none=>cases h
   |some d=>
    obtain⟨hf,hk⟩:=kM h;have hcn:=Mm.dom _ hf;by_cases h0:n'=0
    ·have h00:n'.toNat=0:=by omega
     obtain⟨g1,g2⟩:=Mm.new0 (b:= .row et (aCX (nD U et) n'.toNat)) (n:=0) (z:=szT U et) (Nat.le_add_right 100 d) hf ⟨by rw[zW,h00],rfl,.inl ⟨rfl,by rw[h00];rfl⟩⟩
     refine⟨_,_,_,.sl (szT U et) [],true,p,hk,by rw[qr,decide_eq_true h0,cdt,co],gH hcn,⟨⟨_,by unfold qL;rw[if_pos rfl],.inl ⟨rfl,rfl,.inl rfl⟩⟩,aJ _ _⟩,g1,g2⟩
    ·obtain⟨g1,g2⟩:=Mm.new (o:= .row (szT U et) (oY et) (eT (wks (ofVs z.cells.toList)) n'.toNat)) (b:= .row et (aCX (nD U et) n'.toNat)) (n:=n'.toNat) (z:=szT U et) (Nat.le_add_right 100 d) hf ⟨by rw[zW],rfl,.inr ⟨p.next,rfl,by rw[gP,if_pos rfl,hzc,aFo hU]⟩⟩
     refine⟨_,_,_,.rs p.next 0 n'.toNat,false,_,hk,by rw[qr,decide_eq_false h0,cdf,decide_eq_true hn,cdt,co],gH hcn,⟨⟨_,by unfold qL;rw[if_pos rfl],.inr ⟨_,rfl,by
      have k1:(0:Int)<=n':=hc1;have k2: ¬(n':Int)=0:=h0;simp only;omega,rfl⟩⟩,aJ _ _⟩,g1,g2⟩
 ·cases h
omit hT in
def lK{n:Nat}: ∀(l:List (U.D n)),mQ (U.sz n) l.length ((l.map (enV U (.rc n))).flatMap PV.cells)=l.map (enV U (.rc n))
 |[]=>rfl
 |x::l=>by
  rw[lcS,mQ,mpC,fmC];have hl:(enV U (.rc n) x).cells.length=U.sz n:=fE hU (.rc n) x;rw[List.take_left' hl,List.drop_left' hl,lK l];rfl
omit hU hT in
def aGm{t:Ty}(h:oY t=false): ∀(l:List (Den U.D t)),(l.map (enV U t)).flatMap PV.cells=l.map (enV U t)
 |[]=>rfl
 |x::l=>by
  rw[mpC,fmC,aGm h l];have:(enV U t x).cells=[enV U t x]:=by
   cases t with
   |rc n=>cases h
   |sl t=>exact jJ (cI _ _)
   |_=>rfl
  rw[this];rfl
omit hU hT in
def aGh{p:PSt}{x:PV×Bool}(h: ∀id off len,x.1≠ .rs id off len):frz p x=some (x,p):=by
 obtain⟨pv,b⟩:=x;cases pv with
 |rs id off len=>exact(h id off len rfl).elim
 |_=>rfl
omit hU hT in
def aC8{S0:TS U.D}{S':PS}{t:Nat}(F:frR U c S0 S'):frR U c S0 (S'.set t (S'.at t)):=λk=>by
 rw[lW];by_cases e:k=t
 ·rw[if_pos e,<-e];exact F k
 ·rw[if_neg e];exact F k
omit hT in
def aK2{S:TS U.D}{S':PS}(F:frR U c S S'){t:Nat}{R:TS U.D×TM U.D}(h:frT U S M t=some R)(Mm:MR U q c0 c M p):
    ∃S'' p',fX p S' t=some (S'',p')/\frR U c R.1 S''/\MR U q c0 c R.2 p'/\(WR U c M p->WR U c R.2 p'):=by
 have hs:=F t;have same: ∀{x:SV U.D} {r:Rts},oZ S t=(x,r)->(∀id off len,(S'.at t).1≠ .rs id off len)->R=((t,(x,r))::S,M)->
      ∃S'' p',fX p S' t=some (S'',p')/\frR U c R.1 S''/\MR U q c0 c R.2 p'/\(WR U c M p->WR U c R.2 p'):=by
  intro x r hx bu hR;subst hR;refine⟨S'.set t (S'.at t),p,by simp only[fX,aGh bu],?_,Mm,λhw=>hw⟩
  exact aC8 (aGi F (show slR U c (x,r) (S'.at t) by rw[<-hx];exact hs))
 unfold frT at h;split at h
 ·rename_i k rr hx;split at h
  ·rename_i e l hf;simp only[ojE]at h;subst h;have h1:=hs.1;rw[hx]at h1;obtain⟨ce,pk,h1⟩:=h1;obtain⟨ce',hce',hn,hz,bh⟩:=Mm.bx k _ hf;rw[pk]at hce';cases hce';rcases h1 with⟨hid,hn0,hp⟩|⟨id,hid,hn1,hp⟩
   ·have hl:l=[]:=List.length_eq_zero_iff.1 (by omega)
    subst hl;refine⟨S'.set t (S'.at t),p,by rw[fX,aGh (by rcases hp with hp|hp<;>(rw[hp];intro _ _ _ e;cases e))],?_,Mm.gone hf _,λhw i hi j e' g1 g2=>by
     show(Nat.beq k j||bW j M.wr)=true;rw[hw i hi j e' g1 g2,Bool.or_true]⟩
    refine mM F ⟨?_,aJ _ _⟩;show VR U (.sl e) [] (S'.at t).1;rcases hp with hp|hp
    ·rw[hp,hz];exact⟨rfl,λj z' hj=>by
      cases j with
      |zero=>simp only[PV.cells,gcZ,ojE,PV.sl.injEq]at hj;exact⟨e,rfl,hj.1.symm⟩
      |succ j=>simp[PV.cells]at hj⟩
    ·rw[hp];exact aCD e [] (z:=szT U e) (es:=[]) rfl rfl
   ·rcases bh with⟨de,_⟩|⟨bp,dq,bf⟩
    ·rw[hid]at de;cases de
    ·rw[hid]at dq;cases dq;have kx:((l.map (enV U e)).flatMap PV.cells).length=l.length*szT U e:=by
      have:=dR (z:=szT U e) (es:=l.map (enV U e)) (λe' fo=>by obtain⟨a,_,rfl⟩:=List.mem_map.1 fo;exact fE hU _ _)
      rw[List.length_map]at this;exact this
     have hpur:((l.map (enV U e)).flatMap PV.cells).all PV.pur=true:=by
      rw[List.all_eq_true];intro x hx;obtain⟨y,hy,hx⟩:=List.mem_flatMap.1 hx;obtain⟨a,_,rfl⟩:=List.mem_map.1 hy;exact gd_pur (List.all_eq_true.1 (rQ hU e a) x hx)
     have jv:=lQ hU e;have c1:(Nat.ble (0+ce.n*ce.z) ((l.map (enV U e)).flatMap PV.cells).length&&Nat.ble 1 ce.z&&(oY e||Nat.beq ce.z 1)&&((l.map (enV U e)).flatMap PV.cells).all PV.pur)=true:=by
      rw[kx,hpur,hz,hn,Nat.zero_add,(by rw[Nat.ble_eq];exact nlR _:Nat.ble (l.length*szT U e) (l.length*szT U e)=true),(by rw[Nat.ble_eq];exact jv:Nat.ble 1 (szT U e)=true)]
      cases e<;>rfl
     have lh:(bif oY e then mQ ce.z ce.n ((((l.map (enV U e)).flatMap PV.cells).drop 0).take (ce.n*ce.z))else((((l.map (enV U e)).flatMap PV.cells).drop 0).take (ce.n*ce.z)))=l.map (enV U e):=by
      rw[List.drop_zero,List.take_of_length_le (by rw[kx,hn,hz];exact nlR _)]
      cases hr:oY e with
      |true=>
       cases e with
       |rc n=>rw[cdt,hz,hn];exact lK hU l
       |_=>cases hr
      |false=>rw[cdf];exact aGm hr l
     have hat:S'.at t=(.rs id 0 ce.n,(S'.at t).2):=by rw[<-hp]
     obtain⟨m1,m2⟩:=Mm.upd (o:= .gone) (b':= .gone) hf pk hid trivial;refine⟨S'.set t (dN ce.z (l.map (enV U e)),false),p.upd id .gone,?_,?_,m1,m2⟩
     ·rw[fX,hat];simp only[frz,bf,c1,cdt,lh]
     ·exact mM F ⟨aCD _ _ hz rfl,aJ _ _⟩
  ·cases h
 ·rename_i v rr hx;simp only[ojE]at h;refine same hx ?_ h.symm;intro id off len e;have h1:=hs.1;rw[hx]at h1;have h2:VR U v.t v.x (S'.at t).1:=h1;have h3:=h2.wk;rw[e]at h3;obtain⟨vt,vx⟩:=v;cases vt with
  |sl t=>have:=cI (szT U t) (List.map (enV U t) vx);simp only[enV]at h3;rw[<-h3]at this;cases this
  |_=>cases h3
 ·rename_i rr hx;simp only[ojE]at h;refine same hx ?_ h.symm;intro id off len e;have h1:=hs.1;rw[hx]at h1;have h2:(S'.at t).1= .nil:=h1;rw[h2]at e;cases e
 ·rename_i f caps rr hx;simp only[ojE]at h;refine same hx ?_ h.symm;intro id off len e;have h1:=hs.1;rw[hx]at h1;obtain⟨ps,h2,_⟩:=h1;rw[h2]at e;cases e
 ·cases h
end
end Go.TV
namespace Go.TV
open Go.AI Go.PI
section
variable{P:Program}{U:jP}{T:TP U.D}{c c0:Cx}{W:Type}{r:W}{q p:PSt}{M:TM U.D}
def aAf{S':PS}{x:Operand}(h:(jD S' x||iO (pev S' x))=true):jD S' x=true:=by
 cases x with
 |tmp t=>simpa [jD,pev,Bool.or_assoc]using h
 |const v=>
  cases v with
  |slice b l k=>
   cases b with
   |none=>rfl
   |some b=>simp[jD,pev,ofV,iO]at h
  |_=>simp[jD,pev,ofV,iO]at h
 |global g=>simp[jD,pev,iO]at h
 |func f=>simp[jD,pev,iO]at h
variable(hU:fV U)(hT:zD P U T)
include hU hT
def apT_ok{S:TS U.D}{S':PS}(F:frR U c S S'){cl:Call}{s x:Operand}{K:X U->Option W}(h:apT U T.T T.el cl.argTypes.toList (evT U S s) (evT U S x).1 K=some r):
    ∃y v own,K y=some r/\pL P S' cl s x=some (v,own,qU S' s)/\slR U c y (v,own):=by
 have rs:=bA F s;have rx:=(bA F x).1;unfold apT at h;split at h
 ·rename_i t t1 ju;split at h
  ·rename_i et fb e1 ff rv hty1;split at h
   ·rename_i a l b w hs hx;split at h
    ·rename_i l' w' hl hw;obtain⟨bw,mj⟩:=hY hU hs rs.1;obtain⟨hxt,hxv⟩:=hY hU hx rx;have e2:=kT hl;have e3:=kT hw;have mj:VR U (.sl et) l' (pev S' s):=by
      have:VR U (⟨a,l⟩:TV U.D).t (⟨a,l⟩:TV U.D).x (pev S' s):=mj;rw[e2]at this;exact this
     have hxv:VR U (.sl et) w' (pev S' x):=by
      have:VR U (⟨b,w⟩:TV U.D).t (⟨b,w⟩:TV U.D).x (pev S' x):=hxv;rw[e3]at this;exact this
     obtain⟨eid',hu,gp,gh⟩:=hT.un t _ ff;rw[rv]at gh;cases gh;obtain⟨eid1,hu1,_⟩:=hT.un t1 _ hty1;obtain⟨info,z,hi,co,hby,hb1,hz,ja,hzc,hzp⟩:=hT.inf fb et gp;obtain⟨g1,g2⟩:=rH mj;obtain⟨k1,k2⟩:=rH hxv;have c1:(Nat.ble 1 info.size&&Nat.ble 1 info.bytes&&Nat.beq z.cells.size info.size)=true:=by
      rw[ja,Nat.beq_refl,co,(by rw[Nat.ble_eq];exact lQ hU et:Nat.ble 1 (szT U et)=true),(by rw[Nat.ble_eq];exact hb1:Nat.ble 1 info.bytes=true)];rfl
     have lz:isAgg (pev S' s)=false:=iY (v:=⟨.sl et,l'⟩) mj rfl;have qu:pL P S' cl s x=(match w'.map (enV U et)with
              |[]=>some (pev S' s,jD S' s,qU S' s)
              |xs=>bif jD S' s&&Nat.ble (((l'.map (enV U et)).length+(w'.map (enV U et)).length)*info.bytes) 1073741824 then some (dN info.size (l'.map (enV U et)++w'.map (enV U et)),true,qU S' s)else none):=by
      have e4:mO info.size (pev S' s)=some (l'.map (enV U et)):=by rw[co];exact g1
      have e5:pG info.size (.slice eid1) (pev S' x)=some (w'.map (enV U et)):=by rw[co];exact k1
      simp only[pL,ju,hu,hu1,hi,e4,e5,hz,c1,cdt];rfl
     cases hm:aKK 0 (evT U S s).2 with
     |true=>
      rw[hm]at h;obtain⟨hc,h⟩:=cN h;obtain⟨st,hst2⟩:=oD.1 hm;have how:jD S' s=true:=by
       rcases rs.2 0 st hst2 with⟨h1,_⟩|⟨_,_,h1,_⟩
       ·rw[lz]at h1;cases h1
       ·exact aAf h1
      cases w' with
      |nil=>
       refine⟨_,pev S' s,jD S' s,h,by rw[qu];rfl,?_,rs.2⟩
       show VR U (.sl et) (l'++ []) (pev S' s);rw[apN];exact mj
      |cons w0 w'=>
       refine⟨_,dN info.size (l'.map (enV U et)++(w0::w').map (enV U et)),true,h,?_,aCD _ _ co (by rw[<-List.map_append]),?_⟩
       ·rw[qu,how];simp only[mpC,List.length_map,lcS,hby];have me:Nat.ble ((l'.length+(w'.length+1))*T.T.by' fb) 1073741824=true:=hc
        rw[me];rfl
       ·intro o s' jx;have hg:=cI info.size (l'.map (enV U et)++(w0::w').map (enV U et));rcases rs.2 o s' jx with⟨h1,_⟩|⟨h1,_⟩
        ·rw[lz]at h1;cases h1
        ·refine .inr ⟨h1,?_,rfl,λ_=>xI hg⟩
         cases hc:dN info.size (l'.map (enV U et)++(w0::w').map (enV U et))<;>first|rfl|(rw[hc]at hg;cases hg)
     |false=>
      rw[hm]at h;obtain⟨hc,h⟩:=cN h;cases w' with
      |nil=>exact⟨_,pev S' s,jD S' s,h,by rw[qu];rfl,mj,aJ _ _⟩
      |cons w0 w'=>cases hc
    ·cases h
   ·cases h
  ·cases h
 ·cases h
def ap1T_ok{S:TS U.D}{S':PS}(F:frR U c S S'){ts:List TypeId}{t1 t2:TypeId}{s zz n x:Operand}{K:V U->V U->Option W}(h:ap1T U T.T T.el ts t1 t2 (evT U S s) (evT U S zz).1 (evT U S n).1 (evT U S x).1 K=some r):
    ∃y w v,K y w=some r/\pappV P ts t1 t2 (pev S' s) (jD S' s) (pev S' zz) (pev S' n) (pev S' x)=some v/\slR U c (.val y,[(0,true)]) (v,true)/\svR U c (.ep w) (pinL v):=by
 have rs:=bA F s;have rz:=(bA F zz).1;have rn:=(bA F n).1;have rx:=(bA F x).1;unfold ap1T at h;split at h
 ·rename_i t tz;split at h
  ·rename_i et fb e1 ff rv hty1;split at h
   ·rename_i a l b y kk k v hs hz hn hx;split at h
    ·rename_i l' y0 w' hl hy hw;rw[hn]at rn;cases hb:aKK 0 (evT U S s).2&&Nat.beq t1 t&&Nat.beq t2 fb with
     |false=>rw[hb]at h;cases h
     |true=>
      rw[hb]at h;simp only[bjE,cG,djE]at hb;obtain⟨⟨hm,rfl⟩,rfl⟩:=hb;obtain⟨hc,h⟩:=cN h;simp only[bjE,djE]at hc;obtain⟨bw,mj⟩:=hY hU hs rs.1;obtain⟨hzt,hzv⟩:=hY hU hz rz;obtain⟨hxt,hxv⟩:=hY hU hx rx;have e2:=kT hl;have e3:=kT hy;have e4:=kT hw;have mj:VR U (.sl et) l' (pev S' s):=by
       have:VR U (⟨a,l⟩:TV U.D).t (⟨a,l⟩:TV U.D).x (pev S' s):=mj;rw[e2]at this;exact this
      have hzv:VR U (.sl et) [y0] (pev S' zz):=by
       have:VR U (⟨b,y⟩:TV U.D).t (⟨b,y⟩:TV U.D).x (pev S' zz):=hzv;rw[e3]at this;exact this
      have hxv:VR U et w' (pev S' x):=by
       have:VR U (⟨v.t,v.x⟩:TV U.D).t (⟨v.t,v.x⟩:TV U.D).x (pev S' x):=hxv;rw[e4]at this;exact this
      obtain⟨eid',hu,gp,gh⟩:=hT.un t1 _ ff;rw[rv]at gh;cases gh;obtain⟨eid1,hu1,_⟩:=hT.un tz _ hty1;obtain⟨info,z,hi,co,hby,hb1,nd,ja,hzc,hzp⟩:=hT.inf t2 et gp;obtain⟨g1,g2⟩:=rH mj;obtain⟨k1,_⟩:=rH hzv;have lz:isAgg (pev S' s)=false:=iY (v:=⟨.sl et,l'⟩) mj rfl;obtain⟨st,hst2⟩:=oD.1 hm;have how:jD S' s=true:=by
       rcases rs.2 0 st hst2 with⟨h1,_⟩|⟨_,_,h1,_⟩
       ·rw[lz]at h1;cases h1
       ·exact aAf h1
      have e5:mO info.size (pev S' s)=some (l'.map (enV U et)):=by rw[co];exact g1
      have e6:pG info.size (.slice eid1) (pev S' zz)=some [enV U et y0]:=by rw[co];exact k1
      have e7:pev S' n= .v (.int kk k):=fD rn;have hlen:((l'.map (enV U et)).length+1)*info.bytes=(l'.length+1)*T.T.by' t2:=by rw[List.length_map,hby]
      have hlen2:(k:Int)=((l'.map (enV U et)).length:Int):=by rw[List.length_map];exact hc.2
      have c1:(Nat.ble 1 info.size&&Nat.ble 1 info.bytes&&Nat.beq z.cells.size info.size&&jD S' s&&Nat.ble (((l'.map (enV U et)).length+1)*info.bytes) 1073741824&&Nat.beq t1 t1&&Nat.beq t2 t2&&decide ((k:Int)=((l'.map (enV U et)).length:Int))&&PI.shape (oY et) info.size (pev S' x))=true:=by
       rw[hlen,hc.1,decide_eq_true hlen2,ja,co,nH hU hxv,how,(by rw[Nat.ble_eq];exact lQ hU et:Nat.ble 1 (szT U et)=true),(by rw[Nat.ble_eq];exact hb1:Nat.ble 1 info.bytes=true)]
       simp only[Nat.beq_refl,Bool.and_self]
      have bu:l'.map (enV U et)++ [wk (pev S' x)]≠ []:=by simp
      have lk:PV.sl info.size (l'.map (enV U et)++ [wk (pev S' x)])=dN info.size (l'.map (enV U et)++ [wk (pev S' x)]):=by
       cases hh:l'.map (enV U et)++ [wk (pev S' x)]with
       |nil=>exact(bu hh).elim
       |cons a b=>rfl
      refine⟨_,_,dN info.size (l'.map (enV U et)++ [wk (pev S' x)]),h,?_,⟨aCD _ _ co (by rw[List.map_append,hxv.wk];rfl),?_⟩,?_⟩
      ·simp only[pappV,hu,hu1,hi,hT.ag _ _ gp,e5,e6,nd,e7];rw[c1,<-lk];rfl
      ·intro o s' jx;simp only[List.mem_singleton,pjE]at jx;have hg:=cI info.size (l'.map (enV U et)++ [wk (pev S' x)]);refine .inr ⟨jx.1,?_,rfl,λ_=>xI hg⟩
       cases hc:dN info.size (l'.map (enV U et)++ [wk (pev S' x)])<;>first|rfl|(rw[hc]at hg;cases hg)
      ·rw[<-lk];refine⟨_,_,0,wk (pev S' x),rfl,by simp,?_⟩
       rw[hxv.wk,List.drop_zero];exact List.take_of_length_le (Nat.le_of_eq (fE hU et w'))
    ·cases h
   ·cases h
  ·cases h
 ·cases h
end
end Go.TV
namespace Go.TV
open Go.AI Go.PI
section
variable{P:Program}{U:jP}{T:TP U.D}{c c0:Cx}{W:Type}{r:W}{q p:PSt}{M:TM U.D}
structure aCS(U:jP)(s:Sig)(d:List (V U))(p:PSt)(cc:Cx)(args:List (PV×Bool))(S0:TS U.D)(M0:TM U.D):Prop where
 start:unT' U (cutOf s) d=some (S0,M0)
 len:args.length=s.ps.length
 args: ∀i y,args[i]?=some y->slR U cc (oZ S0 i) y
 bx: ∀j b,bR M0.bx j=some b->∃e,cc j=some e/\bcR U cc p e b
 dom: ∀j,s.bx.length<=j->cc j=none
 lt: ∀j e id,cc j=some e->e.id=some id->id<p.next
 inj: ∀k k' e e' id,cc k=some e->cc k'=some e'->e.id=some id->e'.id=some id->k=k'
 wr: ∀id,id∈p.wr->id<p.next
structure aOf(U:jP)(s:Sig)(out:List (V U))(p:PSt)(cc:Cx)(pv:PV)(own:Bool)(p':PSt):Prop where
 res:slR U cc (aIW U s.own (out.take s.rs.length)) (pv,own)
 out: ∃m,fW U s.bx s.bo (out.drop s.rs.length)=some m/\∀j x,m[j]?=some x->∃e,cc j=some e/\bcR U cc p' e x
 next:p'.next=p.next
 get: ∀id,id<p.next->(∀j e,cc j=some e->e.id≠some id)->p'.get id=p.get id
 get2: ∀id,id<p.next->id∉p'.dirty->p'.get id=p.get id
 dirty: ∀id,id∈p'.dirty->id∈p.dirty∨∃j e,cc j=some e/\e.id=some id
 dirty2: ∀id,id∈p.dirty->id∈p'.dirty
 wr: ∀id,id∈p'.wr->id∈p.wr∨∃j e,cc j=some e/\e.id=some id
def CallOK(U:jP)(T:TP U.D)(tc:mV U.D)(pc:fB):Prop:=
 ∀inst s d out,T.sig inst=some s->tc inst d=some out->∀p cc args S0 M0,aCS U s d p cc args S0 M0->∃pv own p',pc s.f args p=some (pv,own,p')/\aOf U s out p cc pv own p'
def mS(c:Cx)(bk:List Nat):Cx:=λj=>if j<bk.length then c (lF bk j)else none
def rW: ∀(l:List Nat) (i:Nat),i<l.length->l[i]?=some (lF l i)
 |x::l,0,_=>rfl
 |x::l,i+1,h=>by rw[gcS];exact rW l i (by simpa using h)
 |[],i,h=>by simp at h
def pW: ∀{a b:List Nat},aC0 a b=true->a=b
 |[],[],_=>rfl
 |x::a,y::b,h=>by
  simp only[aC0,bjE,cG,djE]at h;rw[h.1,pW h.2]
 |[],_::_,h=>by cases h
 |_::_,[],h=>by cases h
def eU{i:Nat}: ∀{l:List Nat},bW i l=true↔i∈l
 |[]=>by simp[bW]
 |x::l=>by
  simp only[bW,Bool.or_eq_true,cG,djE,eU (l:=l),List.mem_cons];exact or_congr eq_comm Iff.rfl
def sU: ∀{l:List Nat},aKG l=true->l.Nodup
 |[],_=>List.nodup_nil
 |x::l,h=>by
  simp only[aKG,bjE,Bool.not_eq_true']at h;refine List.nodup_cons.2 ⟨λhm=>?_,sU h.2⟩
  rw[eU.2 hm]at h;cases h.1
def nth_inj{bk:List Nat}(h:bk.Nodup){i j:Nat}(hi:i<bk.length)(hj:j<bk.length)(e:lF bk i=lF bk j):i=j:=by
 have h1:=rW bk i hi;have h2:=rW bk j hj;rw[<-e,<-h1]at h2;exact((List.getElem?_inj hj h).1 h2).symm
def aEz{bk:List Nat}: ∀{caps:List Nat} {ps:List PV},uK caps bk.length=true->(aC1 c (mapN (lF bk) caps) ps↔aC1 (mS c bk) caps ps)
 |[],[],_=>Iff.rfl
 |k::ks,x::ps,h=>by
  simp only[uK,bjE,iN,djE]at h;simp only[mapN,aC1,mS,if_pos h.1];exact and_congr Iff.rfl (aEz h.2)
 |[],_::_,_=>Iff.rfl
 |_::_,[],_=>Iff.rfl
def aGx{bk:List Nat}: ∀{caps:List Nat} {ps:List PV},aC1 (mS c bk) caps ps->aC1 c (mapN (lF bk) caps) ps
 |[],[],_=>trivial
 |k::ks,x::ps,⟨⟨e,id,h1,h2,h3⟩,h4⟩=>by
  unfold mS at h1;split at h1
  ·exact⟨⟨e,id,h1,h2,h3⟩,aGx h4⟩
  ·cases h1
 |[],_::_,h=>h.elim
 |_::_,[],h=>h.elim
def aMA{bk:List Nat}{s:SV U.D}{cs:List (PV×Bool)}(h:uE U (mS c bk) s cs):uE U c (renS U bk s) cs:=by
 cases s with
 |cl f caps=>obtain⟨p,b,e,ps,h1,h2⟩:=h;exact⟨p,b,e,ps,h1,aGx h2⟩
 |_=>exact h
def VR_wk{t:Ty}{x:Den U.D t}{p:PV}(hU:fV U)(h:VR U t x p):VR U t x (wk p):=by
 refine⟨by rw[h.wk,en_wk hU],?_⟩
 rw[h.wk];exact aA7 (rQ hU t x)
def argR(U:jP)(c:Cx)(take:Bool):List (X U)->List (PV×Bool)->Prop
 |[],[]=>True
 |x::xs,y::ys=>(∃pv ow,svR U c x.1 pv/\rtR x.2 pv ow/\y=(wk pv,take&&ow&& !isE pv)/\(take=false->x.2=[])/\(iO pv=true->ow=true))/\argR U c take xs ys
 |_,_=>False
def uI{take:Bool}: ∀{xs xs':List (X U)} {ys ys':List (PV×Bool)},argR U c take xs ys->argR U c take xs' ys'->argR U c take (xs++xs') (ys++ys')
 |[],_,[],_,_,h=>h
 |x::xs,_,y::ys,_,h,h'=>⟨h.1,uI h.2 h'⟩
 |[],_,_::_,_,h,_=>h.elim
 |_::_,_,[],_,h,_=>h.elim
def aFS{take:Bool}: ∀{args:List Operand} {S:TS U.D} {S':PS},frR U c S S'->frR U c (aH6 U take S args).2 (jY take S' args).2/\argR U c take (aH6 U take S args).1 (jY take S' args).1
 |[],S,S',F=>⟨F,trivial⟩
 |x::xs,S,S',F=>by
  have F1:frR U c (bif take then sY U S x else S) (bif take then qU S' x else S'):=by
   cases take with
   |true=>exact lJ F x
   |false=>exact F
  obtain⟨h1,h2⟩:=aFS (args:=xs) F1;have:=bA F x;refine⟨h1,⟨pev S' x,jD S' x,this.1,?_,rfl,λe=>by rw[e];rfl,λh=>aAf (by rw[h,Bool.or_true])⟩,h2⟩
  cases take with
  |true=>exact this.2
  |false=>exact aJ _ _
def aMB{take:Bool}: ∀{caps:List Nat} {ps:List PV},aC1 c caps ps->argR U c take (caps.map λk=>(SV.lc k 0 [],[])) (pN ps)
 |[],[],_=>trivial
 |k::ks,x::ps,⟨⟨e,id,h1,h2,h3⟩,h4⟩=>by
  refine⟨⟨x,false,⟨e,id,h1,h2,h3⟩,aJ _ _,by rw[Bool.and_false,Bool.false_and],λ_=>rfl,λh=>by rw[h3]at h;cases h⟩,aMB h4⟩
 |[],_::_,h=>h.elim
 |_::_,[],h=>h.elim
def xH{S:TS U.D}{i k:Nat}{x:X U}(h:k≠i):oZ ((i,x)::S) k=oZ S k:=by rw[oK,if_neg h]
def lA: ∀{rs:Rts},lS rs=true->(0,true)∈rs
 |x::rs,h=>by
  obtain⟨a,b⟩:=x;simp only[lS,Bool.or_eq_true,bjE,cG,djE]at h;rcases h with⟨rfl,rfl⟩|h
  ·exact mhE ..
  ·exact mtE _ (lA h)
def aBw(hU:fV U){bk:List Nat}{take:Bool}: ∀{ps:List (Sh×Bool)} {xs:List (X U)} {ys:List (PV×Bool)} {d:List (V U)} (i0:Nat) (rest:List (V U)),jU U bk ps xs=some d->argR U c take xs ys->
    ys.length=ps.length/\∃S0,unS U (cutOf.psL ps i0) (d++rest)=some (S0,rest)/\∀i y,ys[i]?=some y->slR U (mS c bk) (oZ S0 (i0+i)) y
 |[],[],[],d,i0,rest,h,_=>by
  simp only[jU,ojE]at h;subst h;exact⟨rfl,[],rfl,λi y hy=>by simp at hy⟩
 |(s,own)::ps,x::xs,y::ys,d,i0,rest,h,⟨⟨pv,ow,r1,r2,hy0,r3,r4⟩,hr⟩=>by
  subst hy0;have fin: ∀(sv:SV U.D) (dv dl:List (V U)),jU U bk ps xs=some dl->d=dv++dl->unV U s (dv++(dl++rest))=some (sv,dl++rest)->svR U (mS c bk) sv (wk pv)->(own=true->lS x.2=true/\isAgg pv=false)->
        ((wk pv,take&&ow&& !isE pv)::ys).length=((s,own)::ps).length/\∃S0,unS U (cutOf.psL ((s,own)::ps) i0) (d++rest)=some (S0,rest)/\∀i y,((wk pv,take&&ow&& !isE pv)::ys)[i]?=some y->slR U (mS c bk) (oZ S0 (i0+i)) y:=by
   intro sv dv dl hm hd hu hs ho;obtain⟨g1,S0,g2,g3⟩:=aBw hU (i0+1) rest hm hr;refine⟨by rw[lcS,lcS,g1],(i0,(sv,ownR own))::S0,?_,?_⟩
   ·rw[hd,apA];simp only[cutOf.psL,unS,hu,g2]
   ·intro i y hy;cases i with
    |zero=>
     simp only[gcZ,ojE]at hy;subst hy;rw[oK,if_pos (Nat.add_zero _)];refine⟨hs,?_⟩;cases own with
     |false=>exact aJ _ _
     |true=>
      obtain⟨h1,h2⟩:=ho rfl;have hm:=lA h1;intro o st hi;simp only[ownR,List.mem_singleton,pjE]at hi;have lr:take=true:=by
       cases take with
       |true=>rfl
       |false=>rw[r3 rfl]at hm;cases hm
      rcases r2 _ _ hm with⟨h3,_⟩|⟨_,_,h3,h4⟩
      ·rw[h2]at h3;cases h3
      ·have how:ow=true:=by
        cases hh:iO pv with
        |true=>exact r4 hh
        |false=>rw[hh,Bool.or_false]at h3;exact h3
       refine .inr ⟨hi.1,?_,?_,λ_=>?_⟩
       ·cases pv with
        |agg cs=>cases h2
        |sl z es=>cases es<;>rfl
        |_=>rfl
       ·rw[lr,how,h4 rfl];rfl
       ·exact isE_wk pv
    |succ i=>
     rw[gcS]at hy;have:=g3 i y hy;rw[xH (by omega),show i0+(i+1)=i0+1+i by omega]
     exact this
  obtain⟨sx,rx⟩:=x;cases s with
  |val t=>
   simp only[jU]at h;split at h
   ·rename_i v l hv hl;cases hb: !own||(lS rx&& !oY t)with
    |false=>rw[hb]at h;cases h
    |true=>
     rw[hb]at h;simp only[cdt,ojE]at h;obtain⟨h1,h2⟩:=hY hU hv r1;refine fin (.val v) [v] l hl h.symm ?_ (VR_wk hU h2) ?_
     ·simp only[sgA,unV,h1,Ty.beq_rfl,cdt]
     ·intro ho;rw[ho]at hb;simp only[bnT,Bool.false_or,bjE,Bool.not_eq_true']at hb;exact⟨hb.1,iY h2 (by rw[h1];exact hb.2)⟩
   ·cases h
  |lc j off path=>
   cases sx with
   |lc k fe mg=>
    simp only[jU]at h;cases hb: !own&&Nat.blt j bk.length&&Nat.beq k (lF bk j)&&Nat.beq off fe&&aC0 path mg with
    |false=>rw[hb]at h;cases h
    |true=>
     rw[hb]at h;simp only[cdt]at h;simp only[bjE,iN,cG,djE,Bool.not_eq_true']at hb;obtain⟨⟨⟨⟨h0,h1⟩,h2⟩,h3⟩,h4⟩:=hb;obtain⟨e,id,g1,g2,g3⟩:=r1;refine fin (.lc j off path) [] d h rfl rfl ⟨e,id,?_,g2,by rw[g3,h3];rfl⟩ (λho=>by rw[h0]at ho;cases ho)
     unfold mS;rw[if_pos h1,<-h2];exact g1
   |_=>cases h
  |cl f caps=>
   cases sx with
   |cl f' cm=>
    simp only[jU]at h;cases hb: !own&&Nat.beq f f'&&uK caps bk.length&&aC0 (mapN (lF bk) caps) cm with
    |false=>rw[hb]at h;cases h
    |true=>
     rw[hb]at h;simp only[cdt]at h;simp only[bjE,cG,djE,Bool.not_eq_true']at hb;obtain⟨⟨⟨h0,h1⟩,h2⟩,h3⟩:=hb;obtain⟨qs,g1,g2⟩:=r1;refine fin (.cl f caps) [] d h rfl rfl ⟨qs,by rw[g1,h1];rfl,(aEz h2).1 (by rw[pW h3];exact g2)⟩ (λho=>by rw[h0]at ho;cases ho)
   |_=>cases h
  |rw j=>
   cases sx with
   |rw k=>
    simp only[jU]at h;cases hb: !own&&Nat.blt j bk.length&&Nat.beq k (lF bk j)with
    |false=>rw[hb]at h;cases h
    |true=>
     rw[hb]at h;simp only[cdt]at h;simp only[bjE,iN,cG,djE,Bool.not_eq_true']at hb;obtain⟨⟨h0,h1⟩,h2⟩:=hb;obtain⟨e,g1,g2⟩:=r1;refine fin (.rw j) [] d h rfl rfl ⟨e,?_,?_⟩ (λho=>by rw[h0]at ho;cases ho)
     ·unfold mS;rw[if_pos h1,<-h2];exact g1
     ·rcases g2 with⟨k1,k2,rfl|rfl⟩|⟨id,k1,k2,rfl⟩
      ·exact .inl ⟨k1,k2,.inr rfl⟩
      ·exact .inl ⟨k1,k2,.inr rfl⟩
      ·exact .inr ⟨id,k1,k2,rfl⟩
   |_=>cases h
  |_=>cases h
 |[],_::_,_,d,i0,rest,h,_=>by cases h
 |(s,o)::_,[],_,d,i0,rest,h,_=>by cases s<;>cases h
 |_,[],_::_,d,i0,rest,h,hr=>hr.elim
 |_,_::_,[],d,i0,rest,h,hr=>hr.elim
end
end Go.TV
namespace Go.TV
open Go.AI Go.PI
section
variable{P:Program}{U:jP}{T:TP U.D}{c c0:Cx}{W:Type}{r:W}{q p:PSt}{M:TM U.D}
def aKQ{x:Nat×Bool}: ∀{rs:Rts},leR.memW x rs=true->∃s,(x.1,s)∈rs/\(x.2=true->s=true)
 |y::ys,h=>by
  simp only[leR.memW,Bool.or_eq_true,bjE,cG,djE,Bool.not_eq_true']at h;rcases h with⟨h1,h2⟩|h
  ·refine⟨y.2,by rw[h1];exact mhE ..,λe=>?_⟩
   rcases h2 with h2|h2
   ·rw[e]at h2;cases h2
   ·exact h2
  ·obtain⟨s,h1,h2⟩:=aKQ h;exact⟨s,mtE _ h1,h2⟩
def aKP: ∀{rs fw:Rts},leR rs fw=true->∀o s,(o,s)∈rs->∃s',(o,s')∈fw/\(s=true->s'=true)
 |x::rs,fw,h,o,s,hm=>by
  simp only[leR,bjE]at h;rcases List.mem_cons.1 hm with rfl|hm
  ·exact aKQ h.1
  ·exact aKP h.2 o s hm
def aFm{rs fw:Rts}{cs:List (PV×Bool)}(h:leR rs fw=true)(hb:rtB fw cs):rtB rs cs:=λo s hm=>by
 obtain⟨s',h1,h2⟩:=aKP h o s hm;obtain⟨x,h3,h4⟩:=hb o s' h1;exact⟨x,h3,λe=>h4 (h2 e)⟩
def rtR_le{rs fw:Rts}{pv:PV}{ow:Bool}(h:leR rs fw=true)(hb:rtR fw pv ow):rtR rs pv ow:=λo s hm=>by
 obtain⟨s',h1,h2⟩:=aKP h o s hm;rcases hb o s' h1 with h3|⟨h3,h4,h5,h6⟩
 ·exact .inl h3
 ·exact .inr ⟨h3,h4,h5,λe=>h6 (h2 e)⟩
def sX{bk:List Nat}(Mm:MR U q c0 c M p): ∀{l:List (Sh×Rts)} {j:Nat} {e:List (V U)} (rest:List (V U)),aBv U bk M l j=some e->j+l.length<=bk.length->
    ∃M0,unB U (cutOf.bxL l j) (e++rest)=some (M0,rest)/\(∀i b,bR M0 i=some b->∃ce,mS c bk i=some ce/\bcR U (mS c bk) p ce b)/\(∀i,i<l.length->bR M.bx (lF bk (j+i))≠none)
 |[],j,e,rest,h,_=>by
  simp only[aBv,ojE]at h;subst h;exact⟨[],rfl,λi b h=>(by cases h),λi h=>(by simp at h)⟩
 |(s,rr)::l,j,e,rest,h,hj=>by
  simp only[lcS]at hj;unfold aBv at h;split at h
  ·rename_i cont rs d hf hd;cases hb:leR rr rs with
   |false=>rw[hb]at h;cases h
   |true=>
    rw[hb]at h;simp only[cdt]at h;obtain⟨M0,g1,g2,g3⟩:=sX Mm rest hd (by omega)
    obtain⟨ce,pk,id,cs,hid,bf,hcs,kr⟩:=Mm.bx _ _ hf;have gj:mS c bk j=some ce:=by unfold mS;rw[if_pos (by omega)];exact pk
    have bu: ∀i,i<((s,rr)::l).length->bR M.bx (lF bk (j+i))≠none:=by
     intro i hi;cases i with
     |zero=>rw[Nat.add_zero,hf];exact λe=>by cases e
     |succ i=>have:=g3 i (by simpa using hi);rwa [show j+(i+1)=j+1+i by omega]
    split at h
    ·rename_i t v;cases hv:v.t.beq t with
     |false=>rw[hv]at h;cases h
     |true=>
      rw[hv]at h;simp only[cdt,ojE]at h;subst h;refine⟨(j,.bx (.val v) rr)::M0,?_,?_,bu⟩
      ·simp only[cutOf.bxL,cnA,unB,unV,hv,cdt,g1]
      ·intro i b bv;rw[dK]at bv;by_cases e1:i=j
       ·rw[if_pos e1]at bv;simp only[ojE]at bv;subst bv;subst e1;exact⟨ce,gj,id,cs,hid,bf,hcs,aFm hb kr⟩
       ·rw[if_neg e1]at bv;exact g2 i b bv
    ·rename_i f caps f' cm;cases hv:Nat.beq f f'&&uK caps bk.length&&aC0 (mapN (lF bk) caps) cm with
     |false=>rw[hv]at h;cases h
     |true=>
      rw[hv]at h;simp only[cdt,ojE]at h;subst h;simp only[bjE,cG,djE]at hv;obtain⟨⟨rfl,h2⟩,h3⟩:=hv;obtain⟨pv,bb,e1,ps,e2,e3⟩:=hcs;refine⟨(j,.bx (.cl f caps) rr)::M0,?_,?_,bu⟩
      ·simp only[cutOf.bxL,unB,unV,g1]
      ·intro i b bv;rw[dK]at bv;by_cases e4:i=j
       ·rw[if_pos e4]at bv;simp only[ojE]at bv;subst bv;subst e4;exact⟨ce,gj,id,cs,hid,bf,⟨pv,bb,e1,ps,e2,(aEz h2).1 (by rw[pW h3];exact e3)⟩,aFm hb kr⟩
       ·rw[if_neg e4]at bv;exact g2 i b bv
    ·cases h
  ·rename_i et x d hf hd;obtain⟨M0,g1,g2,g3⟩:=sX Mm rest hd (by omega)
   obtain⟨ce,pk,bh⟩:=Mm.bx _ _ hf;have gj:mS c bk j=some ce:=by unfold mS;rw[if_pos (by omega)];exact pk
   split at h
   ·rename_i t;cases hv:et.beq t with
    |false=>rw[hv]at h;cases h
    |true=>
     rw[hv]at h;simp only[cdt,ojE]at h;subst h;have:=Ty.beq_eq hv;subst this;refine⟨(j,.row et x)::M0,?_,?_,?_⟩
     ·simp only[cutOf.bxL,cnA,unB,hv,cdt,g1]
     ·intro i b bv;rw[dK]at bv;by_cases e1:i=j
      ·rw[if_pos e1]at bv;simp only[ojE]at bv;subst bv;subst e1;exact⟨ce,gj,bh⟩
      ·rw[if_neg e1]at bv;exact g2 i b bv
     ·intro i hi;cases i with
      |zero=>rw[Nat.add_zero,hf];exact λe=>by cases e
      |succ i=>have:=g3 i (by simpa using hi);rwa [show j+(i+1)=j+1+i by omega]
   ·cases h
  ·cases h
def bE: ∀{ts:List Ty} {l:List (V U)} {r:DenL U.D ts},eM ts l=some r->tvL ts r=l
 |[],[],r,h=>rfl
 |t::ts,v::vs,r,h=>by
  unfold eM at h;split at h
  ·rename_i x r' h1 h2;simp only[ojE]at h;subst h;rw[tvL,bE h2];have:=kT h1;simp only;rw[<-this]
  ·cases h
 |[],_::_,r,h=>by cases h
 |_::_,[],r,h=>by cases h
def obL_some{ts:List Ty}{a:Option (List (V U))}{K:DenL U.D ts->Option W}(h:obL ts a K=some r): ∃l x,a=some l/\tvL ts x=l/\K x=some r:=by
 unfold obL at h;split at h
 ·rename_i l;split at h
  ·rename_i x hx;exact⟨l,x,rfl,bE hx,h⟩
  ·cases h
 ·cases h
def nX: ∀{l:List (Sh×Rts)} {rs:List Rts} {d:List (V U)} {m:List (BC U.D)},fW U l rs d=some m->m.length=l.length
 |[],[],[],m,h=>by simp only[fW,ojE]at h;subst h;rfl
 |(.val t,rr)::l,r::rs,v::d,m,h=>by
  simp only[fW]at h;split at h
  ·rename_i m' hm;cases h;simp only[lcS,nX hm]
  ·cases h
 |(.cl f caps,rr)::l,r::rs,d,m,h=>by
  simp only[fW]at h;split at h
  ·rename_i m' hm;cases h;simp only[lcS,nX hm]
  ·cases h
 |[],_::_,_,_,h=>by simp[fW]at h
 |[],[],_::_,_,h=>by simp[fW]at h
 |(s,rr)::l,[],d,m,h=>by cases s<;>simp[fW]at h
 |(.val t,rr)::l,r::rs,[],m,h=>by simp[fW]at h
 |(.tup _,_)::_,_::_,_,_,h=>by simp[fW]at h
 |(.nl,_)::_,_::_,_,_,h=>by simp[fW]at h
 |(.lc _ _ _,_)::_,_::_,_,_,h=>by simp[fW]at h
 |(.ep _,_)::_,_::_,_,_,h=>by simp[fW]at h
 |(.rw _,_)::_,_::_,_,_,h=>by simp[fW]at h
 |(.nf,_)::_,_::_,_,_,h=>by simp[fW]at h
 |(.row t,rr)::l,r::rs,⟨.sl e,x⟩::d,m,h=>by
  simp only[fW]at h;split at h
  ·rename_i m' hm;cases h;simp only[lcS,nX hm]
  ·cases h
 |(.row t,rr)::l,r::rs,[],m,h=>by simp[fW]at h
 |(.row t,rr)::l,r::rs,⟨.int _,x⟩::d,m,h=>by simp[fW]at h
 |(.row t,rr)::l,r::rs,⟨.bool,x⟩::d,m,h=>by simp[fW]at h
 |(.row t,rr)::l,r::rs,⟨.str,x⟩::d,m,h=>by simp[fW]at h
 |(.row t,rr)::l,r::rs,⟨.rc _,x⟩::d,m,h=>by simp[fW]at h
def xM{bk:List Nat}(hn:bk.Nodup): ∀(m:List (BC U.D)) (j0:Nat) (B:List (Nat×BC U.D)),(∀j,j<m.length->bR B (lF bk (j0+j))≠none)->j0+m.length<=bk.length->∀k,
    (∃j x,m[j]?=some x/\lF bk (j0+j)=k/\bR (putB U bk m j0 B) k=some (renB U bk x))∨((∀j,j<m.length->lF bk (j0+j)≠k)/\bR (putB U bk m j0 B) k=bR B k)
 |[],j0,B,_,_,k=> .inr ⟨λj h=>by simp at h,rfl⟩
 |x::m,j0,B,hB,hl,k=>by
  simp only[lcS]at hl;have h0:bR B (lF bk j0)≠none:=by have:=hB 0 (by simp);rwa [Nat.add_zero]at this
  have hB': ∀j,j<m.length->bR (wH B (lF bk j0) (renB U bk x)) (lF bk (j0+1+j))≠none:=by
   intro j hj;have:=hB (j+1) (by simpa using hj)
   rw[show j0+(j+1)=j0+1+j by omega]at this
   rw[fM];split
   ·cases hh:bR B (lF bk j0)with
    |none=>exact(h0 hh).elim
    |some b=>exact λe=>by cases e
   ·exact this
  rcases xM hn m (j0+1) (wH B (lF bk j0) (renB U bk x)) hB' (by omega) k with⟨j,y,h1,h2,h3⟩|⟨h1,h2⟩
  ·exact .inl ⟨j+1,y,by rw[gcS];exact h1,by rw[<-h2];congr 1;omega,h3⟩
  ·by_cases hk:lF bk j0=k
   ·refine .inl ⟨0,x,rfl,by rw[Nat.add_zero];exact hk,?_⟩
    rw[putB,h2,fM,if_pos hk.symm];cases hh:bR B (lF bk j0)with
    |none=>exact(h0 hh).elim
    |some b=>rfl
   ·refine .inr ⟨λj hj=>?_,?_⟩
    ·cases j with
     |zero=>rw[Nat.add_zero];exact hk
     |succ j=>have:=h1 j (by simpa using hj);rwa [show j0+(j+1)=j0+1+j by omega]
    ·rw[putB,h2,fM,if_neg (λe=>hk e.symm)]
def bcR_cc{bk:List Nat}{e:Ce}{x:BC U.D}(h:bcR U (mS c bk) p e x):bcR U c p e (renB U bk x):=by
 cases x with
 |bx s r=>
  obtain⟨id,cs,h1,h2,h3,h4⟩:=h;exact⟨id,cs,h1,h2,aMA h3,h4⟩
 |row t l=>exact h
 |gone=>trivial
def MR.call(Mm:MR U q c0 c M p){bk:List Nat}(hn:bk.Nodup){m:List (BC U.D)}(hm:m.length=bk.length)(bu: ∀i,i<bk.length->bR M.bx (lF bk i)≠none){p':PSt}
    (hb: ∀j x,m[j]?=some x->∃e,mS c bk j=some e/\bcR U (mS c bk) p' e x) (ke:p'.next=p.next)
    (hg: ∀id,id<p.next->(∀j e,mS c bk j=some e->e.id≠some id)->p'.get id=p.get id)
    (hg2: ∀id,id<p.next->id∉p'.dirty->p'.get id=p.get id)
    (hd: ∀id,id∈p'.dirty->id∈p.dirty∨∃j e,mS c bk j=some e/\e.id=some id) (hd2: ∀id,id∈p.dirty->id∈p'.dirty)
    (hw: ∀id,id∈p'.wr->id∈p.wr∨∃j e,mS c bk j=some e/\e.id=some id):
    MR U q c0 c ⟨putB U bk m 0 M.bx,bk++M.wr⟩ p'/\(WR U c M p->WR U c ⟨putB U bk m 0 M.bx,bk++M.wr⟩ p'):=by
 have dc:=xM hn m 0 M.bx (λj hj=>by rw[Nat.zero_add];exact bu j (by omega)) (by omega)
 simp only[Nat.zero_add]at dc;have cck: ∀{j e},mS c bk j=some e->j<bk.length/\c (lF bk j)=some e:=by
  intro j e h;unfold mS at h;split at h
  ·rename_i hj;exact⟨hj,h⟩
  ·cases h
 have bor: ∀{j e id},mS c bk j=some e->e.id=some id->id<q.next->∃k e,c0 k=some e/\e.id=some id:=by
  intro j e id h1 h2 h3;obtain⟨_,h4⟩:=cck h1;have hk:lF bk j<100:=by
   rcases Nat.lt_or_ge (lF bk j) 100 with h|h
   ·exact h
   ·have:=Mm.loc _ e id h4 h h2;omega
  exact⟨_,e,Mm.bor _ e h4 hk,h2⟩
 refine⟨⟨λk h=>?_,λk b h=>?_,λk e id h1 h2=>by rw[ke];exact Mm.lt k e id h1 h2,Mm.inj,by rw[ke];exact Mm.next,Mm.bor,Mm.loc,λid hi ho=>?_,λid hi bi=>?_,λid hi=>?_⟩,λhW id hi k e h1 h2=>?_⟩
 ·simp only at h;rcases dc k with⟨j,x,h1,h2,h3⟩|⟨h1,h2⟩
  ·rw[h3]at h;cases h
  ·rw[h2]at h;exact Mm.dom k h
 ·simp only at h;rcases dc k with⟨j,x,h1,h2,h3⟩|⟨h1,h2⟩
  ·rw[h3]at h;cases h;obtain⟨e,g1,g2⟩:=hb j x h1;obtain⟨_,g3⟩:=cck g1;exact⟨e,by rw[<-h2];exact g3,bcR_cc g2⟩
  ·rw[h2]at h;obtain⟨e,g1,g2⟩:=Mm.bx k b h;refine⟨e,g1,qI g2 λid hid=>hg id (Mm.lt k e id g1 hid) λj e' h3 h4=>?_⟩
   obtain⟨g3,g4⟩:=cck h3;exact h1 j (by omega) (Mm.inj _ _ e' e id g4 g1 h4 hid)
 ·rw[hg2 id (Nat.lt_of_lt_of_le hi Mm.next) ho]
  exact Mm.old id hi λh=>ho (hd2 id h)
 ·rcases hd id hi with h|⟨j,e,h1,h2⟩
  ·exact Mm.dirty id h bi
  ·exact bor h1 h2 bi
 ·rcases hw id hi with h|⟨j,e,h1,h2⟩
  ·rw[ke];exact Mm.wr id h
  ·rw[ke];exact⟨Mm.lt _ e id (cck h1).2 h2,λbi=>bor h1 h2 bi⟩
 ·have happ: ∀{l l':List Nat},bW k (l++l')=(bW k l||bW k l'):=by
   intro l l';rw[Bool.eq_iff_iff,Bool.or_eq_true,eU,eU,eU,List.mem_append]
  show bW k (bk++M.wr)=true;rw[happ,Bool.or_eq_true];rcases hw id hi with h|⟨j,e',h3,h4⟩
  ·exact .inr (hW id h k e h1 h2)
  ·obtain⟨h5,h6⟩:=cck h3;have:=Mm.inj _ _ e e' id h1 h6 h2 h4;left;rw[eU,this];exact List.mem_of_getElem? (rW bk j h5)
def slR_cc{bk:List Nat}{own:Bool}{l:List (V U)}{y:PV×Bool}(h:slR U (mS c bk) (aIW U own l) y):slR U c (aIW U own l) y:=by
 unfold aIW at h⊢;split at h<;>exact h
def aJw{own:Bool}{l:List (V U)}{K:X U->Option W}(h:splT U own l K=some r):K (aIW U own l)=some r:=by
 unfold splT at h;split at h
 ·rename_i v b;cases b<;>exact h
 ·exact h
def callK_ok(hU:fV U){tc:mV U.D}{pc:fB}(hc:CallOK U T tc pc){take:Bool}{inst:Nat}{bk:List Nat}{S:TS U.D}{S':PS}(F:frR U c S S'){cl:Call}{f:Operand}{K:X U->TS U.D->TM U.D->Option W}
    (dt:cl.callee= .value f) (h:callK U T tc take inst bk S M (evT U S f).1 cl.args.toList K=some r) (Mm:MR U q c0 c M p):
    ∃x S2 M' v own p' g args,K x S2 M'=some r/\mA take S' cl=some (g,args)/\pc g args p=some (v,own,p')/\slR U c x (v,own)/\frR U c S2 (jY take S' cl.args.toList).2/\MR U q c0 c M' p'/\(WR U c M p->WR U c M' p')/\p'.next=p.next:=by
 have rf:=(bA F f).1;unfold callK at h;split at h
 ·rename_i g caps s hf hs;rw[hf]at rf;obtain⟨ps,e1,e2⟩:=rf;have e1:pev S' f= .fn g [] ps:=e1;split at h
  ·rename_i d e hd he;cases hb:Nat.beq g s.f&&aKG bk&&Nat.beq bk.length s.bx.length with
   |false=>rw[hb]at h;cases h
   |true=>
    rw[hb]at h;simp only[cdt]at h;simp only[bjE,cG,djE]at hb;obtain⟨⟨hg,gb⟩,hlen⟩:=hb;have gb:=sU gb;obtain⟨out,x,h1,h2,h⟩:=obL_some h;split at h
    ·rename_i m hm;obtain⟨g1,g2⟩:=aFS (take:=take) (args:=cl.args.toList) F;have g3:=uI g2 (aMB (take:=take) e2);obtain⟨k1,S0,k2,k3⟩:=aBw hU 0 e hd g3;obtain⟨M0,k4,k5,k6⟩:=sX Mm [] he (by omega)
     rw[apN]at k4;have hin:aCS U s (d++e) p (mS c bk) ((jY take S' cl.args.toList).1++pN ps) S0 ⟨M0,[]⟩:=by
      refine⟨?_,k1,λi y hy=>?_,k5,λj hj=>?_,λj e id h1 h2=>?_,λk k' e e' id h1 h2 h3 h4=>?_,λid hi=>(Mm.wr id hi).1⟩
      ·simp only[unT',cutOf,k2,k4]
      ·have:=k3 i y hy;rwa [Nat.zero_add]at this
      ·unfold mS;rw[if_neg (by omega)]
      ·unfold mS at h1;split at h1
       ·exact Mm.lt _ e id h1 h2
       ·cases h1
      ·unfold mS at h1 h2;split at h1
       ·rename_i hk;split at h2
        ·rename_i ge;exact nth_inj gb hk ge (Mm.inj _ _ e e' id h1 h2 h3 h4)
        ·cases h2
       ·cases h1
     obtain⟨pv,own,p',j1,j2⟩:=hc inst s _ out hs h1 p (mS c bk) _ S0 _ hin;have h:=aJw h;rw[h2]at hm h;obtain⟨m',j3,j4⟩:=j2.out;rw[hm]at j3;cases j3;obtain⟨j5,j6⟩:=Mm.call gb (m:=m) (by rw[nX hm,hlen]) (λi hi=>by have:=k6 i (by omega);rwa [Nat.zero_add]at this) j4 j2.next j2.get j2.get2 j2.dirty j2.dirty2 j2.wr
     refine⟨_,_,_,pv,own,p',s.f,_,h,?_,j1,slR_cc j2.res,g1,j5,j6,j2.next⟩
     simp only[mA,dt,e1,hg,pN,nlA]
    ·cases h
  ·cases h
 ·cases h
end
end Go.TV
