import Derived.Test.YtjapdpcodgaoaaaGreatDoorKr
open Option renaming some->aa,none->ae
open Bool renaming true->ah,false->aj,not_false->b9,or_eq_true->d7,false_eq_true->im
open Decidable renaming decide->ak
open List renaming length->am,mem_of_getElem?->ef,mem_append->oa
open Nat renaming ble->aq,zero_le->b7,ble_eq->d8
open Go.TV.G renaming T->f5,O->f6
set_option linter.all false
namespace Go.TV
open Go.AI Go.PI Go.Proofs
noncomputable section
def XB{t:f5}{s:au UInt8}{k:Int}{L n:Nat}:cA L (n+1) 29 (bGM t s k)=aa (bb (isA t s k)):=by
 show cA L (n+1) 29 [yR 3 _,yT _,yI _]=_;rw[c29,bNP,aMi];simp only[aLa,aMh,isA];cases t with|mk kk nm v l=>
 cases nm with|mk p q=>
 by_cases e1:kk=3
 .by_cases e2:p=cV
  .by_cases e3:q=s
   .simp[G.T.kind,G.T.name,G.T.args,G.Y.package,G.Y.name,cV,e1,e2,e3,bW,bb]
   .simp[G.T.kind,G.T.name,G.T.args,G.Y.package,G.Y.name,cV,e1,e2,e3,bW,bb]
  .have e2': ¬p=[108,105,115,112]:=e2;simp[G.T.kind,G.T.name,G.T.args,G.Y.package,G.Y.name,cV,e1,e2',bW,bb]
 .simp[G.T.kind,e1,bW,bb]
set_option maxRecDepth 20000
def Ud{W:Type}{b:f6}{K:f6×Unit->f9 W}:eE (aa [yR 2 b]) K=K (b,()):=rfl
def bBE{L n:Nat}:cA L (n+2) 160 []=aa [yR 2 (⟨2,[],[],⟨cV,[116]⟩,[],[]⟩:f6)]:=by
 rw[bNd,a5Y,aMG,bM7];rfl
def yW(x:f5):kY x.value+2<=hJ x:=by cases x;simp only[G.T.value,hJ];omega
def Eh{o:f6}{L n:Nat}:cA L (n+1) 27 [yR 2 o]=aa [yB (mX o)]:=by
 rw[c27,bNR,aMj,mX];cases ak (o.kind=2)with
 |true=>rw[bV,Bool.true_and];rfl
 |false=>rw[bS,Bool.false_and];rfl
def aHb: ∀(n m:Nat) (o:f6),kY o<=n->n<=m->rG m o=rG n o:=by
 intro n;induction n with
 |zero=>intro m o h _;cases o;simp only[kY]at h;omega
 |succ n ih=>
  intro m o h hm;obtain⟨m,rfl⟩:=sK m 1 (by omega)
  simp only[rG];split
  .cases o with|mk k nu de sy tx l=>
   match l with
   |[x,y]=>simp only[kY,jD]at h;exact ih m y (by omega) (by omega)
   |[]=>rfl
   |[_]=>rfl
   |_::_::_::_=>rfl
  .rfl
def aKV{L n:Nat}: ∀(m:Nat) (o:f6),kY o<m->GQ (cA L (n+1)) L m o=aa [yI (if mX (rG (kY o) o)=ah then(512:Int)else 1024)]:=by
 intro m;induction m with
 |zero=>intro o h;omega
 |succ m ih=>
  intro o h;have stop:rG (kY o) o=o->SN (cA L (n+1)) L (GQ (cA L (n+1)) L m) aj o=aa [yI (if mX (rG (kY o) o)=ah then(512:Int)else 1024)]:=λe=>by
   rw[SN,aCb,bS,Eh,eW,e];cases mX o<;>rfl
  have hs: ∃q,kY o=q+1:=⟨kY o-1,by cases o;simp only[kY];omega⟩
  obtain⟨q,hq⟩:=hs;rw[GQ,aL2];by_cases hk:o.kind=4
  .rw[bG hk,bV];by_cases h2:(o.pair.length:Int)=2
   .rw[bG h2,SN,aCb,bV];cases o with|mk k nu de sy tx l=>
    match l,h2 with
    |[x,y],_=>
     simp only[kY,jD]at h hq;have hy:=ih y (by omega)
     have jg:k=4:=hk;have e:rG (kY ⟨k,nu,de,sy,tx,[x,y]⟩) ⟨k,nu,de,sy,tx,[x,y]⟩=rG (kY y) y:=by
      have e0:kY ⟨k,nu,de,sy,tx,[x,y]⟩=q+1:=by simp only[kY,jD];omega
      rw[e0];simp only[rG,jg,bQ];exact aHb _ _ y (aS _) (by omega)
     rw[e,<-hy];rfl
   .rw[bH h2];refine stop ?_;rw[hq];simp only[rG,hk,bQ];split
    .rename_i x y e;rw[e]at h2;exact(h2 rfl).elim
    .rfl
  .rw[bH hk,bS];exact stop (by rw[hq];simp only[rG,hk,bP])
def aKU{o:f6}{L n:Nat}(h:kY o<L):cA L (n+2) 69 [yR 2 o]=aa [yI (S8 o)]:=by
 rw[c69,bNE,aL4,S8];by_cases k1:o.kind=1
 .have key: ∀b:Bool,aBZ (cA L (n+1)) L b o=aa [yI (if o.num=[48]then 1 else if o.den=[49]then(if b=ah then 4 else 2)else if b=ah then 16 else 8)]:=λb=>by
   rw[aBZ,aL3];by_cases n0:o.num=[48]
   .rw[bG n0,bV,bJ n0]
   .rw[bH n0,bS,bI n0];by_cases d1:o.den=[49]
    .rw[bG d1,bV,bJ d1,aBY,aCc,bG d1];cases b<;>rfl
    .rw[bH d1,bS,bI d1,aBY,aCc,bH d1];cases b<;>rfl
  rw[bG k1,bV,bJ k1];cases hn:o.num with
  |nil=>
   have:=key aj;rw[hn]at this;exact this
  |cons x l=>
   have:=key (ak ((x.toNat:Int)=45));rw[hn]at this;rw[show ak ((0:Int)<((x::l:au UInt8).length:Int))=ah from by simp,bV,show dK (x::l) (0:Int)=aa x from rfl,cR]
   exact this
 .rw[bH k1,bS,bI k1];by_cases k2:o.kind=2
  .rw[bG k2,bV,bJ k2,Eh,eW];cases e:mX o with
   |true=>rfl
   |false=>
    simp only[bS];by_cases hs:o.sym=⟨[108,105,115,112],[116]⟩
    .rw[bG hs,bJ hs];rfl
    .rw[bH hs,bI hs];rfl
  .rw[bH k2,bS,bI k2];by_cases k3:o.kind=3
   .rw[bG k3,bJ k3];rfl
   .rw[bH k3,bS,bI k3];by_cases k4:o.kind=4
    .rw[bG k4,bV,bJ k4];exact aKV L o h
    .rw[bH k4,bI k4];rfl
def IbO(x:Rt)(o:f9 Int):Prop:= ∃(i:Int) (b:Bool),x=aa [yI i,yB b]/\(b=ah->o=aa i)/\(b=aj->o=ae)
def ItO(x:Rt)(o:f9 Int):Prop:= ∃(i:Int) (t:f5) (b:Bool),x=aa [yI i,yR 3 t,yB b]/\(b=ah->o=aa i)/\(b=aj->o=ae)
def ItO.s{i:Int}{t:f5}:ItO (aa [yI i,yR 3 t,yB ah]) (aa i):=⟨i,t,ah,rfl,λ_=>rfl,λe=>by cases e⟩
def ItO.n{i:Int}{t:f5}:ItO (aa [yI i,yR 3 t,yB aj]) ae:=⟨i,t,aj,rfl,λe=>(by cases e),λ_=>rfl⟩
def IbO.s{i:Int}:IbO (aa [yI i,yB ah]) (aa i):=⟨i,ah,rfl,λ_=>rfl,λe=>by cases e⟩
def IbO.n{i:Int}:IbO (aa [yI i,yB aj]) ae:=⟨i,aj,rfl,λe=>(by cases e),λ_=>rfl⟩
def aAj{f:G.Y}{L n:Nat}:IbO (cA L (n+2) 34 [yR 1 f]) (DP f):=by
 rw[c34,bNL,aVb];by_cases h0:f.name=[110,111,116]
 .rw[bG h0,bV];have:DP f=ae:=by
   unfold DP;split
   .rw[h0];rfl
   .rfl
  rw[this];exact .n
 .rw[bH h0,bS,bOF,bG8,aUW,DP];by_cases hp:f.package=[108,105,115,112]
  .rw[bG hp,bJ hp,wR];simp only[bE,bS];have go: ∀{w v:au UInt8} {i:Int} {x:Rt} {o:f9 Int},IbO (xI x λr=>aa [yI r.1,yB r.2.1]) o->IbO (xI (bW (ak (w=v)) (aa [yI i,yB ah]) x) λr=>aa [yI r.1,yB r.2.1]) (if w=v then aa i else o):=by
    intro w v i x o h;by_cases e:w=v
    .rw[bG e,bJ e,bV,rY];exact .s
    .rw[bH e,bI e,bS];exact h
   refine go (go (go (go (go ?_))));rw[bH h0,bS,rY];exact .n
  .rw[bH hp,bI hp];exact .n
structure bOY(c:cG)(B:Nat):Prop where
 z:c 117 [yI (0:Int)]=aa [yR 2 Er]
 k:c 118 [yR 2 Er]=aa [yR 3 aSq]
 e: ∀x:f5,hJ x<=B->∀y:f5,c 33 [yR 3 x,yR 3 y]=aa [yB (ak (x=y))]
 s: ∀x:f5,hJ x<=B->c 119 [yR 3 x]=aa [yB (aER x)]
 o: ∀o:f6,kY o<=B->c 69 [yR 2 o]=aa [yI (S8 o)]
 q: ∀x y:f5,bNs (c 32 [yR 3 x,yR 3 y])
 r: ∀f:G.Y,IbO (c 34 [yR 1 f]) (DP f)
def aNV{c:cG}{L B:Nat}(h1: ∀o:f6,c 27 [yR 2 o]=aa [yB (mX o)])(h2: ∀o:f6,kY o<=B->∀p:f6,c 66 [yR 2 o,yR 2 p]=aa [yB (ak (o=p))])
    (h3:c 160 []=aa [yR 2 aNK]) (h4:c 117 [yI (0:Int)]=aa [yR 2 Er]) {x:f5} (hx:kY x.value<=B):aR5 c L x=aa [yB (aER x)]:=by
 rw[aR5,YI,aER];have k1: ∀b,XA c L b=aa [yB b]:=λb=>rfl
 cases ak (x.kind=2)with
 |false=>rw[bS,k1,Bool.false_and]
 |true=>
  rw[bV,h1,eW,Bool.true_and];cases mX x.value with
  |true=>simp only[bV,k1,Bool.true_or]
  |false=>
   simp only[bS,Bool.false_or];rw[h3,Ud];simp only[];rw[h2 x.value hx aNK,eW];cases ak (x.value=aNK)with
   |true=>simp only[bV,k1,Bool.true_or]
   |false=>
    simp only[bS,Bool.false_or];rw[h4,Ud];simp only[];rw[h2 x.value hx Er,eW,k1]
def aPc{l:au f5}(h: ¬(l.length:Int)=1): ∀x,l≠ [x]:=λx e=>h (by rw[e];rfl)
def aPb{l:au f5}(h: ¬(l.length:Int)=2): ∀x y,l≠ [x,y]:=λx y e=>h (by rw[e];rfl)
def a6x(w:au UInt8)(u:f5):au f5->f9 Int
 |[p,q]=>a6y w p q u
 |_=>ae
def bGR(w:au UInt8)(u:f5):f9 Int->au f5->f9 Int
 |some s,[p]=>if p=u then aa s else ae
 |_,[p,q]=>a6y w p q u
 |_,_=>ae
def aZM{w:au UInt8}{u:f5}: ∀{l:au f5},(∀x y,l≠ [x,y])->a6x w u l=ae
 |[],_=>rfl
 |[_],_=>rfl
 |[p,q],h=>(h p q rfl).elim
 |_::_::_::_,_=>rfl
def a92{w:au UInt8}{u:f5}: ∀l:au f5,bGR w u ae l=a6x w u l
 |[]=>rfl
 |[_]=>rfl
 |[_,_]=>rfl
 |_::_::_::_=>rfl
def a91{w:au UInt8}{u:f5}{i:Int}: ∀{l:au f5},(∀x,l≠ [x])->bGR w u (aa i) l=a6x w u l
 |[],_=>rfl
 |[p],h=>(h p rfl).elim
 |[_,_],_=>rfl
 |_::_::_::_,_=>rfl
def a93(b:Bool)(i:Int)(a u:f5):f9 Int:=if b=ah then aa i else a6x a.name.name u a.args
def aQW{c:cG}{L B:Nat}(h:bOY c B){a u:f5}(ha:hJ a<=B):ItO (bG1 c L a u) (TI a u):=by
 have k5: ∀x y,ItO (SL c L x y) ae:=λx y=> .n
 have k6: ∀b x y,ItO (aBT c L b x y) (if b=ah then aa 10 else ae):=λb x y=>by
  rw[aBT,aLI];cases b with
  |true=>exact .s
  |false=>exact k5 _ _
 have k7: ∀b x y z w,kY y.value<=B->ItO (aBS c L b x y z w) (if b=ah then aa (S8 y.value)else ae):=λb x y z w hy=>by
  rw[aBS,aLH];cases b with
  |false=>exact k5 _ _
  |true=>
   rw[bV,h.o y.value hy,rC];simp only[];obtain⟨t,e⟩:=h.q x y;rw[e,uN];exact .s
 have k4: ∀b x y z w v,hJ y<=B->hJ z<=B->ItO (aBU c L b x y z w v) (if b=ah then aa (S8 y.value)else if y=x/\aER z=ah then aa (S8 z.value)else ae):=λb x y z w v hy hz=>by
  have h1:=yW y;have h2:=yW z;rw[aBU,aLJ];cases b with
  |true=>
   rw[bV,h.o y.value (by omega),rC]
   exact .s
  |false=>
   rw[bS,h.e y hy x,eW];by_cases e:y=x
   .rw[bG e];simp only[bV];rw[h.s z hz,eW];have:=k7 (aER z) y z w v (by omega)
    simpa [e]using this
   .rw[bH e];simp only[bS];have:=k7 aj y z w v (by omega)
    simpa [e]using this
 have k3: ∀b x y z w v r,hJ x<=B->hJ z<=B->ItO (aBV c L b x y z w v r) (if b=ah then aa 20 else if x=y/\z=w then aa 10 else ae):=λb x y z w v r hx hz=>by
  rw[aBV,aLK];cases b with
  |true=>exact .s
  |false=>
   rw[bS,h.e x hx y,eW];by_cases e:x=y
   .rw[bG e];simp only[bV];rw[h.e z hz w,eW];have:=k6 (ak (z=w)) v r;simpa [e]using this
   .rw[bH e];simp only[bS];have:=k6 aj v r;simpa [e]using this
 have k2: ∀b i x y z,hJ y<=B->ItO (aBW c L b i x y z) (a93 b i y x):=λb i x y z hy=>by
  rw[aBW,aLL,a93];cases b with
  |true=>exact .s
  |false=>
   rw[bS];by_cases hl:(y.args.length:Int)=2
   .rw[bG hl];simp only[bE,bS];obtain⟨p,q,e⟩:=bCq (l:=y.args) (by omega)
    have hs:=sM y;rw[e]at hs;simp only[fA]at hs;rw[e,show dK [p,q] (0:Int)=aa p from rfl,show dK [p,q] (1:Int)=aa q from rfl,cR,cR,h.z,Ud]
    simp only[];rw[h.k,uN];simp only[a6x,a6y];by_cases n1:y.name.name=[60]
    .rw[bG n1,bV,h.e p (by omega) x,eW]
     by_cases e1:p=x
     .rw[bG e1];simp only[bV];rw[h.e q (by omega) aSq,eW]
      have:=k3 (ak (q=aSq)) p aSq q x y z (by omega) (by omega)
      simpa [n1,e1]using this
     .rw[bH e1];simp only[bS];have:=k3 aj p aSq q x y z (by omega) (by omega)
      simpa [n1,e1]using this
    .rw[bH n1,bS];by_cases n2:y.name.name=[101,113,117,97,108]
     .rw[bG n2,bV,h.e p (by omega) x,eW]
      by_cases e1:p=x
      .rw[bG e1];simp only[bV];rw[h.s q (by omega),eW]
       have:=k4 (aER q) x q p y z (by omega) (by omega)
       simpa [n1,n2,e1]using this
      .rw[bH e1];simp only[bS];have:=k4 aj x q p y z (by omega) (by omega)
       simpa [n1,n2,e1]using this
     .rw[bH n2,bS];have:=k5 y z;simpa [n1,n2]using this
   .rw[bH hl];simp only[b9,bV];have hn:=aPb hl;simp only[im,bP];rw[aZM hn];exact .n
 have k1: ∀b x y z,hJ y<=B->ItO (SM c L b x y z) (if b=ah then ae else bGR y.name.name x (DP y.name) y.args):=λb x y z hy=>by
  rw[SM,aLM];cases b with
  |true=>exact .n
  |false=>
   rw[bS];obtain⟨i,q,e,g1,g2⟩:=h.r y.name;rw[e,rY];simp only[im,bP];cases q with
   |false=>
    simp only[bS];rw[g2 rfl,a92];have:=k2 aj i x y z hy;simpa [a93]using this
   |true=>
    simp only[bV];rw[g1 rfl];by_cases hl:(y.args.length:Int)=1
    .rw[bG hl,bV];obtain⟨p,e⟩:=aDh (l:=y.args) (by omega)
     have hs:=sM y;rw[e]at hs;simp only[fA]at hs;rw[e,show dK [p] (0:Int)=aa p from rfl,cR,h.e p (by omega) x,eW]
     have:=k2 (ak (p=x)) i x y z hy;simpa [a93,bGR,a6x,e]using this
    .rw[bH hl,bS];have hn:=aPc hl;have:=k2 aj i x y z hy;rw[a91 hn];simpa [a93]using this
 have fin: ∀z,ItO (SM c L (!decide (a.name.package=[108,105,115,112])) u a z) (if a.name.package=[108,105,115,112]then(match a.args with
      |[x]=>(match wR a.name.name with
        |some s=>if x=u then aa s else ae
        |none=>ae)
      |[x,y]=>a6y a.name.name x y u
      |_=>ae)else ae):=λz=>by
  have:=k1 (!decide (a.name.package=[108,105,115,112])) u a z ha;by_cases hp:a.name.package=[108,105,115,112]
  .rw[bG hp]at this⊢;rw[bJ hp];simp only[bE,im,bP,DP,bJ hp]at this;refine cast (congrArg _ ?_) this
   match a.args with
   |[]=>cases wR a.name.name<;>rfl
   |[x]=>cases wR a.name.name<;>rfl
   |[x,y]=>cases wR a.name.name<;>rfl
   |_::_::_::_=>cases wR a.name.name<;>rfl
  .rw[bH hp]at this⊢;rw[bI hp];simpa using this
 rw[bG1,aLN,TI];by_cases hk:a.kind=3
 .rw[bG hk];simp only[bE,bS,hk,true_and];exact fin _
 .rw[bH hk];simp only[b9,bV,hk,false_and,bP];have:=k1 ah u a (G.T.mk (0:Int) (G.Y.mk ([]:au UInt8) ([]:au UInt8)) (G.O.mk (0:Int) ([]:au UInt8) ([]:au UInt8) (G.Y.mk ([]:au UInt8) ([]:au UInt8)) ([]:au UInt8) ([]:au f6)) ([]:au f5)) ha;simpa using this
def aRf{c:cG}{L B:Nat}(h: ∀x:f5,hJ x<=B->∀y:f5,c 33 [yR 3 x,yR 3 y]=aa [yB (ak (x=y))])(h2: ∀x:f5,hJ x<=B->∀y:f5,ItO (c 93 [yR 3 x,yR 3 y]) (TI x y))(h3: ∀x:f5,bNs (c 92 [yR 3 x]))
    (h4: ∀x:f5,c 29 [yR 3 x,yT mV,yI (1:Int)]=aa [yB (isA x mV 1)]) {a u:f5} (ha:hJ a<=B):ItO (bG6 c L a u) (a5v a u):=by
 simp only[mV]at h4;rw[bG6,aUV,h a ha u,eW,a5v];by_cases e0:a=u
 .rw[bG e0,bJ e0];simp only[bV];obtain⟨t,e⟩:=h3 u;rw[e,uN];exact .s
 rw[bH e0,bI e0];simp only[bS];obtain⟨i,t,b,e,g1,g2⟩:=h2 a ha u;rw[e,LL];cases b with
 |true=>
  rw[g1 rfl];simp only[bV];obtain⟨t,e⟩:=h3 t;rw[e,uN];exact .s
 |false=>
  rw[g2 rfl];simp only[bS];rw[h4 a,eW];cases hn:isA a [110,111,116] 1 with
  |false=>
   have mi:isA a mV 1=aj:=hn;simp only[b9,bV,mi,im,bP];exact .n
  |true=>
   have mi:isA a mV 1=ah:=hn;obtain⟨p,hp⟩:=aDh (BO (k:=1) mi);have hs:=sM a;rw[hp]at hs;simp only[fA]at hs;simp only[bE,bS,mi,bQ];rw[hp,show dK [p] (0:Int)=aa p from rfl,cR,h p (by omega) u,eW]
   by_cases e1:p=u
   .rw[bG e1];simp only[bV,bJ e1];exact .s
   .rw[bH e1];simp only[bS,bI e1];rw[cR];obtain⟨i,t,b,e,g1,g2⟩:=h2 p (by omega) u
    rw[e,LL];cases b with
    |true=>rw[g1 rfl];exact .s
    |false=>rw[g2 rfl];exact .n
def aIU{c:cG}{L:Nat}{t:f5}{a:au f5}(hb:a.length<1000000000): ∀(l:au f5) (k m:Nat),a.drop k=l->l.length<m->
    (∀x,x∈l->c 33 (aSz x t)=aa (bb (ak (x=t))))->GW c L m (a.length:Int) a (k:Int) t=aa (bb (ak (t∈l))):=by
 intro l;induction l with
 |nil=>
  intro k m h1 h3 _;obtain⟨m,rfl⟩:=sK m 1 (by simp at h3;omega)
  have e1:=cX h1;have e3:ak ((k:Int)<(a.length:Int))=aj:=by simp;omega
  rw[GW,aCj,e3,bS];simp[bb]
 |cons x l ih=>
  intro k m h1 h3 hc;obtain⟨m,rfl⟩:=sK m 1 (by simp at h3;omega)
  obtain⟨a1,a2,a3⟩:=cZ h1;have e3:ak ((k:Int)<(a.length:Int))=ah:=by simp;omega
  have fw:c 33 [yR 3 x,yR 3 t]=aa [yB (ak (x=t))]:=hc x (aH ..);rw[GW,aCj,e3,bV,cH,a1,cR,fw,eW,eV (by omega)]
  by_cases e:x=t
  .subst e;simp[bW,bb]
  .have e': ¬t=x:=λh=>e h.symm
   simp only[e,decide_false,bS];rw[ih (k+1) m a3 (by simp at h3;omega) λz hz=>hc z (aG _ hz)]
   simp[e']
def a5h{a:au f5}{t:f5}{L n:Nat}(hw:fA a<1000000000)(hL:fA a<L)(hn:fA a<n):cA L n 30 [yS 3 a,yR 3 t]=aa [yB (ak (t∈a))]:=by
 have hlen:=mE a;obtain⟨n,rfl⟩:=sK n 1 (by omega)
 rw[c30];exact aIU (by omega) a 0 L rfl (by omega) λx hx=>aKM x (by have:=fE hx;simp only[aNv];omega) t L n (by have:=fE hx;omega) (by have:=fE hx;omega)
def aKJ{c:cG}{L:Nat}{u:f5}{a:au f5}(hb:a.length<1000000)(h1: ∀x:f5,c 31 [⟨.rc 3,x⟩]=aa [⟨.rc 3,neg x⟩]): ∀(l:au f5) (k m:Nat) (b:Int),a.drop k=l->l.length<m->
    (∀x∈l,ItO (c 71 [⟨.rc 3,x⟩,⟨.rc 3,u⟩]) (a5v x u))->GV c L m (a.length:Int) a u (k:Int) b=aa [⟨.int .i64,l.foldl (aSE u) b⟩]:=by
 intro l;induction l with
 |nil=>
  intro k m b e h3 _;obtain⟨m,rfl⟩: ∃m',m=m'+1:=⟨m-1,by simp at h3;omega⟩
  have e1:=cX e;have e3:ak ((k:Int)<(a.length:Int))=aj:=by simp;omega
  rw[GV,aCi,e3,bS];rfl
 |cons x l ih=>
  intro k m b e h3 h4;obtain⟨m,rfl⟩: ∃m',m=m'+1:=⟨m-1,by simp at h3;omega⟩
  obtain⟨a1,a2,a3⟩:=cZ e;have e3:ak ((k:Int)<(a.length:Int))=ah:=by simp;omega
  obtain⟨i,t,q,e5,g1,g2⟩:=h4 x (aH ..);have hi:=λb=>ih (k+1) m b a3 (by simp at h3;omega) λz hz=>h4 z (aG _ hz)
  rw[GV,aCi,e3,bV,cH,a1,cR,e5,LL,List.foldl_cons];cases q with
  |true=>
   have hs:aSE u b x=aQY b i:=by unfold aSE;rw[g1 rfl]
   simp only[bV];rw[h1 x,uN,aB0,aCh,eV (by omega),hi,hs];rfl
  |false=>
   have hs:aSE u b x=b:=by unfold aSE;rw[g2 rfl]
   simp only[bS];rw[aB0,aCh,eV (by omega),hi,hs]
def aW3{b:Bool}{L n:Nat}:cA L (n+1) 28 [⟨.bool,b⟩]=aa [⟨.int .i64,bif b then(1:Int)else 2⟩]:=by
 rw[c28,bNQ,aVf];cases b<;>rfl
section
variable{w:au G.E}(hw:aT2 w)(hn:a5N w){env:kU}(he:aSc env)
include hw he
def aRm{c:cG}{L:Nat}{u:f5}(tu:Bp u)(hO:c 69 [⟨.rc 2,u.value⟩]=aa [⟨.int .i64,S8 u.value⟩])(hI:c 29 [⟨.rc 3,u⟩,⟨.str,Ap⟩,⟨.int .i64,(u.args.length:Int)⟩]=aa [⟨.bool,isA u Ap (u.args.length:Int)⟩])
    (hA:c 70 [⟨.rc 1,u.name⟩]=aa (oI (arity u.name))) (hP: ∀r∈rowsL,r.name≠Ap->(r.arity=1/\AM c r.name 1)∨(r.arity=2/\AM c r.name 2)):
    ∃o:Int,(∀x,Dc w u env x->jK x o)/\∀a,aRy c (L+4) a u=AN c (L+4) a u o:=by
 simp only[Ap]at hI;by_cases e2:u.kind=2
 .refine⟨S8 u.value,λx hx=>?_,λa=>?_⟩
  .have:=Dk e2 hx.b.v;subst this;exact aPo hx.c
  .rw[aRy,SX,bG e2,bV,hO,rC]
 .by_cases e3:u.kind=3
  .have hf: ∀a,aRy c (L+4) a u=KD c (L+4) (!isA u Ap (u.args.length:Int)) a u 2047:=λa=>by
    rw[aRy,SX,bH e2,bS,bG e3,bV,hI,eW];rfl
   cases vw:isA u Ap (u.args.length:Int)with
   |true=>exact⟨2047,λx _=>zI x,λa=>by rw[hf,vw,KD,HI];rfl⟩
   |false=>
    have hg: ∀a,aRy c (L+4) a u=HI c (SP c (L+4)) (AN c (L+4)) ah a u 2047:=λa=>by rw[hf,vw,KD];rfl
    cases hr:arity u.name with
    |none=>
     rw[hr]at hA;have hA:c 70 [⟨.rc 1,u.name⟩]=aa [⟨.int .i64,(0:Int)⟩,⟨.bool,aj⟩]:=hA;exact⟨2047,λx _=>zI x,λa=>by rw[hg,HI,bV,hA,rY];rfl⟩
    |some k=>
     rw[hr]at hA;have hA:c 70 [⟨.rc 1,u.name⟩]=aa [⟨.int .i64,k⟩,⟨.bool,ah⟩]:=hA;have hh: ∀a,aRy c (L+4) a u=SP c (L+4) (ak (k=(u.args.length:Int))) k a u 2047:=λa=>by rw[hg,HI,bV,hA,rY];rfl
     by_cases hk:k=(u.args.length:Int)
     .obtain⟨hpk,r,hr1,hr2,hr3⟩:=aDG hr;have kw:r.name≠Ap:=λe=>by
       have:u.name=⟨cV,Ap⟩:=by cases hu:u.name with|mk p q=>rw[hu]at hpk hr2;simp only at hpk hr2;rw[hpk,<-hr2,e]
       have h9:isA u Ap (u.args.length:Int)=ah:=by simp[isA,e3,this]
       rw[h9]at vw;cases vw
      have lm:(⟨cV,r.name⟩:G.Y)=u.name:=by cases hu:u.name with|mk p q=>rw[hu]at hpk hr2;simp only at hpk hr2;rw[hpk,<-hr2]
      have snd: ∀x,Dc w u env x->jK x (Q5 r.name):=λx hx=>by
       have:=aOw hw he tu e3 hr (by rw[<-hr2];exact kw) hx
       rwa [<-hr2]at this
      rcases hP r hr1 kw with⟨h1,e⟩|⟨h1,e⟩
      .have hk1:k=1:=by omega
       subst hk1;rw[AM,bGS,lm]at e;refine⟨_,snd,λa=>?_⟩
       rw[hh,bG hk];show iO (c 72 [⟨.rc 1,u.name⟩,⟨.sl (.int .i64),rV (2047:Int) 1⟩]) (λr1=>AN c (L+4) a u r1.1)=_
       rw[e,rC]
      .have hk1:k=2:=by omega
       subst hk1;rw[AM,bGS,lm]at e;refine⟨_,snd,λa=>?_⟩
       rw[hh,bG hk];show iO (c 72 [⟨.rc 1,u.name⟩,⟨.sl (.int .i64),rV (2047:Int) 2⟩]) (λr1=>AN c (L+4) a u r1.1)=_
       rw[e,rC]
     .exact⟨2047,λx _=>zI x,λa=>by rw[hh,bH hk,SP,aMd];rfl⟩
  .exact⟨2047,λx _=>zI x,λa=>by
    rw[aRy,SX,bH e2,bS,bH e3,bS,KD,HI];rfl⟩
def Sd(r:Rt)(A B:Prop):Prop:= ∃d:Int,r=aa [⟨.int .i64,d⟩]/\(d=1->A)/\(d=2->B)
omit hw he in
def Sd.t{A B:Prop}(h:A):Sd (aa [⟨.int .i64,(1:Int)⟩]) A B:=⟨1,rfl,λ_=>h,λe=>by omega⟩
omit hw he in
def Sd.f{A B:Prop}(h:B):Sd (aa [⟨.int .i64,(2:Int)⟩]) A B:=⟨2,rfl,λe=>by omega,λ_=>h⟩
omit hw he in
def Sd.c{A B:Prop}{b:Bool}{x y:Rt}(h1:b=ah->Sd x A B)(h2:b=aj->Sd y A B):Sd (bW b x y) A B:=by
 cases b with
 |true=>exact h1 rfl
 |false=>exact h2 rfl
def bNr(w:au G.E)(env:kU)(t:f5)(b:Bool):Prop:= ∀v,OkB w t env v->tr v=b
abbrev aRr(w:au G.E)(env:kU)(t:f5)(r:Rt):Prop:=Sd r (bNr w env t ah) (bNr w env t aj)
structure bOR(w:List G.E)(env:kU)(c:cG)(a:List f5)(B:Nat):Prop where
 isn: ∀o:f6,c 27 [⟨.rc 2,o⟩]=aa [⟨.bool,mX o⟩]
 tru: ∀b:Bool,c 28 [⟨.bool,b⟩]=aa [⟨.int .i64,bif b then(1:Int)else 2⟩]
 isA: ∀(x:f5) (s:List UInt8) (k:Int),c 29 [⟨.rc 3,x⟩,⟨.str,s⟩,⟨.int .i64,k⟩]=aa [⟨.bool,isA x s k⟩]
 ad: ∀t:f5,c 30 [⟨.sl (.rc 3),a⟩,⟨.rc 3,t⟩]=aa [⟨.bool,ak (t∈a)⟩]
 ng: ∀t:f5,c 31 [⟨.rc 3,t⟩]=aa [⟨.rc 3,neg t⟩]
 eq: ∀x y:f5,c 32 [⟨.rc 3,x⟩,⟨.rc 3,y⟩]=aa [⟨.rc 3,LU Td [x,y]⟩]
 te: ∀x:f5,hJ x<=B->∀y:f5,c 33 [⟨.rc 3,x⟩,⟨.rc 3,y⟩]=aa [⟨.bool,ak (x=y)⟩]
 rc: ∀f:G.Y,IbO (c 34 [⟨.rc 1,f⟩]) (DP f)
 ty: ∀u:f5,Bp u->hJ u<=B->∃s:Int,c 35 [⟨.sl (.rc 3),a⟩,⟨.rc 3,u⟩]=aa [⟨.int .i64,s⟩]/\∀x,Dc w u env x->jK x s
variable{c:cG}{a:au f5}{B L:Nat}(h:bOR w env c a B)(ha:aUF w env a)
include h ha
theorem a8f{t:f5}(tt:Bp t)(ht:hJ t<=B):aRr w env t (aRu c L a t):=by
 obtain⟨s,e,hs⟩:=h.ty t tt ht;have out: ∀v,OkB w t env v->jK v s:=λv hv=>hs v (Fy hw he hv tt.1 tt.2)
 simp only[aRu,a6c];rw[e,rC];show aRr w env t (bW (ak (wN (oN s&&&oN 32)=0)) (aa [⟨.int .i64,(1:Int)⟩]) (bW (ak (s=32)) (aa [⟨.int .i64,(2:Int)⟩]) (aa [⟨.int .i64,(0:Int)⟩])));refine Sd.c (λk1=> .t λv hv=>?_) λ_=>Sd.c (λk2=> .f λv hv=>?_) λ_=>⟨0,rfl,λe=>by omega,λe=>by omega⟩
 .have:=aA6 (bL k1) (out v hv);cases hh:tr v with
  |true=>rfl
  |false=>exact absurd (KW.2 hh) this
 .have:=out v hv;rw[bL k2]at this;exact KW.1 this
def bH4{t:f5}(tt:Bp t)(ht:hJ t<=B){b:Bool}(h3:t.kind=3)(hb:b=ah->t.args.length=1):aRr w env t (aKY c L b a t):=by
 have h5:=a8f hw he (L:=L) h ha tt ht;simp only[aKY,aSf];cases b with
 |false=>rw[bS];exact h5
 |true=>
  obtain⟨p,hp⟩:=aDh (hb rfl);have hs:=sM t;rw[hp]at hs;simp only[fA]at hs;obtain⟨r,q,e,g1,g2⟩:=h.rc t.name;have tp:=rO (t:=t) tt (u:=p) (by rw[hp];simp)
  obtain⟨s,e1,hs1⟩:=h.ty p tp (by omega)
  rw[bV,e,rY];cases q with
  |false=>simp only[bS];exact h5
  |true=>
   simp only[bV];rw[hp,show dK [p] (0:Int)=aa p from rfl,cR,e1,rC]
   refine Sd.c (λk1=> .t λv hv=>?_) λ_=>Sd.c (λk2=> .f λv hv=>?_) λ_=>h5
   .obtain⟨x,q1,q2⟩:=KR hw he tt h3 hp (g1 rfl) hv;exact q2.1 (aPq (bL k1) (hs1 x q1))
   .obtain⟨x,q1,q2⟩:=KR hw he tt h3 hp (g1 rfl) hv;have:=aA6 (bL k2) (hs1 x q1);cases hh:tr v with
    |true=>exact absurd (q2.2 hh) this
    |false=>rfl
def a8g{t:f5}(tt:Bp t)(ht:hJ t<=B):aRr w env t (aKZ c L a t):=by
 simp only[aKZ,a6d];have h5:=a8f hw he (L:=L) h ha tt ht;refine Sd.c (λe=>bH4 hw he h ha tt ht (bL e) λe=>by have:=bL e;omega) λ_=>?_
 simp only[aKY,aSf];rw[bS];exact h5
def a8h{t:f5}(tt:Bp t)(ht:hJ t<=B){b:Bool}(hb:b=ah->bNr w env t aj):aRr w env t (aRv c L b a t):=by
 simp only[aRv,a6e];exact Sd.c (λe=> .f (hb e)) λ_=>a8g hw he h ha tt ht
include hn
def bH5{t:f5}(tt:Bp t)(ht:hJ t<=B):aRr w env t (aRw c L a t):=by
 simp only[aRw,a6f];rw[h.ad,eW];refine Sd.c (λe=> .t λv hv=>?_) λ_=>?_
 .obtain⟨_,y,q1,q2⟩:=ha t (bL e);rw[gL hv.v q1.v];exact q2
 rw[h.ng,uN];simp only[];rw[h.ad,eW];refine Sd.c (λe=> .f λv hv=>?_) λ_=>?_
 .obtain⟨tn,y,q1,q2⟩:=ha _ (bL e);exact aO2 hw hn he tt tn q1 q2 hv
 have hI:=h.isA t Td 2;simp only[Td]at hI;rw[hI,eW];cases e:isA t [101,113,117,97,108] 2 with
 |false=>exact a8g hw he h ha tt ht
 |true=>
  obtain⟨p,q,hp⟩:=bCq (BO (k:=2) e);have hs:=sM t;rw[hp]at hs;simp only[fA]at hs;have val: ∀v,OkB w t env v->∃x y,Dc w p env x/\Dc w q env y/\(x=y↔tr v=ah):=λv hv=>KS hw he tt (aA1 e) (JU e) hp hv
  have sym: ∀{s:f5} {v:f6},s=LU Td [q,p]->Bp s->OkB w s env v->∃y x,Dc w q env y/\Dc w p env x/\(y=x↔tr v=ah):=λ{s v} es ts hv=>by
   subst es;exact KS hw he ts rfl rfl rfl hv
  have no: ∀{v:f6},¬tr v=ah->tr v=aj:=λ{v} h=>by cases hv:tr v with|true=>exact absurd hv h|false=>rfl
  simp only[bV];rw[hp,show dK [p,q] (0:Int)=aa p from rfl,show dK [p,q] (1:Int)=aa q from rfl,cR,cR,h.eq,uN]
  simp only[];rw[h.ad,eW];refine Sd.c (λe=> .t λv hv=>?_) λ_=>?_
  .obtain⟨ts,z,q1,q2⟩:=ha _ (bL e);obtain⟨y,x,g1,g2,g3⟩:=sym rfl ts q1;obtain⟨x',y',k1,k2,k3⟩:=val v hv;refine k3.1 ?_;rw[gL k1.b.v g2.b.v,gL k2.b.v g1.b.v];exact(g3.2 q2).symm
  rw[h.ng,uN];simp only[];rw[h.ad,eW];refine Sd.c (λe=> .f λv hv=>?_) λ_=>?_
  .obtain⟨ts,z,q1,q2⟩:=ha _ (bL e);have bi: ¬isA (LU Td [q,p]) mV 1=ah:=λh=>absurd (JU h) (show¬(⟨cV,Td⟩:G.Y)=⟨cV,mV⟩ by decide)
   obtain⟨z',r1,r2⟩:=aGZ hw hn he bi ts q1 q2;have tq:Bp (LU Td [q,p]):=by
    have:neg (LU Td [q,p])=LU mV [LU Td [q,p]]:=by unfold neg;rw[bI bi]
    rw[this]at ts;exact rO (t:=LU mV [LU Td [q,p]]) ts (show LU Td [q,p]∈ [LU Td [q,p]] from List.mem_singleton.2 rfl)
   obtain⟨y,x,g1,g2,g3⟩:=sym rfl tq r1.b;obtain⟨x',y',k1,k2,k3⟩:=val v hv;refine no λhh=>?_
   have:=k3.2 hh;rw[gL k1.b.v g2.b.v,gL k2.b.v g1.b.v]at this;rw[g3.1 this.symm]at r2;cases r2
  rw[h.te p (by omega) q,eW]
  refine Sd.c (λe=> .t λv hv=>?_) λnpq=>?_
  .obtain⟨x',y',k1,k2,k3⟩:=val v hv;refine k3.1 ?_;have:=bL e;subst this;exact gL k1.b.v k2.b.v
  have npq:=bM npq;refine Sd.c (λkp=>a8h hw he h ha tt ht λkq v hv=>?_) λ_=>a8h hw he h ha tt ht λe=>by cases e
  obtain⟨x',y',k1,k2,k3⟩:=val v hv;refine no λhh=>?_
  have e1:=Dk (bL kp) k1.b.v;have e2:=Dk (bL kq) k2.b.v;have e3:=k3.2 hh;have c1:=((vA.1 (rO (t:=t) tt (u:=p) (by rw[hp];simp)).2).1 (bL kp)).1
  have c2:=((vA.1 (rO (t:=t) tt (u:=q) (by rw[hp];simp)).2).1 (bL kq)).1
  rw[<-e1]at c1;rw[<-e2,<-e3]at c2;exact npq (c1.trans c2.symm)
def bH6{t:f5}(tt:Bp t)(ht:hJ t<=B)(ih: ∀p,Bp p->hJ p<hJ t->aRr w env p (c 9 [⟨.sl (.rc 3),a⟩,⟨.rc 3,p⟩])):aRr w env t (F9 c L a t):=by
 have h1:=bH5 hw hn he (L:=L) h ha tt ht;simp only[F9,a6g];refine Sd.c (λk=>?_) λ_=>?_
 .rw[h.isn t.value,eW];simp only[];rw[h.tru,rC];have tv: ∀v,OkB w t env v->tr v= !mX t.value:=λv hv=>by
   rw[Dk (bL k) hv.v];unfold tr Eg mX;cases hs:t.value.sym with|mk x y=>
   by_cases e1:x=cV
   .by_cases e2:y=[110,105,108]
    .subst e1 e2;simp[cV]
    .have: ¬(⟨x,y⟩:G.Y)=⟨[108,105,115,112],[110,105,108]⟩:=λh=>e2 (by injection h)
     rw[bH this,bH e2];simp
   .have: ¬(⟨x,y⟩:G.Y)=⟨[108,105,115,112],[110,105,108]⟩:=λh=>e1 (by injection h)
    rw[bH this,bH e1];simp
  cases hb:mX t.value with
  |true=>exact .f λv hv=>by rw[tv v hv,hb];rfl
  |false=>exact .t λv hv=>by rw[tv v hv,hb];rfl
 .have hI:=h.isA t mV 1;simp only[mV]at hI;rw[hI,eW];cases e:isA t [110,111,116] 1 with
  |false=>exact h1
  |true=>
   obtain⟨p,hp⟩:=aDh (BO (k:=1) e);have hs:=sM t;rw[hp]at hs;simp only[fA]at hs;simp only[bV];have tp:=rO (t:=t) tt (u:=p) (by rw[hp];simp)
   obtain⟨d,e1,d1,d2⟩:=ih p tp (by omega)
   have vn: ∀v,OkB w t env v->∃y,Dc w p env y/\tr v= !tr y:=λv hv=>D6 hw hn he tt e hp hv
   rw[hp,show dK [p] (0:Int)=aa p from rfl,cR,e1,rC]
   refine Sd.c (λk=> .f λv hv=>?_) λ_=>Sd.c (λk=> .t λv hv=>?_) λ_=>h1
   .obtain⟨y,q1,q2⟩:=vn v hv;rw[q2,d1 (bL k) y q1.b];rfl
   .obtain⟨y,q1,q2⟩:=vn v hv;rw[q2,d2 (bL k) y q1.b];rfl
end
def OSR(x:Rt)(B:Nat):Prop:= ∃(o:f6) (s:G.Z),x=aa [yR 2 o,yR 0 s]/\kY o+Bd o<=B/\dN s
def yC:Sy 2 [] [] ⟨cV,[110,105,108]⟩ [] []=0:=rfl
def OSR.mk{o:f6}{s:G.Z}{B:Nat}(h:kY o+Bd o<=B)(hs:dN s):OSR (aa [yR 2 o,yR 0 s]) B:=⟨o,s,rfl,h,hs⟩
def OSR.le{x:Rt}{A B:Nat}(h:OSR x A)(hl:A<=B):OSR x B:=by obtain⟨o,s,h1,h2,h3⟩:=h;exact⟨o,s,h1,by omega,h3⟩
def vP{W:Type}{a:f6}{K:f6×Unit->f9 W}:eE (aa [yR 2 a]) K=K (a,()):=rfl
def uO{W:Type}{a:f6}{b:G.Z}{K:f6×G.Z×Unit->f9 W}:tD (aa [yR 2 a,yR 0 b]) K=K (a,b,()):=rfl
def a1t{W:Type}{a:G.Y}{K:G.Y×Unit->f9 W}:qF (aa [yR 1 a]) K=K (a,()):=rfl
def EL{N:Type}{l:au N}{lo hi:Int}(h0:0<=lo)(h1:lo<=hi)(h2:hi<=(l.length:Int)): ∃w,slc l lo hi=aa w/\(w.length:Int)=hi-lo:=by
 unfold slc;have e1:ak (0<=lo)=ah:=by simpa using h0
 have e2:ak (lo<=hi)=ah:=by simpa using h1
 have e3:ak (hi<=(l.length:Int))=ah:=by simpa using h2
 rw[e1,e2,e3];refine⟨_,rfl,?_⟩;rw[List.length_drop,List.length_take];omega
section
variable{c:cG}(h:Lib c)
include h
def aBQ{L:Nat}{s:G.Z}(hs:dN s){a5 a1:Int}{b:f6}(h0:0<=a5)(h9:a5<=9):OSR (KF c L a5 a1 s b) 20:=by
 have seven: ∀K:Int×G.Z×Unit->Rt,(∀r s',0<=r->r<7->dN s'->OSR (K (r,s',())) 20)->OSR (Am (c 16 [yI (7:Int),yR 0 s]) K) 20:=λK hK=>by
  obtain⟨r,s',e,g1,g2,g3⟩:=h.nx s 7 hs (by omega)
  rw[e,lI];exact hK r s' g1 g2 g3
 have three: ∀K:Int×G.Z×Unit->Rt,(∀r s',0<=r->r<3->dN s'->OSR (K (r,s',())) 20)->OSR (Am (c 16 [yI (3:Int),yR 0 s]) K) 20:=λK hK=>by
  obtain⟨r,s',e,g1,g2,g3⟩:=h.nx s 3 hs (by omega)
  rw[e,lI];exact hK r s' g1 g2 g3
 have obj: ∀{x:Rt} {s':G.Z},KB x->dN s'->OSR (eE x λ(r:f6×Unit)=>aa [yR 2 r.1,yR 0 s']) 20:=λhx jd=>by
  obtain⟨o,e,g⟩:=hx;rw[e,vP];exact .mk g jd
 rw[KF,SY];obtain rfl|rfl|rfl|rfl|rfl|rfl|rfl|rfl|rfl|rfl:a5=0∨a5=1∨a5=2∨a5=3∨a5=4∨a5=5∨a5=6∨a5=7∨a5=8∨a5=9:=by omega
 .exact obj h.n hs
 .exact obj h.t hs
 .exact seven _ λr s' g1 g2 g3=>obj (h.i r g1 g2) g3
 .exact seven _ λr s' g1 g2 g3=>obj (h.i r g1 g2) g3
 .exact obj h.q1 hs
 .exact obj h.q2 hs
 .refine three _ λr s' g1 g2 g3=>?_
  obtain⟨w,e1,l1⟩:=EL (l:=([97,98,99]:au UInt8)) (hi:=3) g1 (by omega) (by decide)
  obtain⟨w2,e2,l2⟩:=EL (l:=w) (lo:=0) (hi:=1) (by omega) (by omega) (by omega)
  show OSR (ob (slc ([97,98,99]:au UInt8) r 3) λv5=>ob (slc v5 (0:Int) (1:Int)) λv6=>qF (c 15 [yT v6]) λ(r7:G.Y×Unit)=>eE (c 54 [yR 1 r7.1]) λ(r8:f6×Unit)=>aa [yR 2 r8.1,yR 0 s']) 20
  rw[e1,cR,e2,cR,h.u,a1t];exact obj (h.sy _ (Uc (by omega) (by omega))) g3
 .refine three _ λr s' g1 g2 g3=>?_
  obtain⟨w,e1,l1⟩:=EL (l:=([112,113]:au UInt8)) (lo:=0) (hi:=r) (by omega) g1 (by show r<=2;omega)
  show OSR (ob (slc ([112,113]:au UInt8) 0 r) λv10=>eE (c 55 [yT v10]) λ(r11:f6×Unit)=>aa [yR 2 r11.1,yR 0 s']) 20
  rw[e1,cR];exact obj (h.x _ (by simp only[a6A,d8];omega)) g3
 .exact obj h.i0 hs
 .exact obj h.i1 hs
def Ob0{L:Nat}{s:G.Z}(hs:dN s):OSR (aUH c L 0 s) 20:=by
 rw[aUH,S7];obtain⟨r,s',e,g1,g2,g3⟩:=h.nx s 14 hs (by omega)
 rw[e,lI];show OSR (DD c L (ak ((9:Int)<r)) r 0 s' _) 20;rw[DD,SZ];cases e2:ak ((9:Int)<r)with
 |true=>
  simp only[aD]at e2;obtain⟨m,rfl⟩: ∃m:Nat,r=((m+8:Nat):Int):=⟨(r-8).toNat,by omega⟩
  rw[bV,show((m+8:Nat):Int)-8=(m:Int) by omega,aEe (by omega)]
  exact aBQ h g3 (by omega) (by omega)
 |false=>
  simp only[bD]at e2;exact aBQ h g3 g1 (by omega)
def aRs{L:Nat}(h0: ∀s,dN s->OSR (c 19 [yI (0:Int),yR 0 s]) 20){b:f6}{r:Nat}(hr:r<=3):
    ∀(j k m:Nat) (a6:au f6) (s:G.Z),r=k+j->a6.length=k->jD a6<=21*k->j<m->dN s->OSR (AJ c L m (r:Int) 1 (k:Int) a6 s b) 200:=by
 intro j;induction j with
 |zero=>
  intro k m a6 s h1 h2 h3 h4 hs;obtain⟨m,rfl⟩:=sK m 1 (by omega)
  have e3:ak ((k:Int)<(r:Int))=aj:=by simp;omega
  rw[AJ,KK,e3,bS]
  match a6,h2 with
  |[],_=>rw[h.l0,vP];exact .mk (by simp[Ta,kY,jD,yC,vG]) hs
  |[a],h2=>rw[h.l1,vP];exact .mk (by simp[jD]at h3;simp[Ta,HT,kY,jD,yC,yD,vG,yE];simp only[aM,aX]at h2;omega) hs
  |[a,d],h2=>rw[h.l2,vP];exact .mk (by simp[jD]at h3;simp[Ta,HT,kY,jD,yC,yD,vG,yE];simp only[aM,aX]at h2;omega) hs
  |[a,d,e],h2=>rw[h.l3,vP];exact .mk (by simp[jD]at h3;simp[Ta,HT,kY,jD,yC,yD,vG,yE];simp only[aM,aX]at h2;omega) hs
  |_::_::_::_::l,h2=>simp at h2;omega
 |succ j ih=>
  intro k m a6 s h1 h2 h3 h4 hs;obtain⟨m,rfl⟩:=sK m 1 (by omega)
  have e3:ak ((k:Int)<(r:Int))=ah:=by simp;omega
  rw[AJ,KK,e3,bV];obtain⟨o,s',e,g1,g2⟩:=h0 s hs;show OSR (tD (c 19 [yI (0:Int),yR 0 s]) _) 200;rw[e,uO];have e4:aq ((a6.length+([o]:au f6).length)*112) 1073741824=ah:=by
   rw[d8];simp only[aM,aX];omega
  simp only[e4,fN];rw[eV (by omega)]
  have hz: ∀l:au f6,jD (l++ [o])=jD l+(kY o+Bd o)+1:=by
   intro l;induction l with
   |nil=>simp[jD]
   |cons x l ih=>simp only[aY,jD,ih];omega
  exact ih (k+1) m (a6++ [o]) s' (by omega) (by simp;omega) (by rw[hz];omega) (by omega) g2
def Ob1{L:Nat}(hL:10<=L)(h0: ∀s,dN s->OSR (c 19 [yI (0:Int),yR 0 s]) 20){s:G.Z}(hs:dN s):OSR (aUH c L 1 s) 200:=by
 rw[aUH,S7];obtain⟨r,s',e,g1,g2,g3⟩:=h.nx s 14 hs (by omega)
 rw[e,lI];show OSR (DD c L aj r 1 s' _) 200;rw[DD,SZ,bS];by_cases h9:r<=9
 .exact(aBQ h g3 g1 h9).le (by omega)
 have th: ∀b,OSR (AO c L ah 1 s' b) 200:=λb=>by
  rw[AO,KL,bV];obtain⟨q,s2,e,k1,k2,k3⟩:=h.nx s' 4 g3 (by omega)
  rw[e,lI];obtain⟨m,rfl⟩: ∃m:Nat,q=(m:Int):=⟨q.toNat,by omega⟩
  exact aRs h h0 (by omega) m 0 L [] s2 (by omega) rfl (b7 _) (by omega) k3
 rw[KF,SY];obtain rfl|rfl|rfl|rfl:r=10∨r=11∨r=12∨r=13:=by omega
 .exact th _
 .exact th _
 .exact th _
 .have pr: ∀b,OSR (AO c L aj 1 s' b) 200:=λb=>by
   rw[AO,KL,bS];obtain⟨o,s2,e,k1,k2⟩:=h0 s' g3;show OSR (tD (c 19 [yI (0:Int),yR 0 s']) _) 200;rw[e,uO];obtain⟨o2,s3,e,k3,k4⟩:=h0 s2 k2;show OSR (tD (c 19 [yI (0:Int),yR 0 s2]) _) 200;rw[e,uO,h.cn,vP];exact .mk (by simp[HT,kY,jD,yD,yE];omega) k4
  exact pr aSp
end
def TSR(x:Rt)(B:Nat):Prop:= ∃(t:f5) (s:G.Z),x=aa [yR 3 t,yR 0 s]/\hJ t<=B/\dN s
def TSR.mk{o:f5}{s:G.Z}{B:Nat}(h:hJ o<=B)(hs:dN s):TSR (aa [yR 3 o,yR 0 s]) B:=⟨o,s,rfl,h,hs⟩
def TSR.le{x:Rt}{A B:Nat}(h:TSR x A)(hl:A<=B):TSR x B:=by obtain⟨o,s,h1,h2,h3⟩:=h;exact⟨o,s,h1,by omega,h3⟩
def gY{W:Type}{a:f5}{K:f5×Unit->f9 W}:jE (aa [yR 3 a]) K=K (a,()):=rfl
def lH{W:Type}{a:f5}{b:G.Z}{K:f5×G.Z×Unit->f9 W}:uP (aa [yR 3 a,yR 0 b]) K=K (a,b,()):=rfl
def aGK{W:Type}{a:au (au UInt8)}{K:au (au UInt8)×Unit->f9 W}:gO (D:=U0.D) [.sl .str] (aa [⟨.sl .str,a⟩]) K=K (a,()):=rfl
def aGJ{W:Type}{a:G.Y}{K:G.Y×Unit->f9 W}:qF (aa [yR 1 a]) K=K (a,()):=rfl
def a49(n:G.Y)(h:bJH n=ah):OA 1 n aSp []=0:=by
 unfold OA Ro;rw[h];rfl
def aNs(f:G.Y)(l:au f5):Nat:=bif sZ f&&aq l.length 8 then 0 else 1000000000
def aVO{f:G.Y}{l:au f5}(h:sZ f=ah)(hl:l.length<=8):aNs f l=0:=by
 unfold aNs;rw[h,Nat.ble_eq_true_of_le hl];rfl
def a5b(n:G.Y)(l:au f5):OA 3 n aSp l=aNs n l:=by
 unfold OA Ro aNs;cases sZ n<;>cases aq l.length 8<;>rfl
def KN:(∀f a,aNs f [a]=wS f)/\(∀f a b,aNs f [a,b]=wS f)/\wS ⟨cV,[110,111,116]⟩=0/\wS ⟨cV,[101,113,117,97,108]⟩=0/\wS ⟨cV,[99,111,110,115,112]⟩=0/\wS ⟨cV,[99,111,110,115]⟩=0/\wS ⟨cV,[60]⟩=0:=
 ⟨λf a=>by unfold aNs wS;cases sZ f<;>rfl,λf a b=>by unfold aNs wS;cases sZ f<;>rfl,rfl,rfl,rfl,rfl,rfl⟩
def a5a(o:f6):OA 2 ⟨[],[]⟩ o []=Bd o:=by
 unfold OA Ro Bd;cases ak (o.kind=0)<;>rfl
def aEb:kY aSp=2:=rfl
def a78(w:au UInt8)(h1:1<=w.length)(h2:w.length<=20):hJ (tV w)=6:=by
 have h:OA 1 ⟨EB,w⟩ aSp []=0:=a49 ⟨EB,w⟩ (bBu h1 h2);simp only[tV,hJ,fA,h,aEb]
def Aw(f:G.Y)(l:au f5):hJ (tA f l)=6+fA l+aNs f l:=by simp only[tA,hJ,a5b,aEb]
def ZM(o:f6):hJ (tC o)=4+(kY o+Bd o):=by simp only[tC,hJ,fA,a5a];omega
def tsz'_app(l:au f5)(t:f5):fA (l++ [t])=fA l+hJ t+1:=by
 induction l with
 |nil=>simp[fA]
 |cons x l ih=>simp only[aY,fA,ih];omega
section
variable{c:cG}(h:Lib c)
include h
def bFZ{L:Nat}{s:G.Z}(hs:dN s):TSR (bHj c L s) 6:=by
 rw[bHj,aVk];obtain⟨r,s',e,g1,g2,g3⟩:=h.nx s 3 hs (by omega)
 rw[e,lI];obtain⟨w,e1,l1⟩:=EL (l:=([120,121,122]:au UInt8)) (hi:=3) g1 (by omega) (by decide)
 obtain⟨w2,e2,l2⟩:=EL (l:=w) (lo:=0) (hi:=1) (by omega) (by omega) (by omega)
 show TSR (ob (slc ([120,121,122]:au UInt8) r 3) λv1=>ob (slc v1 (0:Int) (1:Int)) λv2=>jE (c 10 [yT v2]) λ(r3:f5×Unit)=>aa [yR 3 r3.1,yR 0 s']) 6
 rw[e1,cR,e2,cR,h.v,gY];exact .mk (by rw[a78 _ (by omega) (by omega)];omega) g3
def aRo{L:Nat}{E:au G.E}{d:Int}{B:Nat}(hB:B<1000000)(hr: ∀s,dN s->TSR (c 23 [yS 15 E,yI (IntKind.i64.wrap (d-1)),yR 0 s]) B){f:G.Y}(hf:sZ f=ah){b:f5}{r:Nat}(h3:r<=3):
    ∀(j k m:Nat) (a:au f5) (s:G.Z),r=k+j->a.length=k->fA a<=(B+1)*k->j<m->dN s->TSR (GX c L m (r:Int) E d (k:Int) a s f b) (6+3*(B+1)):=by
 intro j;induction j with
 |zero=>
  intro k m a s h1 h2 h4 h5 hs;obtain⟨m,rfl⟩:=sK m 1 (by omega)
  have e3:ak ((k:Int)<(r:Int))=aj:=by simp;omega
  rw[GX,aCm,e3,bS,h.a,gY];refine .mk ?_ hs;have:(B+1)*k<=(B+1)*3:=Nat.mul_le_mul_left _ (by omega)
  rw[Aw,aVO hf (by omega)];omega
 |succ j ih=>
  intro k m a s h1 h2 h4 h5 hs;obtain⟨m,rfl⟩:=sK m 1 (by omega)
  have e3:ak ((k:Int)<(r:Int))=ah:=by simp;omega
  obtain⟨t,s',e,g1,g2⟩:=hr s hs;rw[GX,aCm,e3,bV,e,lH];have e4:aq ((a.length+([t]:au f5).length)*176) 1073741824=ah:=by
   rw[d8];simp only[aM,aX];omega
  simp only[e4,fN];rw[eV (by omega)]
  refine ih (k+1) m (a++ [t]) s' (by omega) (by simp;omega) ?_ (by omega) g2
  rw[tsz'_app,Nat.mul_add];omega
def aKL{L:Nat}(hL:10<=L){E:au G.E}{d:Int}{B:Nat}(hB:B<1000000)(hB2:204<=B)(hv: ∀s,dN s->TSR (c 18 [yR 0 s]) 6)(ho: ∀s,dN s->OSR (c 19 [yI (1:Int),yR 0 s]) 200)
    (ha: ∀f:G.Y,bGI (c 62 [yS 15 E,yR 1 f])) (hr:1<=d->∀s,dN s->TSR (c 23 [yS 15 E,yI (IntKind.i64.wrap (d-1)),yR 0 s]) B) {s:G.Z} (hs:dN s):
    TSR (bHh c L E d s) (bif ak (d<1)then 204 else 6+3*(B+1)):=by
 have lo: ∀(a7:Int) (s':G.Z) (b:f5),a7<=3->dN s'->TSR (SQ c L a7 E d s' b) 204:=λa7 s' b g1 g2=>by
  rw[SQ,aCn];cases e1:ak (a7<(3:Int))with
  |true=>
   obtain⟨t,s2,e,q1,q2⟩:=hv s' g2;rw[bV,e,lH];exact .mk (by show hJ t<=204;omega) q2
  |false=>
   simp only[bD]at e1;have e2:ak (a7=(3:Int))=ah:=by simp;omega
   obtain⟨o,s2,e,q1,q2⟩:=ho s' g2;rw[bS,e2,bV,e,uO,h.k,gY];exact .mk (by show hJ (tC o)<=204;rw[ZM];omega) q2
 obtain⟨r,s',e,g1,g2,g3⟩:=h.nx s 12 hs (by omega)
 rw[bHh,aMm,e,lI];cases e1:ak (d<(1:Int))with
 |true=>
  rw[bV,aI];show TSR (KE c L (ak ((3:Int)<r)) r E d s' _) _;rw[KE,aCo];cases e2:ak ((3:Int)<r)with
  |true=>
   rw[bV,show ak ((4:Int)=0)=aj by decide]
   simp only[b9,fN];exact lo _ _ _ (by have:=Int.tmod_lt_of_pos r (b:=4) (by omega);omega) g3
  |false=>
   simp only[bD]at e2;exact lo _ _ _ (by omega) g3
 |false=>
  rw[bS,aJ];simp only[bD]at e1;show TSR (KE c L aj r E d s' _) _;rw[KE,aCo,bS];by_cases h4:r<=3
  .exact(lo _ _ _ h4 g3).le (by omega)
  have jn: ∀(s2:G.Z) (f:G.Y) (b:f5),sZ f=ah->dN s2->TSR (aB2 c L E d s2 f b) (6+3*(B+1)):=λs2 f b hf k1=>by
   obtain⟨k,b2,e,k2⟩:=ha f;rw[aB2,aMl,e,rY];exact aRo h hB (hr (by omega)) hf k2 k 0 L [] s2 (by omega) rfl (b7 _) (by omega) k1
  have e2:ak (r<(3:Int))=aj:=by simp;omega
  have e3:ak (r=(3:Int))=aj:=by simp;omega
  obtain⟨lh,eh,hh,nh⟩:=h.hd;obtain⟨lw,ew,hw,nw⟩:=h.ow;obtain⟨q,s2,e4,k1,k2,k3⟩:=h.nx s' 4 g3 (by omega)
  rw[SQ,aCn,e2,bS,e3,bS,eh,aGK,ew,aGK,e4,lI];cases e5:ak (q<(3:Int))with
  |true=>
   obtain⟨i,s3,e6,k4,k5,k6⟩:=h.nx s2 (lh.length:Int) k3 (by omega)
   obtain⟨m,rfl⟩: ∃m:Nat,i=(m:Int):=⟨i.toNat,by omega⟩
   have hm:lh[m]?=aa (lh[m]'(by omega)):=aV _
   simp only[bV];rw[e6,lI];simp only[cH,hm,cR];rw[h.s,aGJ];have hz:=aGV nh (List.getElem_mem (l:=lh) (n:=m) (by omega))
   exact jn _ _ _ (a1p hz.1 hz.2) k6
  |false=>
   obtain⟨i,s3,e6,k4,k5,k6⟩:=h.nx s2 (lw.length:Int) k3 (by omega)
   obtain⟨m,rfl⟩: ∃m:Nat,i=(m:Int):=⟨i.toNat,by omega⟩
   have hm:lw[m]?=aa (lw[m]'(by omega)):=aV _
   simp only[bS];rw[e6,lI];simp only[cH,hm,cR];rw[h.u,aGJ];have hz:=aGV nw (List.getElem_mem (l:=lw) (n:=m) (by omega))
   exact jn _ _ _ (Uc hz.1 hz.2) k6
end
def bHm(x:Rt)(B:Nat):Prop:= ∃(l:au f5) (s:G.Z),x=aa [yS 3 l,yR 0 s]/\fA l<=B/\dN s
section
variable(L:Nat){E:au G.E}(hE:a5H E)
def vQ{n:Nat}(h:60<=n):Lib (cA (L+7000) n):=by
 obtain⟨m,rfl⟩: ∃m,n=m+60:=⟨n-60,by omega⟩
 exact a1S L m
def aCz{n:Nat}(h:61<=n)(s:G.Z)(hs:dN s):TSR (cA (L+7000) n 18 [yR 0 s]) 6:=by
 obtain⟨m,rfl⟩: ∃m,n=m+1:=⟨n-1,by omega⟩
 rw[c18];exact bFZ (vQ L (by omega)) hs
def bBX{n:Nat}(h:61<=n)(s:G.Z)(hs:dN s):OSR (cA (L+7000) n 19 [yI (0:Int),yR 0 s]) 20:=by
 obtain⟨m,rfl⟩: ∃m,n=m+1:=⟨n-1,by omega⟩
 rw[bM6];exact Ob0 (vQ L (by omega)) hs
def aOX{n:Nat}(h:62<=n)(s:G.Z)(hs:dN s):OSR (cA (L+7000) n 19 [yI (1:Int),yR 0 s]) 200:=by
 obtain⟨m,rfl⟩: ∃m,n=m+1:=⟨n-1,by omega⟩
 rw[bM6];exact Ob1 (vQ L (by omega)) (by omega) (bBX L (by omega)) hs
include hE
def a5i{n:Nat}(h:4<=n)(f:G.Y):bGI (cA (L+7000) n 62 [yS 15 E,yR 1 f]):=by
 obtain⟨m,rfl⟩: ∃m,n=m+4:=⟨n-4,by omega⟩
 exact bGH hE f (by omega)
def a8b{n:Nat}(h:63<=n)(s:G.Z)(hs:dN s):TSR (cA (L+7000) n 23 [yS 15 E,yI (0:Int),yR 0 s]) 204:=by
 obtain⟨m,rfl⟩: ∃m,n=m+1:=⟨n-1,by omega⟩
 rw[bM5];exact aKL (vQ L (by omega)) (by omega) (B:=204) (by omega) (by omega) (aCz L (by omega)) (aOX L (by omega)) (a5i L hE (by omega)) (λh=>by omega) hs
def a8a{n:Nat}(h:64<=n)(s:G.Z)(hs:dN s):TSR (cA (L+7000) n 23 [yS 15 E,yI (1:Int),yR 0 s]) 621:=by
 obtain⟨m,rfl⟩: ∃m,n=m+1:=⟨n-1,by omega⟩
 rw[bM5];exact aKL (vQ L (by omega)) (by omega) (B:=204) (by omega) (by omega) (aCz L (by omega)) (aOX L (by omega)) (a5i L hE (by omega)) (λ_=>a8b L hE (by omega)) hs
def bH0{n:Nat}(h:65<=n)(s:G.Z)(hs:dN s):TSR (cA (L+7000) n 23 [yS 15 E,yI (2:Int),yR 0 s]) 1872:=by
 obtain⟨m,rfl⟩: ∃m,n=m+1:=⟨n-1,by omega⟩
 rw[bM5];exact aKL (vQ L (by omega)) (by omega) (B:=621) (by omega) (by omega) (aCz L (by omega)) (aOX L (by omega)) (a5i L hE (by omega)) (λ_=>a8a L hE (by omega)) hs
end
def aET{E:au G.E}(h:a6v E=ah):a5H E:=by
 simp only[a6v,aD3,aC,bK]at h;exact⟨bR h.1.2,λe he=>bR (h.2 e he).1,λe he f hf=>bR (((h.2 e he).2 f hf).1)⟩
def aOF{s:G.Y}(h:sZ s=ah):s.package.length<=900/\s.name.length<=900:=by
 unfold sZ at h;simp only[aC,d7,aD,d8]at h;refine⟨?_,by omega⟩
 rcases h.1.1 with e|e<;>rw[e]<;>decide
def bBw{n d:eT}(h:a1r n d=ah):n.length<=900/\d.length<=900:=by
 unfold a1r at h;rw[List.any_eq_true]at h;obtain⟨p,hp,h⟩:=h;simp only[aC,aD]at h;have all:numL.all (λp=>aq p.1.length 900&&aq p.2.length 900)=ah:=by decide
 have:=bK.1 all p hp;simp only[aC,d8]at this;rw[h.1,h.2];exact this
def aSv: ∀o:f6,kY o<1000000000->vO o:=uM λk n d s t l ih h=>by
 have h2:=aGG h;simp only[kY]at h;simp only[G.O.kind,G.O.num,G.O.den,G.O.sym,G.O.text,G.O.pair,a1q,d7,aC,List.isEmpty_iff]at h2;have mem: ∀{l:au f6},jD l<1000000000->∀o∈l,kY o<1000000000:=by
  intro l;induction l with
  |nil=>intro _ o ho;cases ho
  |cons x l ih=>
   intro hl o ho;simp only[jD]at hl;rcases List.mem_cons.1 ho with rfl|ho
   .omega
   .exact ih (by omega) o ho
 show bO 900 _=ah;rw[lO];rcases h2 with(((⟨⟨⟨⟨⟨a1,a2⟩,a3⟩,a4⟩,a5⟩,a6⟩|⟨⟨⟨⟨a1,a2⟩,a3⟩,a4⟩,a5⟩)|⟨⟨⟨⟨⟨a1,a2⟩,a3⟩,a4⟩,a5⟩,a6⟩)|⟨⟨⟨⟨⟨a1,a2⟩,a3⟩,a4⟩,a5⟩,a6⟩)|⟨⟨⟨⟨⟨a1,a2⟩,a3⟩,a4⟩,a5⟩,a6⟩
 .have b1:=bL a1;have b4:=bL a4;subst b1 a2 a3 b4 a5 a6;exact⟨b7 _,b7 _,b7 _,b7 _,b7 _,b7 _,rfl⟩
 .have:=bBw a2;have b1:=bL a1;have b3:=bL a3;subst b1 b3 a4 a5;exact⟨this.1,this.2,b7 _,b7 _,b7 _,b7 _,rfl⟩
 .have:=aOF a2;have b1:=bL a1;subst b1 a3 a4 a5 a6;exact⟨b7 _,b7 _,this.1,this.2,b7 _,b7 _,rfl⟩
 .have:t.length<=10:=by simpa [a6A,d8]using a2
  have b1:=bL a1;have b5:=bL a5;subst b1 a3 a4 b5 a6;exact⟨b7 _,b7 _,b7 _,b7 _,show t.length<=_ by omega,b7 _,rfl⟩
 .have b1:=bL a1;have b4:=bL a4;have b6:=bL a6;subst b1 a2 a3 b4 a5;have hp:Vx 900 l=ah:=bO'_of λo ho=>ih o ho (mem (by omega) o ho)
  exact⟨b7 _,b7 _,b7 _,b7 _,b7 _,show l.length<=2 by omega,by show(Vx 900 l&&ah)=ah;rw[hp];rfl⟩
def a79: ∀t:f5,hJ t<1000000000->tO t=ah:=tZ λk n v l ih h=>by
 have h2:=aAL h;have hl:=mE l;simp only[hJ]at h;have len:l.length<=1000:=by
  simp only[G.T.kind,G.T.name,G.T.value,G.T.args,Ro,d7,aC,List.isEmpty_iff,d8]at h2;rcases h2 with(h2|h2)|h2
  .rw[h2.2];exact b7 _
  .rw[h2.1.2];exact b7 _
  .omega
 rw[EH];refine⟨aSv v (by omega),len,?_⟩
 have go: ∀(q:au f5),(∀t∈q,t∈l)->aEJ q=ah:=by
  intro q;induction q with
  |nil=>exact λ_=>rfl
  |cons x q ihq=>
   intro hq;have hx:=hq x (aH ..);have:=fE hx;simp only[aEJ,aC];exact⟨ih x hx (by omega),ihq λt ht=>hq t (aG _ ht)⟩
 exact go l λ_ h=>h
section
variable{c:cG}(h:Lib c)
include h
def aKT{L:Nat}(h0: ∀s,dN s->OSR (c 19 [⟨.int .i64,(1:Int)⟩,⟨.rc 0,s⟩]) 200){b:f6}{r:Nat}(hr:r<=3):
    ∀(j k m:Nat) (a6:au f6) (s:G.Z),r=k+j->a6.length=k->jD a6<=201*k->j<m->dN s->OSR (AJ c L m (r:Int) 2 (k:Int) a6 s b) 2000:=by
 intro j;induction j with
 |zero=>
  intro k m a6 s h1 h2 h3 h4 hs;obtain⟨m,rfl⟩: ∃m',m=m'+1:=⟨m-1,by omega⟩
  have e3:ak ((k:Int)<(r:Int))=aj:=by simp;omega
  rw[AJ,KK,e3,bS]
  match a6,h2 with
  |[],_=>rw[h.l0,vP];exact .mk (by simp[Ta,kY,jD,yC,vG]) hs
  |[a],h2=>rw[h.l1,vP];exact .mk (by simp[jD]at h3;simp[Ta,HT,kY,jD,yC,yD,vG,yE];simp only[aM,aX]at h2;omega) hs
  |[a,d],h2=>rw[h.l2,vP];exact .mk (by simp[jD]at h3;simp[Ta,HT,kY,jD,yC,yD,vG,yE];simp only[aM,aX]at h2;omega) hs
  |[a,d,e],h2=>rw[h.l3,vP];exact .mk (by simp[jD]at h3;simp[Ta,HT,kY,jD,yC,yD,vG,yE];simp only[aM,aX]at h2;omega) hs
  |_::_::_::_::l,h2=>simp at h2;omega
 |succ j ih=>
  intro k m a6 s h1 h2 h3 h4 hs;obtain⟨m,rfl⟩: ∃m',m=m'+1:=⟨m-1,by omega⟩
  have e3:ak ((k:Int)<(r:Int))=ah:=by simp;omega
  rw[AJ,KK,e3,bV];obtain⟨o,s',e,g1,g2⟩:=h0 s hs;show OSR (tD (c 19 [⟨.int .i64,(1:Int)⟩,⟨.rc 0,s⟩]) _) 2000;rw[e,uO];have e4:aq ((a6.length+([o]:au f6).length)*112) 1073741824=ah:=by
   rw[d8];simp only[aM,aX];omega
  simp only[e4,fN];rw[eV (by omega)]
  have hz: ∀l:au f6,jD (l++ [o])=jD l+(kY o+Bd o)+1:=by
   intro l;induction l with
   |nil=>simp[jD]
   |cons x l ih=>simp only[aY,jD,ih];omega
  exact ih (k+1) m (a6++ [o]) s' (by omega) (by simp;omega) (by rw[hz];omega) (by omega) g2
def Ob2{L:Nat}(hL:10<=L)(h0: ∀s,dN s->OSR (c 19 [⟨.int .i64,(1:Int)⟩,⟨.rc 0,s⟩]) 200){s:G.Z}(hs:dN s):OSR (aUH c L 2 s) 2000:=by
 rw[aUH,S7];obtain⟨r,s',e,g1,g2,g3⟩:=h.nx s 14 hs (by omega)
 rw[e,lI];show OSR (DD c L aj r 2 s' _) 2000;rw[DD,SZ,bS];by_cases h9:r<=9
 .exact(aBQ h g3 g1 h9).le (by omega)
 have th: ∀b,OSR (AO c L ah 2 s' b) 2000:=λb=>by
  rw[AO,KL,bV];obtain⟨q,s2,e,k1,k2,k3⟩:=h.nx s' 4 g3 (by omega)
  rw[e,lI];obtain⟨m,rfl⟩: ∃m:Nat,q=(m:Int):=⟨q.toNat,by omega⟩
  exact aKT h h0 (by omega) m 0 L [] s2 (by omega) rfl (b7 _) (by omega) k3
 rw[KF,SY];obtain rfl|rfl|rfl|rfl:r=10∨r=11∨r=12∨r=13:=by omega
 .exact th _
 .exact th _
 .exact th _
 .have pr: ∀b,OSR (AO c L aj 2 s' b) 2000:=λb=>by
   rw[AO,KL,bS];obtain⟨o,s2,e,k1,k2⟩:=h0 s' g3;show OSR (tD (c 19 [⟨.int .i64,(1:Int)⟩,⟨.rc 0,s'⟩]) _) 2000;rw[e,uO];obtain⟨o2,s3,e,k3,k4⟩:=h0 s2 k2;show OSR (tD (c 19 [⟨.int .i64,(1:Int)⟩,⟨.rc 0,s2⟩]) _) 2000;rw[e,uO,h.cn,vP];exact .mk (by simp[HT,kY,jD,yD,yE];omega) k4
  exact pr aSp
end
def bJS(L:Nat){n:Nat}(h:63<=n)(s:G.Z)(hs:dN s):OSR (cA (L+7000) n 19 [⟨.int .i64,(2:Int)⟩,⟨.rc 0,s⟩]) 2000:=by
 obtain⟨m,rfl⟩: ∃m,n=m+1:=⟨n-1,by omega⟩
 rw[bM6];exact Ob2 (vQ L (by omega)) (by omega) (aOX L (by omega)) hs
def envN:au eT:=[[120],[121],[122],[110]]
def bGv(b:G.S):Prop:=kY b.value+Bd b.value<=2000
def aPJ{c:cG}(h:Lib c){L:Nat}(ho: ∀s,dN s->OSR (c 19 [⟨.int .i64,(2:Int)⟩,⟨.rc 0,s⟩]) 2000): ∀(l:au eT) (k m:Nat) (acc:kU) (s:G.Z),envN.drop k=l->l.length<m->k<=4->acc.length=k->(∀b∈acc,bGv b)->dN s->
    ∃(e:kU) (s':G.Z),Xh c L m (4:Int) envN (k:Int) acc s=aa [⟨.sl (.rc 17),e⟩,⟨.rc 0,s'⟩]/\(∀b∈e,bGv b)/\e.length=4:=by
 intro l;induction l with
 |nil=>
  intro k m acc s h1 h2 h3 h4 h5 h6;obtain⟨m,rfl⟩: ∃m',m=m'+1:=⟨m-1,by simp at h2;omega⟩
  have e1:=cX h1;have e2:envN.length=4:=rfl;exact⟨acc,s,by rw[Xh,aSj,bH (by omega: ¬(k:Int)<4),bS],h5,by omega⟩
 |cons x l ih=>
  intro k m acc s h1 h2 h3 h4 h5 h6;obtain⟨m,rfl⟩: ∃m',m=m'+1:=⟨m-1,by simp at h2;omega⟩
  obtain⟨a1,a2,a3⟩:=cZ h1;have e2:envN.length=4:=rfl;obtain⟨o,s',e,g1,g2⟩:=ho s h6;have i1:dK envN (k:Int)=aa x:=(cH _ k).trans a1;have bl:aq ((acc.length+am ([(G.S.mk ⟨EB,x⟩ o)]:kU))*144) 1073741824=ah:=by rw[d8];simp;omega
  obtain⟨q,q',r1,r2,r3⟩:=ih (k+1) m (acc++ [⟨⟨EB,x⟩,o⟩]) s' a3 (by simp at h2;omega) (by omega) (by simp[h4]) (λb hb=>by
   rcases oa.1 hb with hb|hb
   .exact h5 b hb
   .rw[List.mem_singleton]at hb;subst hb;exact g1) g2
  refine⟨q,q',?_,r2,r3⟩;rw[Xh,aSj,bG (by omega:(k:Int)<4),bV,i1,cR,h.u,aTe]
  simp only[];rw[e,uO];simp only[];rw[bl,fN,eV (by omega)]
  exact r1
def bEO(L:Nat){n:Nat}(h:64<=n)(s:G.Z)(hs:dN s): ∃(e:kU) (s':G.Z),cA (L+7000) n 4 [⟨.rc 0,s⟩]=aa [⟨.sl (.rc 17),e⟩,⟨.rc 0,s'⟩]/\(∀b∈e,bGv b)/\e.length=4:=by
 obtain⟨m,rfl⟩: ∃m,n=m+1:=⟨n-1,by omega⟩
 rw[c4];exact aPJ (vQ L (by omega)) (bJS L (by omega)) envN 0 (L+7000) [] s rfl (by show 4<_;omega) (by omega) rfl (λb hb=>by cases hb) hs
def aIz{o:f6}(h:kY o<1000000000)(hk: ¬o.kind=0):a4P o=ah:=by
 have h2:=aGG h;cases o with|mk k n d s t l=>
 simp only[G.O.kind,G.O.num,G.O.den,G.O.sym,G.O.text,G.O.pair,a1q,d7,aC,List.isEmpty_iff]at h2 hk;rcases h2 with(((⟨⟨⟨⟨⟨a1,a2⟩,a3⟩,a4⟩,a5⟩,a6⟩|⟨⟨⟨⟨a1,a2⟩,a3⟩,a4⟩,a5⟩)|⟨⟨⟨⟨⟨a1,a2⟩,a3⟩,a4⟩,a5⟩,a6⟩)|⟨⟨⟨⟨⟨a1,a2⟩,a3⟩,a4⟩,a5⟩,a6⟩)|⟨⟨⟨⟨⟨a1,a2⟩,a3⟩,a4⟩,a5⟩,a6⟩
 .exact absurd (bL a1) hk
 .have b1:=bL a1;have b3:=bL a3;subst b1 b3 a4 a5;show(decide _&&(a1r n d&&(decide _&&(List.isEmpty _&&List.isEmpty _)))||_)=ah;rw[a2];simp only[d7,aC,aD,List.isEmpty_iff];exact .inl ⟨rfl,trivial,rfl,rfl,rfl⟩
 .have b1:=bL a1;subst b1 a3 a4 a5 a6;rfl
 .have b1:=bL a1;subst b1;rfl
 .have b1:=bL a1;have b6:=bL a6;subst b1;show(_||(_||(_||decide _&&ak (l.length=2))))=ah;rw[bG b6];simp only[d7,aC,aD];exact .inr (.inr (.inr ⟨rfl,trivial⟩))
def a4O: ∀t:f5,hJ t<1000000000->Te t=ah:=tZ λk n v l ih h=>by
 have h2:=aAL h;simp only[hJ]at h;rw[vA];refine⟨λe=>?_,?_⟩
 .have e:k=2:=e;subst e;simp only[G.T.kind,G.T.name,G.T.value,G.T.args,Ro,d7,aC,List.isEmpty_iff]at h2;rcases h2 with(h2|h2)|h2
  .exact absurd (bL h2.1.1.1) (show¬(2:Int)=1 by decide)
  .have e1:=bL h2.1.1.2;have e2:=h2.1.2;subst e1 e2;refine⟨rfl,aIz (by show kY v<_;omega) λhk=>?_⟩
   have hk:v.kind=0:=hk;have h3:=h2.2;rw[Bool.not_eq_true']at h3;exact bM h3 hk
  .exact absurd (bL h2.1.1.1) (show¬(2:Int)=3 by decide)
 .have go: ∀(q:au f5),(∀t∈q,t∈l)->NU q=ah:=by
   intro q;induction q with
   |nil=>exact λ_=>rfl
   |cons x q ihq=>
    intro hq;have hx:=hq x (aH ..);have:=fE hx;simp only[NU,aC];exact⟨ih x hx (by omega),ihq λt ht=>hq t (aG _ ht)⟩
  exact go l λ_ h=>h
def aKK{t:f5}(h:hJ t<1000000000):Bp t:=⟨a79 t h,a4O t h⟩
def a4r{env:kU}(h: ∀b∈env,bGv b)(hl:env.length=4):aSc env:=by
 have k: ∀b∈env,kY b.value<1000000000/\¬b.value.kind=0:=λb hb=>by
  have:=h b hb;unfold bGv Bd at this;refine⟨by omega,λe=>?_⟩
  rw[bG e,aI]at this;omega
 exact⟨λb hb=>aSv _ (k b hb).1,λb hb=>Vs (aIz (k b hb).1 (k b hb).2),by omega⟩
def bJJ(L M:Nat):cF L M 60 117 [⟨.int .i64,(0:Int)⟩]=aa [⟨.rc 2,Er⟩]:=by kernel_rfl
def tsz'_ap3(l r:au f5):fA (l++r)=fA l+fA r:=by
 induction l with
 |nil=>simp[fA]
 |cons x l ih=>simp only[aY,fA,ih];omega
section
variable(L:Nat)(hL:30000<=L)
include hL
def aIb{n:Nat}(hn:20000<=n)(x:f5)(hx:hJ x<=20000)(y:f5):cA (L+7000) n 33 [⟨.rc 3,x⟩,⟨.rc 3,y⟩]=aa [⟨.bool,ak (x=y)⟩]:=
 aKM x (by simp only[aNv];omega) y (L+7000) n (by omega) (by omega)
omit hL in
def aHk{n:Nat}(hn:60<=n):cA (L+7000) n 117 [⟨.int .i64,(0:Int)⟩]=aa [⟨.rc 2,Er⟩]:=by
 obtain⟨n,rfl⟩: ∃m,n=m+60:=⟨n-60,by omega⟩
 have h:=bJJ L n;rw[Su]at h;exact h
def bFO{n:Nat}(hn:20100<=n):bOY (cA (L+7000) n) 20000 where
 z:=aHk L (by omega)
 k:=by
  obtain⟨n,rfl⟩: ∃m,n=m+2:=⟨n-2,by omega⟩
  rw[bNl,a55,aNc,bNe];rfl
 e:=aIb L hL (by omega)
 s x hx:=by
  obtain⟨n,rfl⟩: ∃m,n=m+3:=⟨n-3,by omega⟩
  have hv:=yW x;rw[show n+3=n+2+1 by omega,bNk]
  exact aNV (B:=20000) (λo=>Eh) (λo ho p=>aB4 o (by simp only[aEj];omega) p (L+7000) (n+2) (by omega) (by omega)) bBE (aHk L (by omega)) (by omega)
 o o ho:=by obtain⟨n,rfl⟩: ∃m,n=m+2:=⟨n-2,by omega⟩;exact aKU (by omega)
 q x y:=by obtain⟨n,rfl⟩: ∃m,n=m+3:=⟨n-3,by omega⟩;exact⟨_,aEZ⟩
 r f:=by obtain⟨n,rfl⟩: ∃m,n=m+2:=⟨n-2,by omega⟩;exact aAj
def bFQ{n:Nat}(hn:20110<=n)(x:f5)(hx:hJ x<=20000)(u:f5):ItO (cA (L+7000) n 71 [⟨.rc 3,x⟩,⟨.rc 3,u⟩]) (a5v x u):=by
 obtain⟨n,rfl⟩: ∃m,n=m+4:=⟨n-4,by omega⟩
 rw[c71];refine aRf (B:=20000) (aIb L hL (by omega)) (λx hx y=>?_) (λx=>aNS) (λx=>XB) hx
 rw[c93];exact aQW (bFO L hL (by omega)) hx
section
variable{w:au G.E}(hw:aT2 w)(hn:a5N w){env:kU}(he:aSc env)
include hw hn he
def a73{n:Nat}(mi:20300<=n){a:au f5}(hs:fA a<=20000)(ha:aUF w env a)(u:f5)(tu:Bp u)(hu:hJ u<=20000): ∃s:Int,cA (L+7000) n 35 [⟨.sl (.rc 3),a⟩,⟨.rc 3,u⟩]=aa [⟨.int .i64,s⟩]/\∀x,Dc w u env x->jK x s:=by
 obtain⟨n,rfl⟩: ∃m,n=m+62:=⟨n-62,by omega⟩
 have hv:=yW u;have hl:=mE a;have hm: ∀x∈a,hJ x<=20000:=λx hx=>by have:=fE hx;omega
 obtain⟨o,ho,h1⟩:=aRm hw he (c:=cA (L+7000) (n+61)) (L:=L+6996) (u:=u) tu (aKU (n:=n+59) (by omega)) XB (a6p u.name (L+7000) (n+60)) (λr hr bi=>by
  rw[show n+61=n+1+60 by omega,<-Su]
  exact a1c L (n+1) r hr bi)
 refine⟨a.foldl (aSE u) o,?_,λx hx=>RW hw hn he hx a o ha (ho x hx)⟩
 rw[show n+62=n+61+1 by omega,c35,show L+7000=L+6996+4 by omega,h1 a,AN,aMe]
 exact aKJ (by omega) (λx=>aAS) a 0 _ o rfl (by omega) λx hx=>bFQ L hL (by omega) x (hm x hx) u
def bH9{n:Nat}(mi:20400<=n){a:au f5}(hs:fA a<=20000)(ha:aUF w env a):bOR w env (cA (L+7000) n) a 20000 where
 isn o:=by obtain⟨n,rfl⟩: ∃m,n=m+1:=⟨n-1,by omega⟩;exact Eh
 tru b:=by obtain⟨n,rfl⟩: ∃m,n=m+1:=⟨n-1,by omega⟩;exact aW3
 isA x s k:=by obtain⟨n,rfl⟩: ∃m,n=m+1:=⟨n-1,by omega⟩;exact XB
 ad t:=a5h (by omega) (by omega) (by omega)
 ng t:=by obtain⟨n,rfl⟩: ∃m,n=m+3:=⟨n-3,by omega⟩;exact aAS
 eq x y:=by obtain⟨n,rfl⟩: ∃m,n=m+3:=⟨n-3,by omega⟩;exact aEZ
 te:=aIb L hL (by omega)
 rc f:=by obtain⟨n,rfl⟩: ∃m,n=m+2:=⟨n-2,by omega⟩;exact aAj
 ty u tu hu:=a73 L hL hw hn he (by omega) hs ha u tu hu
def aTD{a:au f5}(hs:fA a<=20000)(ha:aUF w env a): ∀(n:Nat) (t:f5),Bp t->hJ t<=20000->20500+hJ t<=n->aRr w env t (cA (L+7000) n 9 [⟨.sl (.rc 3),a⟩,⟨.rc 3,t⟩]):=by
 intro n;induction n with
 |zero=>intro t _ _ h;omega
 |succ n ih=>
  intro t tt ht mi;rw[c9];exact bH6 hw hn he (bH9 L hL hw hn he (by omega) hs ha) ha tt ht λp tp hp=>ih p tp (by omega) (by omega)
def bE3{n:Nat}(mi:60000<=n){a:au f5}(hs:fA a<=20000)(ha:aUF w env a):cA (L+7000) n 6 [⟨.sl (.rc 3),a⟩]=aa [⟨.bool,aj⟩]:=by
 have hl:=mE a;obtain⟨n,rfl⟩: ∃m,n=m+1:=⟨n-1,by omega⟩
 rw[c6];have go: ∀(l:au f5) (k m:Nat),a.drop k=l->l.length<m->Xg (cA (L+7000) n) (L+7000) m (a.length:Int) a a (k:Int)=aa [⟨.bool,aj⟩]:=by
  intro l;induction l with
  |nil=>
   intro k m e h3;obtain⟨m,rfl⟩: ∃m',m=m'+1:=⟨m-1,by simp at h3;omega⟩
   have e1:=cX e;have e3:ak ((k:Int)<(a.length:Int))=aj:=by simp;omega
   rw[Xg,aSg,e3,bS]
  |cons x l ih=>
   intro k m e h3;obtain⟨m,rfl⟩: ∃m',m=m'+1:=⟨m-1,by simp at h3;omega⟩
   obtain⟨a1,a2,a3⟩:=cZ e;have e3:ak ((k:Int)<(a.length:Int))=ah:=by simp;omega
   have e4:slc a (0:Int) (k:Int)=aa (a.take k):=by
    unfold slc;have h1:ak ((0:Int)<=(k:Int))=ah:=by simp
    have h2:ak ((k:Int)<=(a.length:Int))=ah:=by simp;omega
    rw[h1,h2];simp
   have hx:=ef a1;obtain⟨tx,v,q1,q2⟩:=ha x hx;have bu:fA (a.take k)<=20000:=by
    have:fA a=fA (a.take k)+fA (a.drop k):=by rw[<-tsz'_ap3,List.take_append_drop]
    omega
   obtain⟨d,d0,d1,d2⟩:=aTD L hL hw hn he bu (λz hz=>ha z (List.mem_of_mem_take hz)) n x tx (by have:=fE hx;omega) (by have:=fE hx;omega)
   have hd:ak (d=2)=aj:=bH λh=>by
    have:=d2 h v q1;rw[q2]at this;cases this
   rw[Xg,aSg,e3,bV,cH,a1,cR,e4,cR,d0,rC];simp only[hd,bS];rw[eV (by omega)]
   exact ih (k+1) m a3 (by simp at h3;omega)
 exact go a 0 _ rfl (by omega)
end
end
def aLE{c:cG}{L:Nat}{a b:au f5}(hl:a.length=b.length)(hb:a.length<1000000000): ∀(l r:au f5) (k m:Nat),a.drop k=l->b.drop k=r->l.length<m->
    (∀x,x∈l->∀y,c 83 (aSz x y)=aa (bb (ak (x=y))))->Bj c L m a b (k:Int)=aa (bb (ak (l=r))):=by
 intro l;induction l with
 |nil=>
  intro r k m h1 h2 h3 _;obtain⟨m,rfl⟩:=sK m 1 (by simp at h3;omega)
  have e1:=cX h1;have e2:r=[]:=by rw[<-h2];exact List.drop_eq_nil_of_le (by omega)
  have e3:ak ((k:Int)<(a.length:Int))=aj:=by simp;omega
  rw[Bj,Qj,e3,e2];simp only[bS,bN];rfl
 |cons x l ih=>
  intro r k m h1 h2 h3 hc;obtain⟨m,rfl⟩:=sK m 1 (by simp at h3;omega)
  obtain⟨a1,a2,a3⟩:=cZ h1;cases r with
  |nil=>have:=cX h2;omega
  |cons y r=>
   obtain⟨b1,b2,b3⟩:=cZ h2;have e3:ak ((k:Int)<(a.length:Int))=ah:=by simp;omega
   have fw:c 83 [yR 3 x,yR 3 y]=aa [yB (ak (x=y))]:=hc x (aH ..) y;rw[Bj,Qj,e3,bV,cH,cH,a1,b1,cR,cR,fw,eW,eV (by omega)]
   by_cases e:x=y
   .subst e;simp only[bN,bE,bS];rw[ih r (k+1) m a3 b3 (by simp at h3;omega) λz hz=>hc z (aG _ hz)]
    simp
   .simp only[e,decide_false,b9,bV];simp[e,bb]
def aLD{a b:au f5}{L n:Nat}(hw:a.length<1000000000)(hL:a.length<L)(hx: ∀x,x∈a->∀y,cA L n 83 (aSz x y)=aa (bb (ak (x=y)))):
    cA L (n+1) 111 (bOm a b)=aa (bb (ak (a=b))):=by
 show cA L (n+1) 111 [yS 3 _,yS 3 _]=_;rw[bNm];simp only[a56,YK];by_cases e6:(a.length:Int)=(b.length:Int)
 .simp only[e6,bN,bE,bS];exact aLE (c:=cA L n) (L:=L) (by omega) hw a b 0 L rfl rfl hL hx
 .have e7: ¬a=b:=λh=>e6 (by rw[h])
  simp[e6,e7,bW,bb]
def a6a: ∀(a:f5),aNv a->∀(b:f5) (L n:Nat),hJ a<=L->hJ a<=n->cA L n 83 (aSz a b)=aa (bb (ak (a=b))):=by
 intro a;induction a using tZ with
 |h k nm v l ih=>
  intro hw b L n hL hn;simp only[aNv,hJ]at hw hL hn;have hlen:=mE l;obtain⟨n,rfl⟩:=sK n 2 (by omega)
  cases b with|mk k' nm' v' l'=>
  show cA L (n+1+1) 83 [yR 3 _,yR 3 _]=_;rw[c83];have hv:cA L (n+1) 26 [yR 2 v,yR 2 v']=aa [yB (ak (v=v'))]:=aLz v (by simp only[aEj];omega) v' L (n+1) (by omega) (by omega)
  have hl:cA L (n+1) 111 [yS 3 l,yS 3 l']=aa [yB (ak (l=l'))]:=aLD (by omega) (by omega) λx hx y=>ih x hx (by have:=fE hx;simp only[aNv];omega) y L n (by have:=fE hx;omega) (by have:=fE hx;omega)
  simp only[bNA,aLX,aK2,aLW,G.T.kind,G.T.name,G.T.value,G.T.args,G.T.mk.injEq,hv,hl,eW];by_cases e1:k=k'
  .by_cases e2:nm=nm'
   .by_cases e3:v=v'
    .simp[e1,e2,e3,bW,bb]
    .simp[e1,e2,e3,bW,bb]
   .simp[e1,e2,bW,bb]
  .simp[e1,bW,bb]
def OG(acc:au f5)(t:f5):au f5:=if t∈acc then acc else acc++ [t]
mutual
def sub(acc:au f5):f5->au f5
 |⟨k,n,v,l⟩=>if k=3 then DK (OG acc ⟨k,n,v,l⟩) l else OG acc ⟨k,n,v,l⟩
def DK(acc:au f5):au f5->au f5
 |[]=>acc
 |x::l=>DK (sub acc x) l
end
def SD(acc:au f5)(t:f5):(OG acc t).length<=acc.length+1:=by
 unfold OG;split<;>simp
def SE{acc:au f5}{t:f5}{B:Nat}(h: ∀y∈acc,hJ y<=B)(ht:hJ t<=B): ∀y∈OG acc t,hJ y<=B:=by
 unfold OG;split
 .exact h
 .intro y hy;rcases oa.1 hy with hy|hy
  .exact h y hy
  .simp at hy;subst hy;exact ht
def sub'_len{l:au f5}(ih: ∀x∈l,∀acc,(sub acc x).length<=acc.length+hJ x): ∀acc,(DK acc l).length<=acc.length+fA l:=by
 induction l with
 |nil=>intro acc;simp[DK,fA]
 |cons x l ih2=>
  intro acc;simp only[DK,fA];have h1:=ih2 (λy hy=>ih y (aG _ hy)) (sub acc x)
  have h2:=ih x (aH ..) acc;omega
def K0: ∀(t:f5) (acc:au f5),(sub acc t).length<=acc.length+hJ t:=by
 intro t;induction t using tZ with
 |h k n v l ih=>
  intro acc;simp only[sub,hJ];have h1:=SD acc ⟨k,n,v,l⟩;split
  .have:=sub'_len ih (OG acc ⟨k,n,v,l⟩);omega
  .omega
def sub'_all{l:au f5}{B:Nat}(ih: ∀x∈l,∀acc,(∀y∈acc,hJ y<=B)->hJ x<=B->∀y∈sub acc x,hJ y<=B):(∀x∈l,hJ x<=B)->∀acc,(∀y∈acc,hJ y<=B)->∀y∈DK acc l,hJ y<=B:=by
 induction l with
 |nil=>intro _ acc h;exact h
 |cons x l ih2=>
  intro hl acc h;simp only[DK];exact ih2 (λy hy=>ih y (aG _ hy)) (λy hy=>hl y (aG _ hy)) _ (ih x (aH ..) acc h (hl x (aH ..)))
def K2{B:Nat}: ∀(t:f5) (acc:au f5),(∀y∈acc,hJ y<=B)->hJ t<=B->∀y∈sub acc t,hJ y<=B:=by
 intro t;induction t using tZ with
 |h k n v l ih=>
  intro acc h ht;simp only[sub];have h1:=SE h ht;simp only[hJ]at ht;split
  .exact sub'_all (λx hx acc h1 h2=>ih x hx acc h1 h2) (λx hx=>by have:=fE hx;omega) _ h1
  .exact h1
def a45{a:Nat}(h:a<6000000):aq ((a+1)*176) 1073741824=ah:=by
 apply Nat.ble_eq_true_of_le;omega
def aCI{c:cG}{L:Nat}{t:f5}{acc:au f5}(hb:acc.length<6000000): ∀(l:au f5) (k m:Nat),acc.drop k=l->l.length+1<m->
    (∀x,x∈l->c 83 (aSz x t)=aa (bb (ak (x=t))))->AG c L m (k:Int) aj acc t=KC c L (if t∈l then acc else acc++ [t]) t:=by
 intro l;induction l with
 |nil=>
  intro k m h1 h3 _;obtain⟨m,rfl⟩:=sK m 1 (by simp at h3;omega)
  have e1:=cX h1;have e3:ak ((k:Int)<(acc.length:Int))=aj:=by simp;omega
  rw[AG,SW,e3,bS,G7,SU];simp only[bS,b9,bV,aM,aX,Nat.zero_add,a45 hb,fN];simp
 |cons x l ih=>
  intro k m h1 h3 hc;obtain⟨m,rfl⟩:=sK m 2 (by simp at h3;omega)
  obtain⟨a1,a2,a3⟩:=cZ h1;have e3:ak ((k:Int)<(acc.length:Int))=ah:=by simp;omega
  have fw:c 83 [yR 3 x,yR 3 t]=aa [yB (ak (x=t))]:=hc x (aH ..);rw[AG,SW,e3,bV,G7,SU];simp only[b9,bV];rw[cH,a1,cR,fw,eW,eV (by omega)]
  by_cases e:x=t
  .subst e;simp only[bN];rw[AG,SW];have: ∀b:Bool,bW b (G7 c L (AG c L m) (!true) ((k+1:Nat):Int) ah acc x) (G7 c L (AG c L m) aj ((k+1:Nat):Int) ah acc x)=KC c L acc x:=by
    intro b;cases b<;>simp[bW,G7,SU]
   rw[this];simp
  .have e': ¬t=x:=λh=>e h.symm
   simp only[e,decide_false];rw[ih (k+1) (m+1) a3 (by simp at h3;omega) λz hz=>hc z (aG _ hz)]
   simp[e']
def aCH{c:cG}{L B M:Nat}{t:f5}(hb:t.args.length<1000000000): ∀(l acc:au f5) (k m:Nat),t.args.drop k=l->l.length<m->(∀y∈acc,hJ y<=B)->(∀y∈l,hJ y<=B)->acc.length+fA l<=M->
    (∀x,x∈l->∀acc:au f5,(∀y∈acc,hJ y<=B)->acc.length+hJ x<=M->c 58 (bJX acc x)=aa (aNI (sub acc x)))->GU c L m (k:Int) acc t=aa (aNI (DK acc l)):=by
 intro l;induction l with
 |nil=>
  intro acc k m h1 h3 _ _ _ _;obtain⟨m,rfl⟩:=sK m 1 (by simp at h3;omega)
  have e1:=cX h1;have e3:ak ((k:Int)<(t.args.length:Int))=aj:=by simp;omega
  rw[GU,aCg,e3,bS];rfl
 |cons x l ih=>
  intro acc k m h1 h3 h4 h5 h6 hc;obtain⟨m,rfl⟩:=sK m 1 (by simp at h3;omega)
  obtain⟨a1,a2,a3⟩:=cZ h1;simp only[fA]at h6;have e3:ak ((k:Int)<(t.args.length:Int))=ah:=by simp;omega
  have hx:=h5 x (aH ..);have fw:c 58 [yS 3 acc,yR 3 x]=aa [yS 3 (sub acc x)]:=hc x (aH ..) acc h4 (by omega)
  rw[GU,aCg,e3,bV,cH,a1,cR,fw,aGN,eV (by omega)]
  exact ih (sub acc x) (k+1) m a3 (by simp at h3;omega) (K2 x acc h4 hx) (λy hy=>h5 y (aG _ hy)) (by have:=K0 x acc;omega) λz hz=>hc z (aG _ hz)
def aXe{B M:Nat}(hB:B<1000000000)(hM:M<6000000): ∀(t:f5) (acc:au f5) (L n:Nat),(∀y∈acc,hJ y<=B)->hJ t<=B->acc.length+hJ t<=M->B+M+2<=L->B+hJ t<=n->
    cA L n 58 (bJX acc t)=aa (aNI (sub acc t)):=by
 intro t;induction t using tZ with
 |h k nm v l ih=>
  intro acc L n h1 h2 h3 hL hn;have h2':=h2;simp only[hJ]at h2 h3 hn;have hlen:=mE l;obtain⟨n,rfl⟩:=sK n 1 (by omega)
  show cA L (n+1) 58 [yS 3 _,yR 3 _]=_;rw[c58,bNK,aMc];have:=aCI (c:=cA L n) (L:=L) (t:=⟨k,nm,v,l⟩) (acc:=acc) (by omega) acc 0 L rfl (by omega) λx hx=>a6a x (by have:=h1 x hx;simp only[aNv];omega) _ L n (by have:=h1 x hx;omega) (by have:=h1 x hx;omega)
  refine this.trans ?_;change KC _ L (OG acc ⟨k,nm,v,l⟩) _=_;rw[KC,aMb,sub];have hl:=SD acc ⟨k,nm,v,l⟩;by_cases e:k=3
  .simp only[e,G.T.kind,bN,bV,bQ];subst e;exact aCH (B:=B) (M:=M) (t:=⟨3,nm,v,l⟩) (by show l.length<_;omega) l (OG acc ⟨3,nm,v,l⟩) 0 L rfl (by omega) (SE h1 h2') (λy hy=>by have:=fE hy;omega) (by omega)
    λx hx acc2 q1 q2=>ih x hx acc2 L n q1 (by have:=fE hx;omega) q2 hL (by have:=fE hx;omega)
  .simp only[e,G.T.kind,decide_false,bS,bP];rfl
def aKO{c:cG}{L B M:Nat}{a:au f5}(hb:a.length<1000000000): ∀(l acc:au f5) (k m:Nat),a.drop k=l->l.length<m->(∀y∈acc,hJ y<=B)->(∀y∈l,hJ y<=B)->acc.length+fA l<=M->
    (∀x,x∈l->∀acc:au f5,(∀y∈acc,hJ y<=B)->acc.length+hJ x<=M->c 58 (bJX acc x)=aa (aNI (sub acc x)))->GY c L m a (k:Int) acc=aa (aNI (DK acc l)):=by
 intro l;induction l with
 |nil=>
  intro acc k m h1 h3 _ _ _ _;obtain⟨m,rfl⟩:=sK m 1 (by simp at h3;omega)
  have e1:=cX h1;have e3:ak ((k:Int)<(a.length:Int))=aj:=by simp;omega
  rw[GY,aCp,e3,bS];rfl
 |cons x l ih=>
  intro acc k m h1 h3 h4 h5 h6 hc;obtain⟨m,rfl⟩:=sK m 1 (by simp at h3;omega)
  obtain⟨a1,a2,a3⟩:=cZ h1;simp only[fA]at h6;have e3:ak ((k:Int)<(a.length:Int))=ah:=by simp;omega
  have hx:=h5 x (aH ..);have fw:c 58 [yS 3 acc,yR 3 x]=aa [yS 3 (sub acc x)]:=hc x (aH ..) acc h4 (by omega)
  rw[GY,aCp,e3,bV,cH,a1,cR,fw,aGN,eV (by omega)]
  exact ih (sub acc x) (k+1) m a3 (by simp at h3;omega) (K2 x acc h4 hx) (λy hy=>h5 y (aG _ hy)) (by have:=K0 x acc;omega) λz hz=>hc z (aG _ hz)
def a5K{a:au f5}{L n:Nat}(hw:fA a<6000000)(hL:2*fA a+2<=L)(hn:2*fA a<n):cA L n 22 (aNI a)=aa (aNI (DK [] a)):=by
 have hlen:=mE a;obtain⟨n,rfl⟩:=sK n 1 (by omega)
 show cA L (n+1) 22 [yS 3 _]=_;rw[c22,bNS,aMn];exact aKO (B:=fA a) (M:=fA a) (by omega) a [] 0 L rfl (by omega) (λy hy=>by cases hy) (λy hy=>fE hy) (by simp) λx hx acc q1 q2=>
  aXe (by omega) hw x acc L n q1 (fE hx) q2 (by omega) (by have:=fE hx;omega)
def aCs:wS ⟨cV,[105,110,116,101,103,101,114,112]⟩=0/\wS ⟨cV,[115,121,109,98,111,108,112]⟩=0:=⟨rfl,rfl⟩
section
variable{c:cG}(h:Lib c)
include h
def a5O{L:Nat}{E:au G.E}{A B:Nat}(hv: ∀s,dN s->TSR (c 18 [⟨.rc 0,s⟩]) 6)
    (h2: ∀s,dN s->TSR (c 23 [⟨.sl (.rc 15),E⟩,⟨.int .i64,(1:Int)⟩,⟨.rc 0,s⟩]) A) (h1: ∀s,dN s->TSR (c 23 [⟨.sl (.rc 15),E⟩,⟨.int .i64,(0:Int)⟩,⟨.rc 0,s⟩]) B) {s:G.Z} (hs:dN s):
    TSR (bHk c L E 1 s) (A+B+30):=by
 obtain⟨t,s2,e,g1,g2⟩:=h2 s hs;obtain⟨r,s3,e2,k1,k2,k3⟩:=h.nx s2 8 g2 (by omega)
 rw[bHk,aMu,e,lH,e2,lI];have key: ∀(a:Bool) (b:f5),TSR (aB3 c L a r E 1 s3 t b) (A+B+30):=λa b=>by
  rw[aB3,aMt];cases a with
  |true=>
   rw[bV,h.l,gY];exact .mk (by simp only[Aw,fA,KN,aCs];omega) k3
  |false=>
   rw[bS];cases ak (r=(2:Int))with
   |true=>
    obtain⟨t2,s4,e,q1,q2⟩:=h1 s3 k3;rw[bV];show TSR (uP (c 23 [⟨.sl (.rc 15),E⟩,⟨.int .i64,(0:Int)⟩,⟨.rc 0,s3⟩]) _) _;rw[e,lH];simp only[];rw[h.l,gY];simp only[];rw[h.l,gY];exact .mk (by simp only[Aw,fA,KN,aCs];omega) q2
   |false=>
    rw[bS];cases ak (r=(3:Int))with
    |true=>
     obtain⟨t2,s4,e,q1,q2⟩:=hv s3 k3;rw[bV,e,lH];simp only[];rw[h.l,gY];simp only[];rw[h.l,gY];exact .mk (by simp only[Aw,fA,KN,aCs];omega) q2
    |false=>
     rw[bS];cases ak (r=(4:Int))with
     |true=>
      obtain⟨t2,s4,e,q1,q2⟩:=h1 s3 k3;rw[bV];show TSR (uP (c 23 [⟨.sl (.rc 15),E⟩,⟨.int .i64,(0:Int)⟩,⟨.rc 0,s3⟩]) _) _;rw[e,lH];simp only[];rw[h.l,gY];exact .mk (by simp only[Aw,fA,KN,aCs];omega) q2
     |false=>
      rw[bS];cases ak (r=(5:Int))with
      |true=>
       obtain⟨t1,s4,e,q1,q2⟩:=hv s3 k3;rw[bV,e,lH];obtain⟨t2,s5,e,q3,q4⟩:=h1 s4 q2;show TSR (uP (c 23 [⟨.sl (.rc 15),E⟩,⟨.int .i64,(0:Int)⟩,⟨.rc 0,s4⟩]) _) _;rw[e,lH];simp only[];rw[h.l,gY];simp only[];rw[h.l,gY];exact .mk (by simp only[Aw,fA,KN,aCs];omega) q4
      |false=>exact .mk (by omega) k3
 cases ak (r=(0:Int))with
 |true=>exact key _ _
 |false=>exact key _ _
end
def aTk(L:Nat){E:au G.E}(hE:a5H E){n:Nat}(h:66<=n)(s:G.Z)(hs:dN s):TSR (cA (L+7000) n 17 [⟨.sl (.rc 15),E⟩,⟨.int .i64,(1:Int)⟩,⟨.rc 0,s⟩]) 855:=by
 obtain⟨m,rfl⟩: ∃m,n=m+1:=⟨n-1,by omega⟩
 rw[c17];exact a5O (vQ L (by omega)) (aCz L (by omega)) (a8a L hE (by omega)) (a8b L hE (by omega)) hs
section
variable{c:cG}(h:Lib c)
include h
def bGZ(x:Rt)(B:Nat):Prop:= ∃t:f5,x=aa [⟨.rc 3,t⟩]/\hJ t<=B
set_option linter.unusedSectionVars false in
theorem aSd{L:Nat}{E:au G.E}(hl: ∀s,dN s->TSR (c 17 [⟨.sl (.rc 15),E⟩,⟨.int .i64,(1:Int)⟩,⟨.rc 0,s⟩]) 855)(hv: ∀s,dN s->TSR (c 18 [⟨.rc 0,s⟩]) 6)
    (ho: ∀s,dN s->OSR (c 19 [⟨.int .i64,(0:Int)⟩,⟨.rc 0,s⟩]) 20) (hN:bGZ (c 21 [⟨.int .i64,(0:Int)⟩]) 24) {r:Nat} (hr:r<=4):
    ∀(j k m:Nat) (a:au f5) (s:G.Z),r=k+j->fA a<=856*k->j<m->dN s->bHm (SG c L m (r:Int) E 1 (k:Int) a s) 3424:=by
 intro j;induction j with
 |zero=>
  intro k m a s h1 h4 h5 hs;obtain⟨m,rfl⟩: ∃m',m=m'+1:=⟨m-1,by omega⟩
  have e3:ak ((k:Int)<(r:Int))=aj:=by simp;omega
  rw[SG,aSk,e3,bS];exact⟨a,s,rfl,by omega,hs⟩
 |succ j ih=>
  intro k m a s h1 h4 h5 hs;obtain⟨m,rfl⟩: ∃m',m=m'+1:=⟨m-1,by omega⟩
  have e3:ak ((k:Int)<(r:Int))=ah:=by simp;omega
  obtain⟨t,s',e,g1,g2⟩:=hl s hs;obtain⟨q,s3,e5,g3,g4,g5⟩:=h.nx s' 6 g2 (by omega)
  have fin: ∀(u:f5) (s4:G.Z),hJ u<=855->dN s4->bHm (aRx c L (SG c L m) a (k:Int) (r:Int) E 1 s4 u) 3424:=λu s4 k1 k2=>by
   rw[aRx,a6h];have hla:=mE a;rw[show aq ((am a+am ([u]:au f5))*176) 1073741824=ah from Nat.ble_eq_true_of_le (by simp only[aM,aX];omega),fN,eV (by omega)]
   exact ih (k+1) m (a++ [u]) s4 (by omega) (by rw[tsz'_app];omega) (by omega) k2
  rw[SG,aSk,e3,bV,e,lH];simp only[];rw[e5,lI];simp only[];cases ak (q=(0:Int))with
  |true=>
   obtain⟨v,s4,e6,k1,k2⟩:=hv s3 g5;rw[bV,e6,lH];simp only[];rw[h.l,gY];exact fin _ _ (by simp only[Aw,fA,KN];omega) k2
  |false=>
   rw[bS];cases ak (q=(1:Int))with
   |true=>
    obtain⟨v,s4,e6,k1,k2⟩:=hv s3 g5;obtain⟨o,s5,e7,k3,k4⟩:=ho s4 k2;rw[bV,e6,lH];simp only[];rw[e7,uO];simp only[];rw[h.k,gY];simp only[];rw[h.l,gY];exact fin _ _ (by simp only[Aw,fA,ZM,KN];omega) k4
   |false=>
    rw[bS];cases ak (q=(2:Int))with
    |true=>
     obtain⟨v,s4,e6,k1,k2⟩:=hv s3 g5;obtain⟨z,e7,k3⟩:=hN;rw[bV,e7,gY];simp only[];rw[e6,lH];simp only[];rw[h.l,gY];exact fin _ _ (by simp only[Aw,fA,KN];omega) k2
    |false=>
     rw[bS];exact fin _ _ (by omega) g5
def bGw{L:Nat}{E:au G.E}(hL:10<=L)(hl: ∀s,dN s->TSR (c 17 [⟨.sl (.rc 15),E⟩,⟨.int .i64,(1:Int)⟩,⟨.rc 0,s⟩]) 855)(hv: ∀s,dN s->TSR (c 18 [⟨.rc 0,s⟩]) 6)
    (ho: ∀s,dN s->OSR (c 19 [⟨.int .i64,(0:Int)⟩,⟨.rc 0,s⟩]) 20) (hN:bGZ (c 21 [⟨.int .i64,(0:Int)⟩]) 24) {s:G.Z} (hs:dN s):bHm (F3 c L E 4 1 s) 3424:=by
 obtain⟨r,s',e,g1,g2,g3⟩:=h.nx s 5 hs (by omega)
 rw[F3,a6i,show IntKind.i64.wrap ((4:Int)+1)=5 from rfl,e,lI]
 obtain⟨m,rfl⟩: ∃m:Nat,r=(m:Int):=⟨r.toNat,by omega⟩
 exact aSd h hl hv ho hN (by omega) m 0 L [] s' (by omega) (b7 _) (by omega) g3
end
section
variable(L:Nat){E:au G.E}(hE:a5H E)
include hE
omit hE in
def bCh{n:Nat}(h:62<=n):bGZ (cA (L+7000) n 21 [⟨.int .i64,(0:Int)⟩]) 24:=by
 obtain⟨m,rfl⟩: ∃m,n=m+1:=⟨n-1,by omega⟩
 have hl:=vQ L (n:=m) (by omega)
 obtain⟨o,e,k⟩:=hl.i0;have e':cA (L+7000) m 52 [⟨.int .i64,(0:Int)⟩]=aa [⟨.rc 2,o⟩]:=e;rw[bOP,bHi,aVi,e',vP];simp only[];rw[hl.k,gY];exact⟨_,rfl,by rw[ZM];omega⟩
def bMZ{n:Nat}(h:70<=n)(s:G.Z)(hs:dN s):bHm (cA (L+7000) n 3 [⟨.sl (.rc 15),E⟩,⟨.int .i64,(4:Int)⟩,⟨.int .i64,(1:Int)⟩,⟨.rc 0,s⟩]) 3424:=by
 obtain⟨m,rfl⟩: ∃m,n=m+1:=⟨n-1,by omega⟩
 rw[c3];exact bGw (vQ L (by omega)) (by omega) (aTk L hE (by omega)) (aCz L (by omega)) (bBX L (by omega)) (bCh L (by omega)) hs
end
section
variable{c:cG}(h:Lib c)
include h
def bOT(x:Rt):Prop:= ∃(l:au f5) (s:G.Z),x=aa [⟨.sl (.rc 3),l⟩,⟨.rc 0,s⟩]/\(∀t∈l,hJ t<=20000)/\l.length<1000000
def bGe{L:Nat}{E:au G.E}{a b:au f5}(hb:b.length<900000)(hbs: ∀t∈b,hJ t<=20000)(hS:c 22 (aNI a)=aa (aNI b))(hv: ∀s,dN s->TSR (c 18 [⟨.rc 0,s⟩]) 6)
    (h2: ∀s,dN s->TSR (c 23 [⟨.sl (.rc 15),E⟩,⟨.int .i64,(2:Int)⟩,⟨.rc 0,s⟩]) 1872) (h1: ∀s,dN s->TSR (c 17 [⟨.sl (.rc 15),E⟩,⟨.int .i64,(1:Int)⟩,⟨.rc 0,s⟩]) 855)
    (hN:bGZ (c 21 [⟨.int .i64,(0:Int)⟩]) 24) {s:G.Z} (hs:dN s):bOT (F7 c L E a s):=by
 obtain⟨v,s1,e1,k1,q1⟩:=hv s hs;obtain⟨t,s2,e2,k2,q2⟩:=h2 s1 q1;obtain⟨u,s3,e3,k3,q3⟩:=h1 s2 q2;obtain⟨z,e4,k4⟩:=hN;have hS':c 22 [⟨.sl (.rc 3),a⟩]=aa [⟨.sl (.rc 3),b⟩]:=hS;rw[F7,bGB,hS',aGN];simp only[];rw[e1,lH];simp only[];rw[e2,lH];simp only[];rw[e3,lH];simp only[];rw[h.l,gY];simp only[];rw[h.l,gY];simp only[];rw[h.l,gY];simp only[];rw[h.l,gY];simp only[];rw[e4,gY];simp only[];rw[h.l,gY];simp only[];rw[show∀x1 x2 x3 x4 x5 x6 x7:f5,aq ((am b+am ([x1,x2,x3,x4,x5,x6,x7]:au f5))*176) 1073741824=ah from λ_ _ _ _ _ _ _=>Nat.ble_eq_true_of_le (by simp only[aM,aX];omega),fN]
 refine⟨_,_,rfl,λx hx=>?_,by simp only[aZ,aM,aX];omega⟩
 rcases oa.1 hx with hx|hx
 .exact hbs x hx
 .simp only[List.mem_cons,List.not_mem_nil,or_false]at hx;rcases hx with rfl|rfl|rfl|rfl|rfl|rfl|rfl
  all_goals (try simp only[Aw,fA,ZM,KN,aCs])
  all_goals omega
end
section
variable(L:Nat){E:au G.E}(hE:a5H E)
include hE
def bJl(hL:30000<=L){n:Nat}(h:30000<=n)(a:au f5)(ha:fA a<=3424)(s:G.Z)(hs:dN s):bOT (cA (L+7000) n 7 [⟨.sl (.rc 15),E⟩,⟨.sl (.rc 3),a⟩,⟨.rc 0,s⟩]):=by
 obtain⟨m,rfl⟩: ∃m,n=m+1:=⟨n-1,by omega⟩
 rw[c7];have hlen:(DK [] a).length<=fA a:=by
  have:=sub'_len (l:=a) (λx _ acc=>K0 x acc) []
  simpa using this
 exact bGe (vQ L (by omega)) (b:=DK [] a) (by omega) (sub'_all (λx _ acc=>K2 x acc) (λx hx=>by have:=fE hx;omega) [] (λy hy=>by cases hy)) (a5K (by omega) (by omega) (by omega)) (aCz L (by omega)) (bH0 L hE (by omega)) (aTk L hE (by omega)) (bCh L (by omega)) hs
end
def E5{L n i:Nat}{d out:nO}(h:cA L n i d=aa out):Rn i d out:=⟨max L n,λL' n' h1 h2=>aIG (by omega) n n' (by omega) i d _ h⟩
def aA9{w:au G.E}{f:G.Y}{g:G.F}(h:UC w f=aa g): ∃e∈w,g∈e.functions:=by
 unfold UC at h;cases e:aO8 f w 0 with
 |none=>rw[e]at h;cases h
 |some p=>
  obtain⟨i,k⟩:=p;rw[e]at h;obtain⟨_,x,y,h1,h2⟩:=Uk e;rw[Nat.sub_zero]at h1
  dsimp only at h
  rw[h1,aL,h2]at h;cases h;refine⟨x,ef h1,?_⟩;have hm:=ef h2;unfold UE at hm;split at hm
  .exact hm
  .cases hm
def woC{E:au G.E}(h:a6v E=ah):aT2 E:=by
 simp only[a6v,aD3,aC,bK]at h;have len:E.length<=1000:=bR h.1.2;refine⟨⟨⟨len,λe he=>bR (h.2 e he).1⟩,λf g hg=>?_⟩,λf g hg=>?_⟩
 .obtain⟨e,he,hm⟩:=aA9 hg;have:=(h.2 e he).2 g hm;exact⟨this.2.1,by have:=bR this.1;omega⟩
 .obtain⟨e,he,hm⟩:=aA9 hg;exact((h.2 e he).2 g hm).2.2
def noW{E:au G.E}{a x:T3}{R:au G.E}(h:E=aDr (K6 0) a::aDr (K6 1) x::R)(hb:CX (K6 0).1 a.2.1=ah):a5N E:=by
 subst h;have hs:(K6 0).1=Ue:=by kernel_rfl
 simp only[CX,a43,aC]at hb;have hb:=hb.1.2;rw[hs,bG rfl,bE,Bool.false_or]at hb;exact⟨⟨⟨cV,Ue⟩,[⟨cV,[112]⟩],1,a.1,a.2.1,a.2.2⟩,by kernel_rfl,rfl,hb⟩
def aIT(L n:Nat):cA L (n+1) 1 []=aa [⟨.bool,ah⟩]:=
 aIC (x:=bOp) (T:=tpI) (y:= .t) (by kernel_rfl) (by kernel_rfl) (by kernel_rfl) L n [] (by kernel_rfl)
section
variable{w:au G.E}(hw:aT2 w)(hn:a5N w){env:kU}(he:aSc env)
include hw hn he
def aNE{a l:au f5}(hs:fA a<=20000)(ha:aUF w env a)(hl: ∀t∈l,hJ t<=20000)(hll:l.length<1000000): ∀(j k:Nat),40=k+j->
    ∃α,∀L n m,α<=L->α<=n->α<=m->Bn (cA L n) L m w env a l (k:Int)=aa [⟨.bool,ah⟩]:=by
 intro j;induction j with
 |zero=>
  intro k e;refine⟨1,λL n m _ _ g3=>?_⟩
  obtain⟨m,rfl⟩: ∃m',m=m'+1:=⟨m-1,by omega⟩
  have e4:ak ((k:Int)<40)=aj:=by simp;omega
  rw[Bn,aNg,e4];cases ak ((k:Int)<(l.length:Int))with
  |true=>rw[bV];rfl
  |false=>rw[bS];rfl
 |succ j ih=>
  intro k e;by_cases hk:k<l.length
  .obtain⟨N2,hN2⟩:=ih (k+1) (by omega)
   obtain⟨u,hu⟩: ∃u,l[k]?=aa u:=⟨l[k],aV hk⟩;have hus:=hl u (ef hu);have tu:=aKK (t:=u) (by omega)
   obtain⟨N1,hN1⟩:=aAb hw.v he.v he.l tu.1;obtain⟨d,d0,d1,d2⟩:=aTD 30000 (by omega) hw hn he hs ha 50000 u tu hus (by omega)
   obtain⟨N3,hN3⟩:=E5 d0;refine⟨max (max N1 N2) N3+1,λL n m g1 g2 g3=>?_⟩
   obtain⟨m,rfl⟩: ∃m',m=m'+1:=⟨m-1,by omega⟩
   have e4:ak ((k:Int)<40)=ah:=by simp;omega
   have e5:ak ((k:Int)<(l.length:Int))=ah:=by simp;omega
   have c1:cA L n 8 [⟨.sl (.rc 15),w⟩,⟨.rc 3,u⟩,⟨.sl (.rc 17),env⟩]=aa [⟨.bool,YW w u env⟩,⟨.bool,aDd w u env⟩]:=hN1 L n (by omega) (by omega)
   have c3:cA L n 9 [⟨.sl (.rc 3),a⟩,⟨.rc 3,u⟩]=aa [⟨.int .i64,d⟩]:=hN3 L n (by omega) (by omega)
   have c2:=hN2 L n m (by omega) (by omega) (by omega)
   have bad:aDd w u env=ah->(d=1->YW w u env=ah)/\(d=2->YW w u env=aj):=λho=>by
    have hv:=aTd ho;rw[aEv hw.v he.v he.l tu.1 ho];exact⟨λh=>d1 h _ hv,λh=>d2 h _ hv⟩
   have k5:IU (cA L n) L (Bn (cA L n) L m) aj (k:Int) w env a l=aa [⟨.bool,ah⟩]:=by
    rw[IU,a6m,bS,eV (by omega)];exact c2
   rw[Bn,aNg,e5,bV,e4,a5Q,a6n,bV,cH,hu,cR,c1];show ob (aa u) (λv2=>iO (cA L n 9 [⟨.sl (.rc 3),a⟩,⟨.rc 3,v2⟩]) λ(r3:Int×Unit)=>
    bW (aDd w u env) (bW (ak (r3.1=(1:Int))) (bW (!YW w u env) (IU (cA L n) L (Bn (cA L n) L m) ah (k:Int) w env a l) (bW (ak (r3.1=(2:Int))) (IU (cA L n) L (Bn (cA L n) L m) (YW w u env) (k:Int) w env a l) (IU (cA L n) L (Bn (cA L n) L m) aj (k:Int) w env a l)))
     (bW (ak (r3.1=(2:Int))) (IU (cA L n) L (Bn (cA L n) L m) (YW w u env) (k:Int) w env a l) (IU (cA L n) L (Bn (cA L n) L m) aj (k:Int) w env a l))) (IU (cA L n) L (Bn (cA L n) L m) aj (k:Int) w env a l))=_
   rw[cR,c3,rC];simp only[];cases ho:aDd w u env with
   |false=>rw[bS];exact k5
   |true=>
    rw[bV];have bad:=bad ho;by_cases f1:d=1
    .have:=bad.1 f1;rw[bG f1,bV,this,bE,bS,bH (by omega),bS];exact k5
    .rw[bH f1,bS];by_cases f2:d=2
     .have:=bad.2 f2;rw[bG f2,bV,this];exact k5
     .rw[bH f2,bS];exact k5
  .refine⟨1,λL n m _ _ g3=>?_⟩
   obtain⟨m,rfl⟩: ∃m',m=m'+1:=⟨m-1,by omega⟩
   have e4:ak ((k:Int)<40)=ah:=by simp;omega
   have e5:ak ((k:Int)<(l.length:Int))=aj:=by simp;omega
   rw[Bn,aNg,e5,bS];rfl
end
def a9V{a b:au Int}(ha: ∀x∈a,0<=x/\x<256)(hb: ∀x∈b,0<=x/\x<256):Rn 0 [⟨.sl (.int .u8),a⟩,⟨.sl (.int .u8),b⟩] [⟨.bool,ah⟩]:=by
 refine eC (λL n=>c0 a b L n) ?_
 simp only[F0,a6o];refine lc (E5 (aIT 0 0)) rfl ?_;simp only[bE,bS];have tt:Lp (λL n=>aLr (cA L n) L ah a b) [⟨.bool,ah⟩]:=by
  simp only[aLr,aSm,bV];exact lr rfl
 cases h1:ak ((100:Int)<(am a:Int))with
 |true=>simp only[bV];exact tt
 |false=>
  simp only[bS];cases h2:ak ((40:Int)<(am b:Int))with
  |true=>exact tt
  |false=>
   have h1:=bM h1;have h2:=bM h2;obtain⟨E,w1,w2,xa,xx,R,w3,w4⟩:=aEh 0 0;have hW:=woC w2;have hN:=noW w3 w4;obtain⟨cl,s,f1,f2,f3⟩:=bMZ 30000 (aET w2) (n:=70) (by omega) ⟨a,0⟩ ⟨ha,Int.le_refl _,by show(0:Int)<=(a.length:Int);omega,by show a.length<=100;omega⟩
   obtain⟨env,s',e1,e2,e3⟩:=bEO 0 (n:=64) (by omega) ⟨b,0⟩ ⟨hb,Int.le_refl _,by show(0:Int)<=(b.length:Int);omega,by show b.length<=100;omega⟩
   have hE:=a4r e2 e3;obtain⟨l,s2,g1,g2⟩:=bJl 30000 (aET w2) (by omega) (n:=30000) (by omega) cl f2 s f3
   have hlen:=mE cl;have tcl: ∀t∈cl,Bp t:=λt ht=>aKK (by have:=fE ht;omega)
   have rH:=aE9 hW.v hE.v hE.l (p:=cl) (by omega) λt ht=>(tcl t ht).1
   have J2:Lp (λL n=>aLq (cA L n) L ah E env cl s) [⟨.bool,ah⟩]:=by
    simp only[aLq,aSl,bV];exact lr rfl
   simp only[aLr,aSm,bS];refine lc (E5 w1) rfl (lc (E5 f1) rfl (lc (E5 e1) rfl (lc rH rfl ?_)))
   dsimp only
   cases q1:(aD6 E env cl ah).1 with
   |false=>simp only[b9,bV];exact J2
   |true=>
    cases q2:(aD6 E env cl ah).2 with
    |false=>simp only[bE,b9,bS];exact J2
    |true=>
     have hd:=aHK hW.v hE.v hE.l (p:=cl) (a:=ah) (λt ht=>(tcl t ht).1) q2
     have hC:aUF E env cl:=λt ht=>by
      refine⟨tcl t ht,_,aTd (hd.1 t ht),?_⟩;have:=hd.2;rw[q1,Bool.true_and]at this;exact bK.1 this.symm t ht
     have c1:=bE3 30000 (by omega) hW hN hE (n:=60000) (by omega) (a:=cl) (by omega) hC
     simp only[bE,bS,aLq,aSl];refine lc (E5 c1) rfl ?_;simp only[bS];refine lc (E5 g1) rfl ?_;have ll:l.length<1000000:=g2.2;obtain⟨α,hN⟩:=aNE hW hN hE (a:=cl) (l:=l) (by omega) hC g2.1 ll 40 0 rfl
     exact⟨α,λL n k1 k2=>hN L n L k1 k2 k1⟩
end
end Go.TV
