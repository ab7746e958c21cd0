import Derived.Test.YtjapdpcodgaoaaaGreatDoorKo
open Option renaming some->aa
open Bool renaming true->ah
open Nat renaming ble->aq,ble_eq->d8
set_option linter.all false
namespace Go.TV
open Go.AI Go.PI Go.Proofs
set_option maxRecDepth 20000
def aIK(L M k:Nat):cD L M k=cA (L+7000) (M+99+k):=Mn (λn i d r h=>by
 unfold Kd at h;cases hb:Nat.beq i 38 with
 |false=>rw[hb]at h;cases h
 |true=>
  rw[hb,aI]at h;split at h
  .rw[aE hb];have:=aBm L (M+n);rw[show M+n+100=M+99+n+1 by omega]at this
   rw[this];exact h
  .cases h) k
def aD3(e:G.E):Bool:=aq e.functions.length 1000&&e.functions.all λf=>aq f.params.length 3&&(tO f.body&&Te f.body)
def a6v(E:au G.E):Bool:=aq 1 E.length&&aq E.length 1000&&E.all aD3
def aIf(X:Nat->T3): ∀(l:au Sk) (j:Nat),(eF X l j).length=l.length
 |[],_=>rfl
 |s::l,j=>by rw[eF,aM,aM,aIf X l (j+1)]
def Sc{X μ:Nat->T3}: ∀(l:au Sk) (j:Nat),(∀i,i<j+l.length->X i=μ i)->eF X l j=eF μ l j
 |[],_,_=>rfl
 |s::l,j,h=>by
  rw[eF,eF,h j (by rw[aM];omega),Sc l (j+1) (λi hi=>h i (by rw[aM];omega))]
def aIg(X:Nat->T3)(s:Sk): ∀(l:au Sk) (j:Nat),eF X (l++ [s]) j=eF X l j++ [aDr s (X (j+l.length))]
 |[],j=>rfl
 |t::l,j=>by
  rw[aY,eF,aIg X s l (j+1),eF,aY,aM,show j+1+l.length=j+(l.length+1) by omega]
def aEW:skL.length=28:=by kernel_rfl
def EG(k:Nat)(h:k<=28):(skL.take k).length=k:=by rw[List.length_take,aEW];omega
def UF(X:Nat->T3)(k:Nat)(h:k<=28):(eL X k).length=k:=by rw[eL,aIf,EG k h]
def aIe{X μ:Nat->T3}(k:Nat)(hk:k<=28)(h: ∀j,j<k->X j=μ j):eL X k=eL μ k:=Sc _ 0 λi hi=>h i (by rw[EG k hk]at hi;omega)
def aPL(X:Nat->T3)(k:Nat)(h:k<28):eL X (k+1)=eL X k++ [aDr (K6 k) (X k)]:=by
 have h1:k<skL.length:=by rw[aEW];exact h
 have e:skL.take (k+1)=skL.take k++ [K6 k]:=by
  rw[List.take_add_one,K6,aV h1];rfl
 rw[eL,e,aIg,EG k (by omega),Nat.zero_add];rfl
def a8l:(skL.all λs=>aq s.2.length 3)=ah:=by kernel_rfl
def bEZ{s:Sk}(h:aq s.2.length 3=ah){x:T3}(hx:CX s.1 x.2.1=ah):aD3 (aDr s x)=ah:=by
 simp only[CX,a43,bFL,aC]at hx;show(aq 1 1000&&([_]:au G.F).all _)=ah;simp only[aP,List.all_nil,bF,List.length_map,h,hx.1.1.1,hx.2];rfl
def aTC(X:Nat->T3): ∀(l:au Sk) (j:Nat),(∀s∈l,aq s.2.length 3=ah)->(∀i s,l[i]?=aa s->CX s.1 (X (j+i)).2.1=ah)->(eF X l j).all aD3=ah
 |[],_,_,_=>rfl
 |s::l,j,h,hx=>by
  rw[eF,aP,bEZ (h s (aH ..)) (by have:=hx 0 s rfl;rwa [Nat.add_zero]at this),aTC X l (j+1) (λt ht=>h t (aG _ ht)) (λi t ht=>by
   have:=hx (i+1) t (by simpa using ht)
   rwa [show j+(i+1)=j+1+i by omega]at this)];rfl
def bE0{X:Nat->T3}{k:Nat}(hx: ∀i,i<k->CX (K6 i).1 (X i).2.1=ah):(eL X k).all aD3=ah:=aTC X _ 0 (λs hs=>bK.1 a8l s (List.mem_of_mem_take hs)) (λi s h=>by
 rw[List.getElem?_take]at h;split at h
 .rename_i hi;have:=hx i hi;unfold K6 at this;rw[h]at this
  rwa [Nat.zero_add]
 .cases h)
def aOS{W:Type}{a:G.E}{K:G.E×Unit->f9 W}:gO (D:=U0.D) [.rc 15] (aa [yR 15 a]) K=K (a,()):=rfl
def aOM{W:Type}{a:G.Y}{K:G.Y×Unit->f9 W}:qF (aa [yR 1 a]) K=K (a,()):=rfl
def aON{W:Type}{a:au G.Y}{K:au G.Y×Unit->f9 W}:gO (D:=U0.D) [.sl (.rc 1)] (aa [yS 1 a]) K=K (a,()):=rfl
def aOO{W:Type}{a:au G.O}{K:au G.O×Unit->f9 W}:gO (D:=U0.D) [.sl (.rc 2)] (aa [yS 2 a]) K=K (a,()):=rfl
def aOR{W:Type}{a:au G.E}{K:au G.E×Unit->f9 W}:gO (D:=U0.D) [.sl (.rc 15)] (aa [yS 15 a]) K=K (a,()):=rfl
def aOQ{W:Type}{a:au (au G.F)}{K:au (au G.F)×Unit->f9 W}:gO (D:=U0.D) [.sl (.sl (.rc 4))] (aa [⟨.sl (.sl (.rc 4)),a⟩]) K=K (a,()):=rfl
def aOP{W:Type}{a:au G.L}{K:au G.L×Unit->f9 W}:gO (D:=U0.D) [.sl (.rc 16)] (aa [yS 16 a]) K=K (a,()):=rfl
def aQL{W:Type}{b:Bool}{A:f9 W}(h:b=ah):lZ b A=A:=by rw[h];rfl
def aNt{c:cG}{L m k:Nat}{E:au G.E}{o:G.O}{e:G.E}(ho:oAll[k]?=aa o)(hk:k<1000)(hE:E.length<1000)
    (h:c 39 [yS 15 E,yR 2 o]=aa [yR 15 e]):
    vX c L (m+1) oAll (k:Int) E=vX c L m oAll ((k+1:Nat):Int) (E++ [e]):=by
 have hlt:k<oAll.length:=(List.getElem?_eq_some_iff.1 ho).1;show KM c (vX c L m) oAll (k:Int) E=_;rw[KM,dT (by omega:k<oAll.length),bV,cH,ho,cR,h,aOS,aQL,eV (by omega)]
 rw[d8];simp only[aM,aX];omega
def YT(L M:Nat){c:cG}(hc:c=cA (L+7000) (M+157)){L':Nat}: ∀(r k m:Nat) (X:Nat->T3),k+r=28->(∀i,i<k->CX (K6 i).1 (X i).2.1=ah)->∃X',(∀i,i<28->CX (K6 i).1 (X' i).2.1=ah)/\vX c L' (m+r) oAll (k:Int) (eL X k)=vX c L' m oAll ((28:Nat):Int) (eL X' 28)
 |0,k,m,X,h,hx=>by
  obtain rfl:k=28:=by omega
  exact⟨X,hx,rfl⟩
 |r+1,k,m,X,h,hx=>by
  have hl:oAll.length=28:=by kernel_rfl
  have ho:oAll[k]?=aa (oAll[k]'(by omega)):=aV _
  have h1:=bBj L M X k _ ho;unfold pE at h1;rw[aIK]at h1;obtain⟨x,hx1,hb⟩:=a4q h1;have hs:eL (λj=>if j=k then x else X j) (k+1)=eL X k++ [aDr (K6 k) x]:=by
   rw[aPL _ k (by omega),aIe (X:=λj=>if j=k then x else X j) (μ:=X) k (by omega) (λj hj=>bI (by omega)),bJ rfl]
  obtain⟨X',lg,h2⟩:=YT L M hc (L':=L') r (k+1) m (λj=>if j=k then x else X j) (by omega) (λi hi=>by
   by_cases e:i=k
   .subst e;simp only[bJ];exact hb
   .simp only[bI e];exact hx i (by omega))
  refine⟨X',lg,?_⟩;rw[<-h2,hs,show m+(r+1)=m+r+1 by omega]
  exact aNt ho (by omega) (by rw[UF _ k (by omega)];omega) (by rw[hc];exact hx1)
def bKm(r:Rt):Bool:=match r with|some [⟨.rc 1,_⟩]=>ah|_=>false
def a3k{r:Rt}(h:bKm r=ah): ∃s:G.Y,r=aa [yR 1 s]:=by
 unfold bKm at h;split at h
 .exact⟨_,rfl⟩
 .cases h
def bKj(r:Rt):Bool:=match r with|some [⟨.sl (.rc 1),_⟩]=>ah|_=>false
def a3h{r:Rt}(h:bKj r=ah): ∃s:au G.Y,r=aa [yS 1 s]:=by
 unfold bKj at h;split at h
 .exact⟨_,rfl⟩
 .cases h
def bJ1(L M:Nat):bKm (cD L M 58 40 [yT [117,115,101,114,45,112,97,99,107,97,103,101]])=ah:=by kernel_rfl
def bJ0(L M:Nat):bKj (cD L M 58 41 [])=ah:=by kernel_rfl
def aVP{c:cG}{L m:Nat}{E:au G.E}{s1:G.Y}{s2:au G.Y}(h31:c 40 [yT [117,115,101,114,45,112,97,99,107,97,103,101]]=aa [yR 1 s1])
    (h32:c 41 []=aa [yS 1 s2]) (hE:E.length=28): ∃e,vX c L (m+1) oAll ((28:Nat):Int) E=aa [yS 15 (E++ [e])]/\aD3 e=ah:=by
 have hl:oAll.length=28:=by kernel_rfl
 apply Exists.intro;apply And.intro
 .show KM c (vX c L m) oAll ((28:Nat):Int) E=_;rw[KM,bH (by rw[hl];omega),bS,h31,aOM,h32,aON,aQL]
  .exact rfl
  .rw[d8,hE];simp only[aM,aX];omega
 .rfl
def aNu(L M:Nat): ∃E:au G.E,cA (L+7000) (M+158) 12 []=aa [yS 15 E]/\E.length=29/\E.all aD3=ah/\∃a x R,E=aDr (K6 0) a::aDr (K6 1) x::R/\CX (K6 0).1 a.2.1=ah:=by
 have hd:=aBm L (M+57);obtain⟨s1,h31⟩:=a3k (bJ1 L M);obtain⟨s2,h32⟩:=a3h (bJ0 L M);rw[aIK]at h31 h32;obtain⟨X,hX,hw⟩:=YT L M (c:=cA (L+7000) (M+157)) rfl (L':=L+7000) 28 0 (L+6972) (λ_=>(a6q,a6q,a6q)) rfl (λi hi=>by omega)
 rw[show M+158=M+157+1 by omega,bOQ,bHl,aMU]
 rw[show M+57+100=M+157 by omega]at hd
 rw[show M+99+58=M+157 by omega]at h31 h32
 rw[hd,aOO];have e0:(λm=>vX (cA (L+7000) (M+157)) (L+7000) m oAll (0:Int) ([]:au G.E)) (L+7000)=_:=hw
 obtain⟨e,h3,h4⟩:=aVP (m:=L+6971) (L:=L+7000) h31 h32 (UF X 28 (by omega))
 refine⟨_,e0.trans h3,?_,?_,X 0,X 1,_,rfl,hX 0 (by omega)⟩
 .show(eL X 28++ [e]:au G.E).length=29;rw[aZ,UF _ 28 (by omega)];rfl
 .show(eL X 28++ [e]:au G.E).all aD3=ah;rw[List.all_append,bE0 hX,aP,h4];rfl
def gB(G:au (au G.F)):Bool:=aq G.length 500&&G.all λg=>match g with|[]=>false|f::r=>aq (f::r).length 1000&&(f::r).all λf=>aq f.params.length 3&&(tO f.body&&Te f.body)
def gR(r:Rt):Bool:=match r with|some [⟨.sl (.sl (.rc 4)),G⟩]=>gB G|_=>false
def bEH{r:Rt}(h:gR r=ah): ∃G:au (au G.F),r=aa [⟨.sl (.sl (.rc 4)),G⟩]/\gB G=ah:=by
 unfold gR at h;split at h
 .rename_i G;exact⟨G,rfl,h⟩
 .cases h
def lR(r:Rt):Bool:=match r with|some [⟨.sl (.rc 16),l⟩]=>aq l.length 500|_=>false
def bCr{r:Rt}(h:lR r=ah): ∃l:au G.L,r=aa [yS 16 l]/\l.length<=500:=by
 unfold lR at h;split at h
 .rename_i l;exact⟨l,rfl,bR h⟩
 .cases h
def bJ3(L M:Nat):gR (cD L M 59 13 [])=ah:=by kernel_rfl
def bJ2(L M:Nat):lR (cD L M 59 14 [])=ah:=by kernel_rfl
def RI{c:cG}{L:Nat}{ls:au G.L}{E:au G.E}: ∀(r:au G.L) (k m:Nat),ls.drop k=r->k+r.length<1000->OM c L (m+r.length+1) (0:Int) ls (k:Int) E=aa [yS 15 E]
 |[],k,m,h,hk=>by
  have hn:=cX h;show aDX c _ (0:Int) ls (k:Int) E=_;rw[aDX,dF (by omega: ¬k<ls.length),bS]
 |x::r,k,m,h,hk=>by
  obtain⟨h1,h2,h3⟩:=cZ h;rw[aM]at hk;show aDX c (a5P c L (OM c L (m+r.length+1))) (0:Int) ls (k:Int) E=_;rw[aDX,dT (by omega:k<ls.length),bV,aQL (by simp),Int.zero_fdiv]
  rw[show decide ((IntKind.u32.wrap ((BitVec.ofInt IntKind.u32.bits 0&&&BitVec.ofInt IntKind.u32.bits (1:Int)).toNat:Int))=(0:Int))=ah from by decide,bV]
  show OM c L (m+r.length+1) (0:Int) ls (IntKind.i64.wrap ((k:Int)+1)) E=_;rw[eV (by omega)]
  exact RI r (k+1) m h3 (by omega)
def RS{c:cG}{L:Nat}{Q:au (au G.F)}{ls:au G.L}(aPv:c 14 []=aa [yS 16 ls])(sj:ls.length<=500)(hL:600<=L):
    ∀(r:au (au G.F)) (k m:Nat) (E:au G.E),Q.drop k=r->(∀g∈r,∃f t,g=f::t/\g.length<=1000/\∀f∈g,f.params.length<=3/\(tO f.body&&Te f.body)=ah)->k+r.length<=500->E.length+r.length<=900->E.all aD3=ah->
      ∃E':au G.E,aDS c L (m+r.length+1) Q (k:Int) (0:Int) E=aa [yS 15 E']/\(E.length<=E'.length/\E'.length<=900)/\E'.all aD3=ah/\∃R,E'=E++R
 |[],k,m,E,h,_,hk,hE,ha=>by
  have hn:=cX h;refine⟨E,?_,⟨aS _,by simpa using hE⟩,ha,[],by simp⟩
  show aDY c _ (OM c L L) Q (k:Int) (0:Int) E=_;rw[aDY,dF (by omega: ¬k<Q.length),bS,aPv,aOP]
  have h:=RI (c:=c) (L:=L) (ls:=ls) (E:=E) ls 0 (L-ls.length-1) rfl (by omega)
  rw[show L-ls.length-1+ls.length+1=L by omega]at h
  exact h
 |g::r,k,m,E,h,hg,hk,hE,ha=>by
  obtain⟨h1,h2,h3⟩:=cZ h;obtain⟨f,t,rfl,hl,hp⟩:=hg g (aH ..);rw[aM]at hk hE;show∃E':au G.E,aDY c (aDS c L (m+r.length+1)) (OM c L L) Q (k:Int) (0:Int) E=_/\_;rw[aDY,dT (by omega:k<Q.length),bV,cH,h1,cR,show dK (f::t) (0:Int)=aa f from rfl,cR,cR,aQL,eV (by omega)]
  .have g1:(E++ [(⟨3,f.name,⟨[],[]⟩,⟨⟨[],[]⟩,[],false,a6q⟩,f::t,[],[],[],⟨⟨[],[]⟩,[]⟩,[],[],[],[],0⟩:G.E)]).length+r.length<=900:=by
    rw[aZ];simp only[aM,aX];omega
   have g2:(E++ [(⟨3,f.name,⟨[],[]⟩,⟨⟨[],[]⟩,[],false,a6q⟩,f::t,[],[],[],⟨⟨[],[]⟩,[]⟩,[],[],[],[],0⟩:G.E)]).all aD3=ah:=by
    rw[List.all_append,ha,aP,List.all_nil];simp only[Bool.true_and,bF];show(aq (f::t).length 1000&&(f::t).all λf=>aq f.params.length 3&&(tO f.body&&Te f.body))=ah
    rw[aC,d8,bK];exact⟨hl,λf hf=>by rw[aC,d8];exact hp f hf⟩
   obtain⟨E',q1,q2,q3,R,q4⟩:=RS aPv sj hL r (k+1) m _ h3 (λg bj=>hg g (aG _ bj)) (by omega) g1 g2
   exact⟨E',q1,⟨by rw[aZ]at q2;omega,q2.2⟩,q3,_,by rw[q4,aQ]⟩
  .rw[d8];simp only[aM,aX];omega
def aEh(L M:Nat): ∃E,cA (L+7000) (M+159) 2 [⟨.int .u32,(0:Int)⟩]=aa [yS 15 E]/\a6v E=ah/\∃a x R,E=aDr (K6 0) a::aDr (K6 1) x::R/\CX (K6 0).1 a.2.1=ah:=by
 obtain⟨E0,h10,hl0,ha0,xa,xx,xR,hE0,hbx⟩:=aNu L M;obtain⟨Q,h11,hG⟩:=bEH (bJ3 L M);obtain⟨ls,aPv,sj⟩:=bCr (bJ2 L M);rw[aIK,show M+99+59=M+158 by omega]at h11 aPv
 simp only[gB,aC,bK]at hG;have hG1:=bR hG.1;rw[show M+159=M+158+1 by omega,c2,F2,a6j,h10,aOR,h11,aOQ]
 obtain⟨E',h1,h2,h3,R',h4⟩:=RS (L:=L+7000) aPv sj (by omega) Q 0 (L+7000-Q.length-1) E0 rfl (λg hg=>by
  have:=hG.2 g hg;split at this
  .cases this
  .rename_i f t;simp only[aC,bK]at this;exact⟨f,t,rfl,bR this.1,λf hf=>by have:=this.2 f hf;exact⟨bR this.1,by rw[aC];exact this.2⟩⟩) (by omega) (by omega) ha0
 rw[show L+7000-Q.length-1+Q.length+1=L+7000 by omega]at h1
 refine⟨E',h1,?_,xa,xx,xR++R',by rw[h4,hE0];rfl,hbx⟩
 simp only[a6v,aC];exact⟨⟨by rw[d8];omega,by rw[d8];omega⟩,h3⟩
end Go.TV
