import Derived.Test.YtgfhobcfdppbdaaGreatDoorKo
open Option renaming some->aa
open Bool renaming true->ae
open Nat renaming ble->an,ble_eq->d7
set_option linter.unusedVariables false
set_option linter.unusedSimpArgs false
set_option linter.constructorNameAsVariable false
set_option linter.defProp false
namespace Go.TV
open Go.AI Go.PI Go.Proofs
set_option maxRecDepth 20000
def aIq(L M k:Nat):cD L M k=bP (L+7000) (M+99+k):=Lo (λn i d r h=>by
 unfold Kd at h;cases hb:Nat.beq i 31 with
 |false=>rw[hb]at h;cases h
 |true=>
  rw[hb,aI]at h;split at h
  .rw[aE hb];have:=aAX L (M+n);rw[show M+n+100=M+99+n+1 by omega]at this
   rw[this];exact h
  .cases h) k
def aDz(e:G.E):Bool:=an e.functions.length 1000&&e.functions.all λf=>an f.params.length 3&&tO f.body
def a8K(E:List G.E):Bool:=an 1 E.length&&an E.length 1000&&E.all aDz
def aHV(X:Nat->T3): ∀(l:List Sk) (j:Nat),(eF X l j).length=l.length
 |[],_=>rfl
 |s::l,j=>by rw[eF,aM,aM,aHV X l (j+1)]
def RC{X μ:Nat->T3}: ∀(l:List Sk) (j:Nat),(∀i,i<j+l.length->X i=μ i)->eF X l j=eF μ l j
 |[],_,_=>rfl
 |s::l,j,h=>by
  rw[eF,eF,h j (by rw[aM];omega),RC l (j+1) (λi hi=>h i (by rw[aM];omega))]
def aHW(X:Nat->T3)(s:Sk): ∀(l:List Sk) (j:Nat),eF X (l++ [s]) j=eF X l j++ [aCX s (X (j+l.length))]
 |[],j=>rfl
 |t::l,j=>by
  rw[aY,eF,aHW X s l (j+1),eF,aY,aM,show j+1+l.length=j+(l.length+1) by omega]
def aEh:skL.length=28:=by kernel_rfl
def DP(k:Nat)(h:k<=28):(skL.take k).length=k:=by rw[List.length_take,aEh];omega
def T8(X:Nat->T3)(k:Nat)(h:k<=28):(eL X k).length=k:=by rw[eL,aHV,DP k h]
def aHU{X μ:Nat->T3}(k:Nat)(hk:k<=28)(h: ∀j,j<k->X j=μ j):eL X k=eL μ k:=RC _ 0 λi hi=>h i (by rw[DP k hk]at hi;omega)
def aPz(X:Nat->T3)(k:Nat)(h:k<28):eL X (k+1)=eL X k++ [aCX (JU k) (X k)]:=by
 have h1:k<skL.length:=by rw[aEh];exact h
 have e:skL.take (k+1)=skL.take k++ [JU k]:=by
  rw[List.take_add_one,JU,aV h1];rfl
 rw[eL,e,aHW,DP k (by omega),Nat.zero_add];rfl
def bAv:(skL.all λs=>an s.2.length 3)=ae:=by kernel_rfl
def bGl{s:Sk}(h:an s.2.length 3=ae){x:T3}(hx:B9 s.1 x.2.1=ae):aDz (aCX s x)=ae:=by
 unfold B9 bHe at hx;rw[aC,aC]at hx;show(an 1 1000&&([_]:List G.F).all _)=ae;simp only[aP,List.all_nil,bE,List.length_map,h,hx.1.1];rfl
def aTt(X:Nat->T3): ∀(l:List Sk) (j:Nat),(∀s∈l,an s.2.length 3=ae)->(∀i s,l[i]?=aa s->B9 s.1 (X (j+i)).2.1=ae)->(eF X l j).all aDz=ae
 |[],_,_,_=>rfl
 |s::l,j,h,hx=>by
  rw[eF,aP,bGl (h s (aH ..)) (by have:=hx 0 s rfl;rwa [Nat.add_zero]at this),aTt X l (j+1) (λt ht=>h t (aG _ ht)) (λi t ht=>by
   have:=hx (i+1) t (by simpa using ht)
   rwa [show j+(i+1)=j+1+i by omega]at this)];rfl
def bGn{X:Nat->T3}{k:Nat}(hx: ∀i,i<k->B9 (JU i).1 (X i).2.1=ae):(eL X k).all aDz=ae:=aTt X _ 0 (λs hs=>bJ.1 bAv s (List.mem_of_mem_take hs)) (λi s h=>by
 rw[List.getElem?_take]at h;split at h
 .rename_i hi;have:=hx i hi;unfold JU at this;rw[h]at this
  rwa [Nat.zero_add]
 .cases h)
def aOP{W:Type}{a:G.E}{K:G.E×Unit->Option W}:fN (D:=U0.D) [.rc 15] (aa [yR 15 a]) K=K (a,()):=rfl
def aOJ{W:Type}{a:G.Y}{K:G.Y×Unit->Option W}:vI (aa [yR 1 a]) K=K (a,()):=rfl
def aOK{W:Type}{a:List G.Y}{K:List G.Y×Unit->Option W}:fN (D:=U0.D) [.sl (.rc 1)] (aa [yS 1 a]) K=K (a,()):=rfl
def aOL{W:Type}{a:List G.O}{K:List G.O×Unit->Option W}:fN (D:=U0.D) [.sl (.rc 2)] (aa [yS 2 a]) K=K (a,()):=rfl
def aOO{W:Type}{a:List G.E}{K:List G.E×Unit->Option W}:fN (D:=U0.D) [.sl (.rc 15)] (aa [yS 15 a]) K=K (a,()):=rfl
def aON{W:Type}{a:List (List G.F)}{K:List (List G.F)×Unit->Option W}:fN (D:=U0.D) [.sl (.sl (.rc 4))] (aa [⟨.sl (.sl (.rc 4)),a⟩]) K=K (a,()):=rfl
def aOM{W:Type}{a:List G.L}{K:List G.L×Unit->Option W}:fN (D:=U0.D) [.sl (.rc 16)] (aa [yS 16 a]) K=K (a,()):=rfl
def aQG{W:Type}{b:Bool}{A:Option W}(h:b=ae):jY b A=A:=by rw[h];rfl
def aNz{c:bT}{L m k:Nat}{E:List G.E}{o:G.O}{e:G.E}(ho:oAll[k]?=aa o)(hk:k<1000)(hE:E.length<1000)
    (h:c 32 [yS 15 E,yR 2 o]=aa [yR 15 e]):
    uA c L (m+1) oAll (k:Int) E=uA c L m oAll ((k+1:Nat):Int) (E++ [e]):=by
 have bi:k<oAll.length:=(List.getElem?_eq_some_iff.1 ho).1;show JH c (uA c L m) oAll (k:Int) E=_;rw[JH,dT (by omega:k<oAll.length),bN,bV,ho,cH,h,aOP,aQG,eC (by omega)]
 rw[d7];simp only[aM,aX];omega
def YT(L M:Nat){c:bT}(hc:c=bP (L+7000) (M+157)){L':Nat}: ∀(r k m:Nat) (X:Nat->T3),k+r=28->(∀i,i<k->B9 (JU i).1 (X i).2.1=ae)->∃X',(∀i,i<28->B9 (JU i).1 (X' i).2.1=ae)/\uA c L' (m+r) oAll (k:Int) (eL X k)=uA c L' m oAll ((28:Nat):Int) (eL X' 28)
 |0,k,m,X,h,hx=>by
  obtain rfl:k=28:=by omega
  exact⟨X,hx,rfl⟩
 |r+1,k,m,X,h,hx=>by
  have hl:oAll.length=28:=by kernel_rfl
  have ho:oAll[k]?=aa (oAll[k]'(by omega)):=aV _
  have h1:=bC0 L M X k _ ho;unfold pE at h1;rw[aIq]at h1;obtain⟨x,hx1,hb⟩:=a6w h1;have hs:eL (λj=>if j=k then x else X j) (k+1)=eL X k++ [aCX (JU k) x]:=by
   rw[aPz _ k (by omega),aHU (X:=λj=>if j=k then x else X j) (μ:=X) k (by omega) (λj hj=>bH (by omega)),bI rfl]
  obtain⟨X',kv,h2⟩:=YT L M hc (L':=L') r (k+1) m (λj=>if j=k then x else X j) (by omega) (λi hi=>by
   by_cases e:i=k
   .subst e;simp only[bI];exact hb
   .simp only[bH e];exact hx i (by omega))
  refine⟨X',kv,?_⟩;rw[<-h2,hs,show m+(r+1)=m+r+1 by omega]
  exact aNz ho (by omega) (by rw[T8 _ k (by omega)];omega) (by rw[hc];exact hx1)
def bLG(r:Rt):Bool:=match r with|some [⟨.rc 1,_⟩]=>ae|_=>false
def a5g{r:Rt}(h:bLG r=ae): ∃s:G.Y,r=aa [yR 1 s]:=by
 unfold bLG at h;split at h
 .exact⟨_,rfl⟩
 .cases h
def bLD(r:Rt):Bool:=match r with|some [⟨.sl (.rc 1),_⟩]=>ae|_=>false
def a5e{r:Rt}(h:bLD r=ae): ∃s:List G.Y,r=aa [yS 1 s]:=by
 unfold bLD at h;split at h
 .exact⟨_,rfl⟩
 .cases h
def bLl(L M:Nat):bLG (cD L M 58 33 [yT [117,115,101,114,45,112,97,99,107,97,103,101]])=ae:=by kernel_rfl
def bLk(L M:Nat):bLD (cD L M 58 34 [])=ae:=by kernel_rfl
def aVA{c:bT}{L m:Nat}{E:List G.E}{s1:G.Y}{s2:List G.Y}(a5S:c 33 [yT [117,115,101,114,45,112,97,99,107,97,103,101]]=aa [yR 1 s1])
    (h32:c 34 []=aa [yS 1 s2]) (hE:E.length=28): ∃e,uA c L (m+1) oAll ((28:Nat):Int) E=aa [yS 15 (E++ [e])]/\aDz e=ae:=by
 have hl:oAll.length=28:=by kernel_rfl
 apply Exists.intro;apply And.intro
 .show JH c (uA c L m) oAll ((28:Nat):Int) E=_;rw[JH,bG (by rw[hl];omega),bL,a5S,aOJ,h32,aOK,aQG]
  .exact rfl
  .rw[d7,hE];simp only[aM,aX];omega
 .rfl
def aNA(L M:Nat): ∃E:List G.E,bP (L+7000) (M+158) 11 []=aa [yS 15 E]/\E.length=29/\E.all aDz=ae/\∃a x R,E=aCX (JU 0) a::aCX (JU 1) x::R/\B9 (JU 0).1 a.2.1=ae:=by
 have hd:=aAX L (M+57);obtain⟨s1,a5S⟩:=a5g (bLl L M);obtain⟨s2,h32⟩:=a5e (bLk L M);rw[aIq]at a5S h32;obtain⟨X,hX,hw⟩:=YT L M (c:=bP (L+7000) (M+157)) rfl (L':=L+7000) 28 0 (L+6972) (λ_=>(a8F,a8F,a8F)) rfl (λi hi=>by omega)
 rw[show M+158=M+157+1 by omega,a8X,bIO,aM2]
 rw[show M+57+100=M+157 by omega]at hd
 rw[show M+99+58=M+157 by omega]at a5S h32
 rw[hd,aOL];have e0:(λm=>uA (bP (L+7000) (M+157)) (L+7000) m oAll (0:Int) ([]:List G.E)) (L+7000)=_:=hw
 obtain⟨e,h3,h4⟩:=aVA (m:=L+6971) (L:=L+7000) a5S h32 (T8 X 28 (by omega))
 refine⟨_,e0.trans h3,?_,?_,X 0,X 1,_,rfl,hX 0 (by omega)⟩
 .show(eL X 28++ [e]:List G.E).length=29;rw[aZ,T8 _ 28 (by omega)];rfl
 .show(eL X 28++ [e]:List G.E).all aDz=ae;rw[List.all_append,bGn hX,aP,h4];rfl
def gB(G:List (List G.F)):Bool:=an G.length 500&&G.all λg=>match g with|[]=>false|f::r=>an (f::r).length 1000&&(f::r).all λf=>an f.params.length 3&&tO f.body
def gR(r:Rt):Bool:=match r with|some [⟨.sl (.sl (.rc 4)),G⟩]=>gB G|_=>false
def bF3{r:Rt}(h:gR r=ae): ∃G:List (List G.F),r=aa [⟨.sl (.sl (.rc 4)),G⟩]/\gB G=ae:=by
 unfold gR at h;split at h
 .rename_i G;exact⟨G,rfl,h⟩
 .cases h
def lR(r:Rt):Bool:=match r with|some [⟨.sl (.rc 16),l⟩]=>an l.length 500|_=>false
def bDX{r:Rt}(h:lR r=ae): ∃l:List G.L,r=aa [yS 16 l]/\l.length<=500:=by
 unfold lR at h;split at h
 .rename_i l;exact⟨l,rfl,bK h⟩
 .cases h
def bLn(L M:Nat):gR (cD L M 59 12 [])=ae:=by kernel_rfl
def bLm(L M:Nat):lR (cD L M 59 13 [])=ae:=by kernel_rfl
def Q3{c:bT}{L:Nat}{ls:List G.L}{E:List G.E}: ∀(r:List G.L) (k m:Nat),ls.drop k=r->k+r.length<1000->M4 c L (m+r.length+1) (0:Int) ls (k:Int) E=aa [yS 15 E]
 |[],k,m,h,hk=>by
  have hn:=cI h;show aDu c _ (0:Int) ls (k:Int) E=_;rw[aDu,dF (by omega: ¬k<ls.length),bL]
 |x::r,k,m,h,hk=>by
  obtain⟨h1,h2,h3⟩:=cL h;rw[aM]at hk;show aDu c (a7K c L (M4 c L (m+r.length+1))) (0:Int) ls (k:Int) E=_;rw[aDu,dT (by omega:k<ls.length),bN,aQG (by simp),Int.zero_fdiv]
  rw[show decide ((IntKind.u32.wrap ((BitVec.ofInt IntKind.u32.bits 0&&&BitVec.ofInt IntKind.u32.bits (1:Int)).toNat:Int))=(0:Int))=ae from by decide,bN]
  show M4 c L (m+r.length+1) (0:Int) ls (IntKind.i64.wrap ((k:Int)+1)) E=_;rw[eC (by omega)]
  exact Q3 r (k+1) m h3 (by omega)
def Rd{c:bT}{L:Nat}{Q:List (List G.F)}{ls:List G.L}(h12:c 13 []=aa [yS 16 ls])(rq:ls.length<=500)(hL:600<=L):
    ∀(r:List (List G.F)) (k m:Nat) (E:List G.E),Q.drop k=r->(∀g∈r,∃f t,g=f::t/\g.length<=1000/\∀f∈g,f.params.length<=3/\tO f.body=ae)->k+r.length<=500->E.length+r.length<=900->E.all aDz=ae->
      ∃E':List G.E,aDr c L (m+r.length+1) Q (k:Int) (0:Int) E=aa [yS 15 E']/\(E.length<=E'.length/\E'.length<=900)/\E'.all aDz=ae/\∃R,E'=E++R
 |[],k,m,E,h,_,hk,hE,ha=>by
  have hn:=cI h;refine⟨E,?_,⟨aS _,by simpa using hE⟩,ha,[],by simp⟩
  show aDv c _ (M4 c L L) Q (k:Int) (0:Int) E=_;rw[aDv,dF (by omega: ¬k<Q.length),bL,h12,aOM]
  have h:=Q3 (c:=c) (L:=L) (ls:=ls) (E:=E) ls 0 (L-ls.length-1) rfl (by omega)
  rw[show L-ls.length-1+ls.length+1=L by omega]at h
  exact h
 |g::r,k,m,E,h,hg,hk,hE,ha=>by
  obtain⟨h1,h2,h3⟩:=cL h;obtain⟨f,t,rfl,hl,hp⟩:=hg g (aH ..);rw[aM]at hk hE;show∃E':List G.E,aDv c (aDr c L (m+r.length+1)) (M4 c L L) Q (k:Int) (0:Int) E=_/\_;rw[aDv,dT (by omega:k<Q.length),bN,bV,h1,cH,show cU (f::t) (0:Int)=aa f from rfl,cH,cH,aQG,eC (by omega)]
  .have g1:(E++ [(⟨3,f.name,⟨[],[]⟩,⟨⟨[],[]⟩,[],false,a8F⟩,f::t,[],[],[],⟨⟨[],[]⟩,[]⟩,[],[],[],[],0⟩:G.E)]).length+r.length<=900:=by
    rw[aZ];simp only[aM,aX];omega
   have g2:(E++ [(⟨3,f.name,⟨[],[]⟩,⟨⟨[],[]⟩,[],false,a8F⟩,f::t,[],[],[],⟨⟨[],[]⟩,[]⟩,[],[],[],[],0⟩:G.E)]).all aDz=ae:=by
    rw[List.all_append,ha,aP,List.all_nil];simp only[Bool.true_and,bE];show(an (f::t).length 1000&&(f::t).all λf=>an f.params.length 3&&tO f.body)=ae
    rw[aC,d7,bJ];exact⟨hl,λf hf=>by rw[aC,d7];exact hp f hf⟩
   obtain⟨E',q1,q2,q3,R,q4⟩:=Rd h12 rq hL r (k+1) m _ h3 (λg bm=>hg g (aG _ bm)) (by omega) g1 g2
   exact⟨E',q1,⟨by rw[aZ]at q2;omega,q2.2⟩,q3,_,by rw[q4,aQ]⟩
  .rw[d7];simp only[aM,aX];omega
def aDL(L M:Nat): ∃E,bP (L+7000) (M+159) 2 [⟨.int .u32,(0:Int)⟩]=aa [yS 15 E]/\a8K E=ae/\∃a x R,E=aCX (JU 0) a::aCX (JU 1) x::R/\B9 (JU 0).1 a.2.1=ae:=by
 obtain⟨E0,h10,hl0,ha0,xa,xx,xR,hE0,hbx⟩:=aNA L M;obtain⟨Q,a8R,hG⟩:=bF3 (bLn L M);obtain⟨ls,h12,rq⟩:=bDX (bLm L M);rw[aIq,show M+99+59=M+158 by omega]at a8R h12
 simp only[gB,aC,bJ]at hG;have hG1:=bK hG.1;rw[show M+159=M+158+1 by omega,c2,F2,a8x,h10,aOO,a8R,aON]
 obtain⟨E',h1,h2,h3,R',h4⟩:=Rd (L:=L+7000) h12 rq (by omega) Q 0 (L+7000-Q.length-1) E0 rfl (λg hg=>by
  have:=hG.2 g hg;split at this
  .cases this
  .rename_i f t;simp only[aC,bJ]at this;exact⟨f,t,rfl,bK this.1,λf hf=>by have:=this.2 f hf;exact⟨bK this.1,this.2⟩⟩) (by omega) (by omega) ha0
 rw[show L+7000-Q.length-1+Q.length+1=L+7000 by omega]at h1
 refine⟨E',h1,?_,xa,xx,xR++R',by rw[h4,hE0];rfl,hbx⟩
 simp only[a8K,aC];exact⟨⟨by rw[d7];omega,by rw[d7];omega⟩,h3⟩
end Go.TV
