import Derived.Test.YtgddcoodncbkoaaGreatDoorKp
set_option linter.unusedVariables false
set_option linter.unusedSimpArgs false
set_option linter.constructorNameAsVariable false
set_option linter.defProp false
namespace Go.TV
open Go.AI Go.PI Go.Proofs
set_option maxRecDepth 20000
def Qk(L M k:Nat):cD L M k=bR (L+7000) (M+99+k):=EF (λn i d r h=>by
 unfold Kd at h;cases hb:Nat.beq i 48 with
 |false=>rw[hb]at h;cases h
 |true=>
  rw[hb,aI]at h;split at h
  .rw[aE hb];have:=XU L (M+n);rw[show M+n+100=M+99+n+1 by omega]at this
   rw[this];exact h
  .cases h) k
def OA(e:G.E):Bool:=Nat.ble e.functions.length 1000&&e.functions.all λf=>Nat.ble f.params.length 3
def aBK(e:G.E):Bool:=Nat.ble e.rules.length 1000
def a6a(E:List G.E):Bool:=Nat.ble 1 E.length&&Nat.ble E.length 1000&&E.all OA
def aGv(X:Nat->T3): ∀(l:List Sk) (j:Nat),(eF X l j).length=l.length
 |[],_=>rfl
 |s::l,j=>by rw[eF,aM,aM,aGv X l (j+1)]
def P5{X μ:Nat->T3}: ∀(l:List Sk) (j:Nat),(∀i,i<j+l.length->X i=μ i)->eF X l j=eF μ l j
 |[],_,_=>rfl
 |s::l,j,h=>by
  rw[eF,eF,h j (by rw[aM];omega),P5 l (j+1) (λi hi=>h i (by rw[aM];omega))]
def aGw(X:Nat->T3)(s:Sk): ∀(l:List Sk) (j:Nat),eF X (l++ [s]) j=eF X l j++ [a3D s (X (j+l.length))]
 |[],j=>rfl
 |t::l,j=>by
  rw[aY,eF,aGw X s l (j+1),eF,aY,aM,show j+1+l.length=j+(l.length+1) by omega]
def aDm:skL.length=28:=by kernel_rfl
def Dw(k:Nat)(h:k<=28):(skL.take k).length=k:=by rw[List.length_take,aDm];omega
def Sv(X:Nat->T3)(k:Nat)(h:k<=28):(eL X k).length=k:=by rw[eL,aGv,Dw k h]
def aGu{X μ:Nat->T3}(k:Nat)(hk:k<=28)(h: ∀j,j<k->X j=μ j):eL X k=eL μ k:=P5 _ 0 λi hi=>h i (by rw[Dw k hk]at hi;omega)
def aO6(X:Nat->T3)(k:Nat)(h:k<28):eL X (k+1)=eL X k++ [a3D (a8x k) (X k)]:=by
 have h1:k<skL.length:=by rw[aDm];exact h
 have e:skL.take (k+1)=skL.take k++ [a8x k]:=by
  rw[List.take_add_one,a8x,aV h1];rfl
 rw[eL,e,aGw,Dw k (by omega),Nat.zero_add];rfl
def a8w:(skL.all λs=>Nat.ble s.2.length 3)=true:=by kernel_rfl
def bGX{s:Sk}(h:Nat.ble s.2.length 3=true)(x:T3):OA (a3D s x)=true:=by
 show(Nat.ble 1 1000&&([_]:List G.F).all _)=true;simp only[aP,List.all_nil,bE,List.length_map,h];rfl
def aSs(X:Nat->T3): ∀(l:List Sk) (j:Nat),(eF X l j).all aBK=true
 |[],_=>rfl
 |s::l,j=>by rw[eF,aP,aSs X l (j+1)];rfl
def aSr(X:Nat->T3): ∀(l:List Sk) (j:Nat),(∀s∈l,Nat.ble s.2.length 3=true)->(eF X l j).all OA=true
 |[],_,_=>rfl
 |s::l,j,h=>by
  rw[eF,aP,bGX (h s (aH ..)),aSr X l (j+1) (λt ht=>h t (aG _ ht))];rfl
def bG0(X:Nat->T3)(k:Nat):(eL X k).all OA=true:=aSr X _ 0 λs hs=>bJ.1 a8w s (List.mem_of_mem_take hs)
def aOu{W:Type}{a:G.E}{K:G.E×Unit->Option W}:fU (D:=U0.D) [.rc 16] (some [yR 16 a]) K=K (a,()):=rfl
def aOn{W:Type}{a:G.Y}{K:G.Y×Unit->Option W}:gU (some [yR 1 a]) K=K (a,()):=rfl
def aOo{W:Type}{a:List G.Y}{K:List G.Y×Unit->Option W}:mD (some [yS 1 a]) K=K (a,()):=rfl
def aOq{W:Type}{a:List G.O}{K:List G.O×Unit->Option W}:fU (D:=U0.D) [.sl (.rc 2)] (some [yS 2 a]) K=K (a,()):=rfl
def aOt{W:Type}{a:List G.E}{K:List G.E×Unit->Option W}:fU (D:=U0.D) [.sl (.rc 16)] (some [yS 16 a]) K=K (a,()):=rfl
def aOs{W:Type}{a:List (List G.F)}{K:List (List G.F)×Unit->Option W}:fU (D:=U0.D) [.sl (.sl (.rc 8))] (some [⟨.sl (.sl (.rc 8)),a⟩]) K=K (a,()):=rfl
def aOr{W:Type}{a:List G.L}{K:List G.L×Unit->Option W}:fU (D:=U0.D) [.sl (.rc 6)] (some [yS 6 a]) K=K (a,()):=rfl
def aGY{W:Type}{b:Bool}{A:Option W}(h:b=true):iQ b A=A:=by rw[h];rfl
def aNg{c:bT}{L m k:Nat}{E:List G.E}{o:G.O}{e:G.E}(ho:oAll[k]?=some o)(hk:k<1000)(hE:E.length<1000)
    (h:c 49 [yS 16 E,yR 2 o]=some [yR 16 e]):
    tG c L (m+1) oAll (k:Int) E=tG c L m oAll ((k+1:Nat):Int) (E++ [e]):=by
 have bi:k<oAll.length:=(List.getElem?_eq_some_iff.1 ho).1;show IN c (tG c L m) oAll (k:Int) E=_;rw[IN,dT (by omega:k<oAll.length),bO,bP,ho,bZ,h,aOu,aGY,cS (by omega)]
 rw[Nat.ble_eq];simp only[aM,aX];omega
def V0(L M:Nat){c:bT}(hc:c=bR (L+7000) (M+157)){L':Nat}: ∀(r k m:Nat) (X:Nat->T3),k+r=28->∃X',tG c L' (m+r) oAll (k:Int) (eL X k)=tG c L' m oAll ((28:Nat):Int) (eL X' 28)
 |0,k,m,X,h=>by
  obtain rfl:k=28:=by omega
  exact⟨X,rfl⟩
 |r+1,k,m,X,h=>by
  have hl:oAll.length=28:=by kernel_rfl
  have ho:oAll[k]?=some (oAll[k]'(by omega)):=aV _
  have h1:=bDc L M X k _ ho;unfold pE at h1;rw[Qk]at h1;obtain⟨x,hx⟩:=a3C h1;have hs:eL (λj=>if j=k then x else X j) (k+1)=eL X k++ [a3D (a8x k) x]:=by
   rw[aO6 _ k (by omega),aGu (X:=λj=>if j=k then x else X j) (μ:=X) k (by omega) (λj hj=>bH (by omega)),bI rfl]
  obtain⟨X',h2⟩:=V0 L M hc (L':=L') r (k+1) m (λj=>if j=k then x else X j) (by omega)
  refine⟨X',?_⟩;rw[<-h2,hs,show m+(r+1)=m+r+1 by omega]
  exact aNg ho (by omega) (by rw[Sv _ k (by omega)];omega) (by rw[hc];exact hx)
def bMe(r:Rt):Bool:=match r with|some [⟨.rc 1,_⟩]=>true|_=>false
def a2C{r:Rt}(h:bMe r=true): ∃s:G.Y,r=some [yR 1 s]:=by
 unfold bMe at h;split at h
 .exact⟨_,rfl⟩
 .cases h
def bMb(r:Rt):Bool:=match r with|some [⟨.sl (.rc 1),_⟩]=>true|_=>false
def a2A{r:Rt}(h:bMb r=true): ∃s:List G.Y,r=some [yS 1 s]:=by
 unfold bMb at h;split at h
 .exact⟨_,rfl⟩
 .cases h
def bLN(L M:Nat):bMe (cD L M 58 33 [yT [117,115,101,114,45,112,97,99,107,97,103,101]])=true:=by kernel_rfl
def bLM(L M:Nat):bMb (cD L M 58 50 [])=true:=by kernel_rfl
def aVi{c:bT}{L m:Nat}{E:List G.E}{s1:G.Y}{s2:List G.Y}(a3c:c 33 [yT [117,115,101,114,45,112,97,99,107,97,103,101]]=some [yR 1 s1])
    (a3b:c 50 []=some [yS 1 s2]) (hE:E.length=28): ∃e,tG c L (m+1) oAll ((28:Nat):Int) E=some [yS 16 (E++ [e])]/\OA e=true/\aBK e=true:=by
 have hl:oAll.length=28:=by kernel_rfl
 apply Exists.intro;apply And.intro
 .show IN c (tG c L m) oAll ((28:Nat):Int) E=_;rw[IN,bG (by rw[hl];omega),bL,a3c,aOn,a3b,aOo,aGY]
  .exact rfl
  .rw[Nat.ble_eq,hE];simp only[aM,aX];omega
 .exact⟨rfl,rfl⟩
def aNh(L M:Nat): ∃E:List G.E,bR (L+7000) (M+158) 10 []=some [yS 16 E]/\E.length=29/\E.all OA=true/\E.all aBK=true:=by
 have hd:=XU L (M+57);obtain⟨s1,a3c⟩:=a2C (bLN L M);obtain⟨s2,a3b⟩:=a2A (bLM L M);rw[Qk]at a3c a3b;obtain⟨X,hw⟩:=V0 L M (c:=bR (L+7000) (M+157)) rfl (L':=L+7000) 28 0 (L+6972) (λ_=>(aUO,aUO,aUO)) rfl
 rw[show M+158=M+157+1 by omega,bQQ,bJm,aMW]
 rw[show M+57+100=M+157 by omega]at hd
 rw[show M+99+58=M+157 by omega]at a3c a3b
 rw[hd,aOq];have e0:(λm=>tG (bR (L+7000) (M+157)) (L+7000) m oAll (0:Int) ([]:List G.E)) (L+7000)=_:=hw
 obtain⟨e,h3,h4,h5⟩:=aVi (m:=L+6971) (L:=L+7000) a3c a3b (Sv X 28 (by omega))
 refine⟨_,e0.trans h3,?_,?_,?_⟩
 .show(eL X 28++ [e]:List G.E).length=29;rw[aZ,Sv _ 28 (by omega)];rfl
 .show(eL X 28++ [e]:List G.E).all OA=true;rw[List.all_append,bG0,aP,h4];rfl
 .show(eL X 28++ [e]:List G.E).all aBK=true;rw[List.all_append,eL,aSs,aP,h5];rfl
def gB(G:List (List G.F)):Bool:=Nat.ble G.length 100&&G.all λg=>match g with|[]=>false|f::r=>Nat.ble (f::r).length 1000&&(f::r).all λf=>Nat.ble f.params.length 3
def gR(r:Rt):Bool:=match r with|some [⟨.sl (.sl (.rc 8)),G⟩]=>gB G|_=>false
def bGI{r:Rt}(h:gR r=true): ∃G:List (List G.F),r=some [⟨.sl (.sl (.rc 8)),G⟩]/\gB G=true:=by
 unfold gR at h;split at h
 .rename_i G;exact⟨G,rfl,h⟩
 .cases h
def lR(r:Rt):Bool:=match r with|some [⟨.sl (.rc 6),l⟩]=>Nat.ble 1 l.length&&Nat.ble l.length 500&&l.all λx=>Nat.ble (cJ x.formula) 1000|_=>false
def aSa{r:Rt}(h:lR r=true): ∃l:List G.L,r=some [yS 6 l]/\(1<=l.length/\l.length<=500)/\∀x∈l,cJ x.formula<=1000:=by
 unfold lR at h;split at h
 .rename_i l;simp only[aC,bJ]at h;exact⟨l,rfl,⟨bK h.1.1,bK h.1.2⟩,λx hx=>bK (h.2 x hx)⟩
 .cases h
def bLO(L M:Nat):gR (cD L M 59 11 [])=true:=by kernel_rfl
def bD8(L M:Nat):lR (cD L M 59 12 [])=true:=by kernel_rfl
def aC3{E:List G.E}(hl:E.length<=999)(hs:E.all OA=true)(hr:E.all aBK=true):YE 1000 E:=by
 simp only[bJ,OA,aC,aBK]at hs hr;exact⟨by omega,λe he=>bK (hs e he).1,λe he=>bK (hr e he)⟩
def a0O{W:Type}{a:G.Y}{K:G.Y×Unit->Option W}:gU (some [yR 1 a]) K=K (a,()):=rfl
def aOp{W:Type}{r:G.U}{i:Int}{K:G.U×Int×Unit->Option W}:wS (some [yR 5 r,yI i]) K=K (r,i,()):=rfl
def Ee{c:bT}{L:Nat}{ls:List G.L}{b:Int}(hu: ∀s:List UInt8,∃y:G.Y,c 4 [yT s]=some [yR 1 y])
    (hm: ∀(E:List G.E) (nm:G.Y) (x:G.L),x∈ls->YE 1000 E->∃(r:G.U) (e:Int),c 6 [yS 16 E,yR 1 nm,yR 3 x.formula,yI x.cls]=some [yR 5 r,yI e]):
    ∀(r:List G.L) (k m:Nat) (E:List G.E),ls.drop k=r->k+r.length<1000->E.length+r.length<=990->E.all OA=true->E.all aBK=true->
    ∃E':List G.E,FM c L (m+r.length+1) b ls (k:Int) E=some [yS 16 E']/\(E.length<=E'.length/\E'.length<=990)/\E'.all OA=true/\E'.all aBK=true
 |[],k,m,E,h,hk,hE,ha,hr=>by
  have hn:=bW h;refine⟨E,?_,⟨aS _,by simpa using hE⟩,ha,hr⟩
  show aCL c _ _ b ls (k:Int) E=_;rw[aCL,dF (by omega: ¬k<ls.length),bL]
 |x::r,k,m,E,h,hk,hE,ha,hr=>by
  obtain⟨h1,h2,h3⟩:=bX h;rw[aM]at hk hE;have i1:cI ls (k:Int)=some x:=(bP ls k).trans h1;obtain⟨y,hy⟩:=hu x.name;obtain⟨q,e,hq⟩:=hm E y x (List.mem_of_getElem? h1) (aC3 (by omega) ha hr)
  have st: ∀en:G.E,OA en=true->aBK en=true->∃E':List G.E,aJH c L (FM c L (m+r.length+1)) E (k:Int) b ls en=some [yS 16 E']/\(E.length<=E'.length/\E'.length<=990)/\E'.all OA=true/\E'.all aBK=true:=λen e1 e2=>by
   simp only[aJH,a5Q,aCJ,aQU];rw[aGY,cS (by omega)]
   .obtain⟨E',q1,q2,q3⟩:=Ee hu hm (L:=L) (b:=b) r (k+1) m (E++ [en]) h3 (by omega) (by rw[aZ];simp only[aM,aX];omega) (by rw[List.all_append,ha,aP,e1];rfl) (by rw[List.all_append,hr,aP,e2];rfl)
    exact⟨E',q1,⟨by rw[aZ]at q2;omega,q2.2⟩,q3⟩
   .rw[Nat.ble_eq];simp only[aM,aX];omega
  show∃E':List G.E,aCL c (aCJ c L (FM c L (m+r.length+1))) (aJH c L (FM c L (m+r.length+1))) b ls (k:Int) E=_/\_;rw[aCL,dT (by omega:k<ls.length),bO,aGY (by simp),i1]
  generalize decide ((IntKind.u32.wrap _:Int)=0)=z;cases z with
  |true=>
   rw[bO];simp only[aCJ,aQU];rw[cS (by omega)]
   exact Ee hu hm r (k+1) m E h3 (by omega) (by omega) ha hr
  |false=>
   rw[bL];simp only[bZ];rw[hy,a0O,hq,aOp];generalize decide (_=(0:Int))=z;cases z with
   |true=>exact st _ rfl rfl
   |false=>exact st _ rfl rfl
def PM{c:bT}{L:Nat}{Q:List (List G.F)}{ls:List G.L}{b:Int}(h12:c 12 []=some [yS 6 ls])(rq:ls.length<=500)(hL:600<=L)(hu: ∀s:List UInt8,∃y:G.Y,c 4 [yT s]=some [yR 1 y])
    (hm: ∀(E:List G.E) (nm:G.Y) (x:G.L),x∈ls->YE 1000 E->∃(r:G.U) (e:Int),c 6 [yS 16 E,yR 1 nm,yR 3 x.formula,yI x.cls]=some [yR 5 r,yI e]):
    ∀(r:List (List G.F)) (k m:Nat) (E:List G.E),Q.drop k=r->(∀g∈r,∃f t,g=f::t/\g.length<=1000/\∀f∈g,f.params.length<=3)->k+r.length<=100->E.length+r.length<=400->E.all OA=true->E.all aBK=true->
      ∃E':List G.E,aCC c L (m+r.length+1) Q (k:Int) b E=some [yS 16 E']/\(E.length<=E'.length/\E'.length<=990)/\E'.all OA=true/\E'.all aBK=true
 |[],k,m,E,h,_,hk,hE,ha,hr=>by
  have hn:=bW h;show∃E':List G.E,aCM c _ (FM c L L) Q (k:Int) b E=_/\_;rw[aCM,dF (by omega: ¬k<Q.length),bL,h12,aOr]
  have h:=Ee (c:=c) (L:=L) (ls:=ls) (b:=b) hu hm ls 0 (L-ls.length-1) E rfl (by omega) (by simp only[aX]at hE;omega) ha hr
  rw[show L-ls.length-1+ls.length+1=L by omega]at h
  exact h
 |g::r,k,m,E,h,hg,hk,hE,ha,hr=>by
  obtain⟨h1,h2,h3⟩:=bX h;obtain⟨f,t,rfl,hl,hp⟩:=hg g (aH ..);rw[aM]at hk hE;show∃E':List G.E,aCM c (aCC c L (m+r.length+1)) (FM c L L) Q (k:Int) b E=_/\_;rw[aCM,dT (by omega:k<Q.length),bO,bP,h1,bZ,show cI (f::t) (0:Int)=some f from rfl,bZ,bZ,aGY,cS (by omega)]
  .have g1:(E++ [(⟨3,f.name,⟨[],[]⟩,⟨⟨[],[]⟩,[],false,aUO⟩,f::t,[],[],[],⟨⟨[],[]⟩,[]⟩,[],[],[],[],0⟩:G.E)]).length+r.length<=400:=by
    rw[aZ];simp only[aM,aX];omega
   have g2:(E++ [(⟨3,f.name,⟨[],[]⟩,⟨⟨[],[]⟩,[],false,aUO⟩,f::t,[],[],[],⟨⟨[],[]⟩,[]⟩,[],[],[],[],0⟩:G.E)]).all OA=true:=by
    rw[List.all_append,ha,aP,List.all_nil];simp only[Bool.true_and,bE];show(Nat.ble (f::t).length 1000&&(f::t).all λf=>Nat.ble f.params.length 3)=true
    rw[aC,Nat.ble_eq,bJ];exact⟨hl,λf hf=>by rw[Nat.ble_eq];exact hp f hf⟩
   have g3:(E++ [(⟨3,f.name,⟨[],[]⟩,⟨⟨[],[]⟩,[],false,aUO⟩,f::t,[],[],[],⟨⟨[],[]⟩,[]⟩,[],[],[],[],0⟩:G.E)]).all aBK=true:=by
    rw[List.all_append,hr,aP,List.all_nil];rfl
   obtain⟨E',q1,q2,q3⟩:=PM h12 rq hL hu hm r (k+1) m _ h3 (λg bn=>hg g (aG _ bn)) (by omega) g1 g2 g3
   exact⟨E',q1,⟨by rw[aZ]at q2;omega,q2.2⟩,q3⟩
  .rw[Nat.ble_eq];simp only[aM,aX];omega
def usW(L M:Nat)(x:List UInt8): ∃s:G.Y,cD L M 59 4 [yT x]=some [yR 1 s]:=⟨⟨[117,115,101,114],x⟩,by kernel_rfl⟩
def GD(L M:Nat)(b:Int): ∃E,bR (L+7000) (M+7159) 2 [⟨.int .u32,b⟩]=some [yS 16 E]/\a6a E=true/\YE 1000 E:=by
 obtain⟨E0,aF7,hl0,ha0,hr0⟩:=aNh L (M+7000);obtain⟨Q,h11,hG⟩:=bGI (bLO L (M+7000));obtain⟨ls,h12,rq,ci⟩:=aSa (bD8 L (M+7000));have pd:=usW L (M+7000);rw[Qk,show M+7000+99+59=M+7158 by omega]at h11 h12 pd
 simp only[gB,aC,bJ]at hG;have hG1:=bK hG.1;rw[show M+7159=M+7158+1 by omega,c2,F2,a5R,aF7,aOt,h11,aOs]
 obtain⟨E',h1,h2,h3,h4⟩:=PM (L:=L+7000) (b:=b) h12 rq.2 (by omega) pd (λE nm x hx hE=>by
  have h5:=ci x hx;obtain⟨r,e,_,g2,_⟩:=Xy (L:=L+7000) (n:=M+7158) (M:=1100) (B:=1000) (by omega) (by omega) (by omega) (by omega) (by omega) (by omega) hE nm x.formula x.cls (by omega)
  exact⟨r,e,g2⟩) Q 0 (L+7000-Q.length-1) E0 rfl (λg hg=>by
  have:=hG.2 g hg;split at this
  .cases this
  .rename_i f t;simp only[aC,bJ]at this;exact⟨f,t,rfl,bK this.1,λf hf=>bK (this.2 f hf)⟩) (by omega) (by omega) ha0 hr0
 rw[show L+7000-Q.length-1+Q.length+1=L+7000 by omega]at h1
 refine⟨E',h1,?_,aC3 (by omega) h3 h4⟩
 simp only[a6a,aC];exact⟨⟨by rw[Nat.ble_eq];omega,by rw[Nat.ble_eq];omega⟩,h3⟩
def aC2(L M:Nat): ∃E,bR (L+7000) (M+7159) 2 [⟨.int .u32,(0:Int)⟩]=some [yS 16 E]/\a6a E=true:=by
 obtain⟨E,h1,h2,_⟩:=GD L M 0;exact⟨E,h1,h2⟩
end Go.TV
