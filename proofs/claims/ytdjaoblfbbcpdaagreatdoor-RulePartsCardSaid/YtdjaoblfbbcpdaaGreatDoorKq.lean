import Derived.Test.YtdjaoblfbbcpdaaGreatDoorKp
set_option linter.unusedVariables false
set_option linter.unusedSimpArgs false
set_option linter.constructorNameAsVariable false
set_option linter.defProp false
namespace Go.TV
open Go.AI Go.PI Go.Proofs
set_option maxRecDepth 20000
def Qq(L M k:Nat):cD L M k=bR (L+7000) (M+99+k):=Kp (λn i d r h=>by
 unfold Kd at h;cases hb:Nat.beq i 44 with
 |false=>rw[hb]at h;cases h
 |true=>
  rw[hb,aI]at h;split at h
  .rw[aE hb];have:=XK L (M+n);rw[show M+n+100=M+99+n+1 by omega]at this
   rw[this];exact h
  .cases h) k
def aBe(e:G.E):Bool:=Nat.ble e.functions.length 1000&&e.functions.all λf=>Nat.ble f.params.length 3&&tO f.body
def aR9(E:List G.E):Bool:=Nat.ble 1 E.length&&Nat.ble E.length 1000&&E.all aBe
def aFb(X:Nat->T3): ∀(l:List Sk) (j:Nat),(eF X l j).length=l.length
 |[],_=>rfl
 |s::l,j=>by rw[eF,aM,aM,aFb X l (j+1)]
def Qa{X μ:Nat->T3}: ∀(l:List Sk) (j:Nat),(∀i,i<j+l.length->X i=μ i)->eF X l j=eF μ l j
 |[],_,_=>rfl
 |s::l,j,h=>by
  rw[eF,eF,h j (by rw[aM];omega),Qa l (j+1) (λi hi=>h i (by rw[aM];omega))]
def aFc(X:Nat->T3)(s:Sk): ∀(l:List Sk) (j:Nat),eF X (l++ [s]) j=eF X l j++ [aAC s (X (j+l.length))]
 |[],j=>rfl
 |t::l,j=>by
  rw[aY,eF,aFc X s l (j+1),eF,aY,aM,show j+1+l.length=j+(l.length+1) by omega]
def aBW:skL.length=28:=by kernel_rfl
def Dv(k:Nat)(h:k<=28):(skL.take k).length=k:=by rw[List.length_take,aBW];omega
def Sl(X:Nat->T3)(k:Nat)(h:k<=28):(eL X k).length=k:=by rw[eL,aFb,Dv k h]
def aFa{X μ:Nat->T3}(k:Nat)(hk:k<=28)(h: ∀j,j<k->X j=μ j):eL X k=eL μ k:=Qa _ 0 λi hi=>h i (by rw[Dv k hk]at hi;omega)
def aLG(X:Nat->T3)(k:Nat)(h:k<28):eL X (k+1)=eL X k++ [aAC (HT k) (X k)]:=by
 have h1:k<skL.length:=by rw[aBW];exact h
 have e:skL.take (k+1)=skL.take k++ [HT k]:=by
  rw[List.take_add_one,HT,aV h1];rfl
 rw[eL,e,aFc,Dv k (by omega),Nat.zero_add];rfl
def a4p:(skL.all λs=>Nat.ble s.2.length 3)=true:=by kernel_rfl
def a8V{s:Sk}(h:Nat.ble s.2.length 3=true){x:T3}(hx:BU s.1 x.2.1=true):aBe (aAC s x)=true:=by
 unfold BU at hx;rw[aC]at hx;show(Nat.ble 1 1000&&([_]:List G.F).all _)=true;simp only[aP,List.all_nil,bE,List.length_map,h,hx.1];rfl
def aOW(X:Nat->T3): ∀(l:List Sk) (j:Nat),(∀s∈l,Nat.ble s.2.length 3=true)->(∀i s,l[i]?=some s->BU s.1 (X (j+i)).2.1=true)->(eF X l j).all aBe=true
 |[],_,_,_=>rfl
 |s::l,j,h,hx=>by
  rw[eF,aP,a8V (h s (aH ..)) (by have:=hx 0 s rfl;rwa [Nat.add_zero]at this),aOW X l (j+1) (λt ht=>h t (aG _ ht)) (λi t ht=>by
   have:=hx (i+1) t (by simpa using ht)
   rwa [show j+(i+1)=j+1+i by omega]at this)];rfl
def a8Y{X:Nat->T3}{k:Nat}(hx: ∀i,i<k->BU (HT i).1 (X i).2.1=true):(eL X k).all aBe=true:=aOW X _ 0 (λs hs=>bJ.1 a4p s (List.mem_of_mem_take hs)) (λi s h=>by
 rw[List.getElem?_take]at h;split at h
 .rename_i hi;have:=hx i hi;unfold HT at this;rw[h]at this
  rwa [Nat.zero_add]
 .cases h)
def aK0{W:Type}{a:G.E}{K:G.E×Unit->Option W}:fY (D:=U0.D) [.rc 15] (some [yR 15 a]) K=K (a,()):=rfl
def aKU{W:Type}{a:G.Y}{K:G.Y×Unit->Option W}:pL (some [yR 1 a]) K=K (a,()):=rfl
def aKV{W:Type}{a:List G.Y}{K:List G.Y×Unit->Option W}:fY (D:=U0.D) [.sl (.rc 1)] (some [yS 1 a]) K=K (a,()):=rfl
def aKW{W:Type}{a:List G.O}{K:List G.O×Unit->Option W}:fY (D:=U0.D) [.sl (.rc 2)] (some [yS 2 a]) K=K (a,()):=rfl
def aKZ{W:Type}{a:List G.E}{K:List G.E×Unit->Option W}:fY (D:=U0.D) [.sl (.rc 15)] (some [yS 15 a]) K=K (a,()):=rfl
def aKY{W:Type}{a:List (List G.F)}{K:List (List G.F)×Unit->Option W}:fY (D:=U0.D) [.sl (.sl (.rc 7))] (some [⟨.sl (.sl (.rc 7)),a⟩]) K=K (a,()):=rfl
def aKX{W:Type}{a:List G.L}{K:List G.L×Unit->Option W}:fY (D:=U0.D) [.sl (.rc 16)] (some [yS 16 a]) K=K (a,()):=rfl
def aMG{W:Type}{b:Bool}{A:Option W}(h:b=true):kV b A=A:=by rw[h];rfl
def aJM{c:bU}{L m k:Nat}{E:List G.E}{o:G.O}{e:G.E}(ho:oAll[k]?=some o)(hk:k<1000)(hE:E.length<1000)
    (h:c 45 [yS 15 E,yR 2 o]=some [yR 15 e]):
    tS c L (m+1) oAll (k:Int) E=tS c L m oAll ((k+1:Nat):Int) (E++ [e]):=by
 have bi:k<oAll.length:=(List.getElem?_eq_some_iff.1 ho).1;show HH c (tS c L m) oAll (k:Int) E=_;rw[HH,dT (by omega:k<oAll.length),bP,bW,ho,cM,h,aK0,aMG,fF (by omega)]
 rw[Nat.ble_eq];simp only[aM,aX];omega
def VV(L M:Nat){c:bU}(hc:c=bR (L+7000) (M+157)){L':Nat}: ∀(r k m:Nat) (X:Nat->T3),k+r=28->(∀i,i<k->BU (HT i).1 (X i).2.1=true)->∃X',(∀i,i<28->BU (HT i).1 (X' i).2.1=true)/\tS c L' (m+r) oAll (k:Int) (eL X k)=tS c L' m oAll ((28:Nat):Int) (eL X' 28)
 |0,k,m,X,h,hx=>by
  obtain rfl:k=28:=by omega
  exact⟨X,hx,rfl⟩
 |r+1,k,m,X,h,hx=>by
  have hl:oAll.length=28:=by kernel_rfl
  have ho:oAll[k]?=some (oAll[k]'(by omega)):=aV _
  have h1:=a5R L M X k _ ho;unfold pE at h1;rw[Qq]at h1;obtain⟨x,hx1,hb⟩:=a0e h1;have hs:eL (λj=>if j=k then x else X j) (k+1)=eL X k++ [aAC (HT k) x]:=by
   rw[aLG _ k (by omega),aFa (X:=λj=>if j=k then x else X j) (μ:=X) k (by omega) (λj hj=>bH (by omega)),bI rfl]
  obtain⟨X',lj,h2⟩:=VV L M hc (L':=L') r (k+1) m (λj=>if j=k then x else X j) (by omega) (λi hi=>by
   by_cases e:i=k
   .subst e;simp only[bI];exact hb
   .simp only[bH e];exact hx i (by omega))
  refine⟨X',lj,?_⟩;rw[<-h2,hs,show m+(r+1)=m+r+1 by omega]
  exact aJM ho (by omega) (by rw[Sl _ k (by omega)];omega) (by rw[hc];exact hx1)
def bEe(r:Rt):Bool:=match r with|some [⟨.rc 1,_⟩]=>true|_=>false
def aZc{r:Rt}(h:bEe r=true): ∃s:G.Y,r=some [yR 1 s]:=by
 unfold bEe at h;split at h
 .exact⟨_,rfl⟩
 .cases h
def bEb(r:Rt):Bool:=match r with|some [⟨.sl (.rc 1),_⟩]=>true|_=>false
def aZa{r:Rt}(h:bEb r=true): ∃s:List G.Y,r=some [yS 1 s]:=by
 unfold bEb at h;split at h
 .exact⟨_,rfl⟩
 .cases h
def bDR(L M:Nat):bEe (cD L M 58 46 [yT [117,115,101,114,45,112,97,99,107,97,103,101]])=true:=by kernel_rfl
def bDQ(L M:Nat):bEb (cD L M 58 47 [])=true:=by kernel_rfl
def aQz{c:bU}{L m:Nat}{E:List G.E}{s1:G.Y}{s2:List G.Y}(h31:c 46 [yT [117,115,101,114,45,112,97,99,107,97,103,101]]=some [yR 1 s1])
    (aZH:c 47 []=some [yS 1 s2]) (hE:E.length=28): ∃e,tS c L (m+1) oAll ((28:Nat):Int) E=some [yS 15 (E++ [e])]/\aBe e=true:=by
 have hl:oAll.length=28:=by kernel_rfl
 apply Exists.intro;apply And.intro
 .show HH c (tS c L m) oAll ((28:Nat):Int) E=_;rw[HH,bG (by rw[hl];omega),bM,h31,aKU,aZH,aKV,aMG]
  .exact rfl
  .rw[Nat.ble_eq,hE];simp only[aM,aX];omega
 .rfl
def aJN(L M:Nat): ∃E:List G.E,bR (L+7000) (M+158) 17 []=some [yS 15 E]/\E.length=29/\E.all aBe=true/\∃a x R,E=aAC (HT 0) a::aAC (HT 1) x::R/\BU (HT 1).1 x.2.1=true:=by
 have hd:=XK L (M+57);obtain⟨s1,h31⟩:=aZc (bDR L M);obtain⟨s2,aZH⟩:=aZa (bDQ L M);rw[Qq]at h31 aZH;obtain⟨X,hX,hw⟩:=VV L M (c:=bR (L+7000) (M+157)) rfl (L':=L+7000) 28 0 (L+6972) (λ_=>(a2S,a2S,a2S)) rfl (λi hi=>by omega)
 rw[show M+158=M+157+1 by omega,bJn,bBq,aII]
 rw[show M+57+100=M+157 by omega]at hd
 rw[show M+99+58=M+157 by omega]at h31 aZH
 rw[hd,aKW];have e0:(λm=>tS (bR (L+7000) (M+157)) (L+7000) m oAll (0:Int) ([]:List G.E)) (L+7000)=_:=hw
 obtain⟨e,h3,h4⟩:=aQz (m:=L+6971) (L:=L+7000) h31 aZH (Sl X 28 (by omega))
 refine⟨_,e0.trans h3,?_,?_,X 0,X 1,_,rfl,hX 1 (by omega)⟩
 .show(eL X 28++ [e]:List G.E).length=29;rw[aZ,Sl _ 28 (by omega)];rfl
 .show(eL X 28++ [e]:List G.E).all aBe=true;rw[List.all_append,a8Y hX,aP,h4];rfl
def gB(G:List (List G.F)):Bool:=Nat.ble G.length 500&&G.all λg=>match g with|[]=>false|f::r=>Nat.ble (f::r).length 1000&&(f::r).all λf=>Nat.ble f.params.length 3&&tO f.body
def gR(r:Rt):Bool:=match r with|some [⟨.sl (.sl (.rc 7)),G⟩]=>gB G|_=>false
def a8E{r:Rt}(h:gR r=true): ∃G:List (List G.F),r=some [⟨.sl (.sl (.rc 7)),G⟩]/\gB G=true:=by
 unfold gR at h;split at h
 .rename_i G;exact⟨G,rfl,h⟩
 .cases h
def lR(r:Rt):Bool:=match r with|some [⟨.sl (.rc 16),l⟩]=>Nat.ble l.length 500|_=>false
def a6P{r:Rt}(h:lR r=true): ∃l:List G.L,r=some [yS 16 l]/\l.length<=500:=by
 unfold lR at h;split at h
 .rename_i l;exact⟨l,rfl,bK h⟩
 .cases h
def bDT(L M:Nat):gR (cD L M 59 18 [])=true:=by kernel_rfl
def bDS(L M:Nat):lR (cD L M 59 19 [])=true:=by kernel_rfl
def PK{c:bU}{L:Nat}{ls:List G.L}{E:List G.E}: ∀(r:List G.L) (k m:Nat),ls.drop k=r->k+r.length<1000->LQ c L (m+r.length+1) (0:Int) ls (k:Int) E=some [yS 15 E]
 |[],k,m,h,hk=>by
  have hn:=dH h;show aA9 c _ (0:Int) ls (k:Int) E=_;rw[aA9,dF (by omega: ¬k<ls.length),bM]
 |x::r,k,m,h,hk=>by
  obtain⟨h1,h2,h3⟩:=dL h;rw[aM]at hk;show aA9 c (a15 c L (LQ c L (m+r.length+1))) (0:Int) ls (k:Int) E=_;rw[aA9,dT (by omega:k<ls.length),bP,aMG (by simp),Int.zero_fdiv]
  rw[show decide ((IntKind.u32.wrap ((BitVec.ofInt IntKind.u32.bits 0&&&BitVec.ofInt IntKind.u32.bits (1:Int)).toNat:Int))=(0:Int))=true from by decide,bP]
  show LQ c L (m+r.length+1) (0:Int) ls (IntKind.i64.wrap ((k:Int)+1)) E=_;rw[fF (by omega)]
  exact PK r (k+1) m h3 (by omega)
def PT{c:bU}{L:Nat}{Q:List (List G.F)}{ls:List G.L}(h12:c 19 []=some [yS 16 ls])(vw:ls.length<=500)(hL:600<=L):
    ∀(r:List (List G.F)) (k m:Nat) (E:List G.E),Q.drop k=r->(∀g∈r,∃f t,g=f::t/\g.length<=1000/\∀f∈g,f.params.length<=3/\tO f.body=true)->k+r.length<=500->E.length+r.length<=900->E.all aBe=true->
      ∃E':List G.E,aA6 c L (m+r.length+1) Q (k:Int) (0:Int) E=some [yS 15 E']/\(E.length<=E'.length/\E'.length<=900)/\E'.all aBe=true/\∃R,E'=E++R
 |[],k,m,E,h,_,hk,hE,ha=>by
  have hn:=dH h;refine⟨E,?_,⟨aS _,by simpa using hE⟩,ha,[],by simp⟩
  show aBa c _ (LQ c L L) Q (k:Int) (0:Int) E=_;rw[aBa,dF (by omega: ¬k<Q.length),bM,h12,aKX]
  have h:=PK (c:=c) (L:=L) (ls:=ls) (E:=E) ls 0 (L-ls.length-1) rfl (by omega)
  rw[show L-ls.length-1+ls.length+1=L by omega]at h
  exact h
 |g::r,k,m,E,h,hg,hk,hE,ha=>by
  obtain⟨h1,h2,h3⟩:=dL h;obtain⟨f,t,rfl,hl,hp⟩:=hg g (aH ..);rw[aM]at hk hE;show∃E':List G.E,aBa c (aA6 c L (m+r.length+1)) (LQ c L L) Q (k:Int) (0:Int) E=_/\_;rw[aBa,dT (by omega:k<Q.length),bP,bW,h1,cM,show dE (f::t) (0:Int)=some f from rfl,cM,cM,aMG,fF (by omega)]
  .have g1:(E++ [(⟨3,f.name,⟨[],[]⟩,⟨⟨[],[]⟩,[],false,a2S⟩,f::t,[],[],[],⟨⟨[],[]⟩,[]⟩,[],[],[],[],0⟩:G.E)]).length+r.length<=900:=by
    rw[aZ];simp only[aM,aX];omega
   have g2:(E++ [(⟨3,f.name,⟨[],[]⟩,⟨⟨[],[]⟩,[],false,a2S⟩,f::t,[],[],[],⟨⟨[],[]⟩,[]⟩,[],[],[],[],0⟩:G.E)]).all aBe=true:=by
    rw[List.all_append,ha,aP,List.all_nil];simp only[Bool.true_and,bE];show(Nat.ble (f::t).length 1000&&(f::t).all λf=>Nat.ble f.params.length 3&&tO f.body)=true
    rw[aC,Nat.ble_eq,bJ];exact⟨hl,λf hf=>by rw[aC,Nat.ble_eq];exact hp f hf⟩
   obtain⟨E',q1,q2,q3,R,q4⟩:=PT h12 vw hL r (k+1) m _ h3 (λg bp=>hg g (aG _ bp)) (by omega) g1 g2
   exact⟨E',q1,⟨by rw[aZ]at q2;omega,q2.2⟩,q3,_,by rw[q4,aQ]⟩
  .rw[Nat.ble_eq];simp only[aM,aX];omega
def NY(L M:Nat): ∃E,bR (L+7000) (M+159) 2 [⟨.int .u32,(0:Int)⟩]=some [yS 15 E]/\aR9 E=true/\∃a x R,E=aAC (HT 0) a::aAC (HT 1) x::R/\BU (HT 1).1 x.2.1=true:=by
 obtain⟨E0,h10,hl0,ha0,xa,xx,xR,hE0,hbx⟩:=aJN L M;obtain⟨Q,h11,hG⟩:=a8E (bDT L M);obtain⟨ls,h12,vw⟩:=a6P (bDS L M);rw[Qq,show M+99+59=M+158 by omega]at h11 h12
 simp only[gB,aC,bJ]at hG;have hG1:=bK hG.1;rw[show M+159=M+158+1 by omega,c2,F2,a2K,h10,aKZ,h11,aKY]
 obtain⟨E',h1,h2,h3,R',h4⟩:=PT (L:=L+7000) h12 vw (by omega) Q 0 (L+7000-Q.length-1) E0 rfl (λg hg=>by
  have:=hG.2 g hg;split at this
  .cases this
  .rename_i f t;simp only[aC,bJ]at this;exact⟨f,t,rfl,bK this.1,λf hf=>by have:=this.2 f hf;exact⟨bK this.1,this.2⟩⟩) (by omega) (by omega) ha0
 rw[show L+7000-Q.length-1+Q.length+1=L+7000 by omega]at h1
 refine⟨E',h1,?_,xa,xx,xR++R',by rw[h4,hE0];rfl,hbx⟩
 simp only[aR9,aC];exact⟨⟨by rw[Nat.ble_eq];omega,by rw[Nat.ble_eq];omega⟩,h3⟩
end Go.TV
