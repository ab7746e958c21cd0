import Derived.Test.YtmebgielemmehaaGreatDoorKac
set_option linter.unusedVariables false
set_option linter.unusedSimpArgs false
set_option linter.constructorNameAsVariable false
set_option linter.defProp false
namespace Go.TV
open Go.AI Go.PI Go.Proofs
set_option maxRecDepth 20000
def Xz(L M k:Nat):cD L M k=cG (L+7000) (M+99+k):=FD (λn i d r h=>by
 unfold Kd at h;cases hb:Nat.beq i 20 with
 |false=>rw[hb]at h;cases h
 |true=>
  rw[hb,aI]at h;split at h
  .rw[aE hb];have:=Qu L (M+n);rw[show M+n+100=M+99+n+1 by omega]at this
   rw[this];exact h
  .cases h) k
def Uk(e:G.E):Bool:=Nat.ble e.functions.length 1000&&e.functions.all λf=>Nat.ble f.params.length 3
def aOD(E:List G.E):Bool:=Nat.ble 1 E.length&&Nat.ble E.length 1000&&E.all Uk
def WY(X:Nat->T3): ∀(l:List Sk) (j:Nat),(eF X l j).length=l.length
 |[],_=>rfl
 |s::l,j=>by rw[eF,aM,aM,WY X l (j+1)]
def Ka{X μ:Nat->T3}: ∀(l:List Sk) (j:Nat),(∀i,i<j+l.length->X i=μ i)->eF X l j=eF μ l j
 |[],_,_=>rfl
 |s::l,j,h=>by
  rw[eF,eF,h j (by rw[aM];omega),Ka l (j+1) (λi hi=>h i (by rw[aM];omega))]
def WZ(X:Nat->T3)(s:Sk): ∀(l:List Sk) (j:Nat),eF X (l++ [s]) j=eF X l j++ [aMU s (X (j+l.length))]
 |[],j=>rfl
 |t::l,j=>by
  rw[aY,eF,WZ X s l (j+1),eF,aY,aM,show j+1+l.length=j+(l.length+1) by omega]
def Um:skL.length=28:=by kernel_rfl
def AJ(k:Nat)(h:k<=28):(skL.take k).length=k:=by rw[List.length_take,Um];omega
def LU(X:Nat->T3)(k:Nat)(h:k<=28):(eL X k).length=k:=by rw[eL,WY,AJ k h]
def WX{X μ:Nat->T3}(k:Nat)(hk:k<=28)(h: ∀j,j<k->X j=μ j):eL X k=eL μ k:=Ka _ 0 λi hi=>h i (by rw[AJ k hk]at hi;omega)
def aCV(X:Nat->T3)(k:Nat)(h:k<28):eL X (k+1)=eL X k++ [aMU (aQl k) (X k)]:=by
 have h1:k<skL.length:=by rw[Um];exact h
 have e:skL.take (k+1)=skL.take k++ [aQl k]:=by
  rw[List.take_add_one,aQl,aV h1];rfl
 rw[eL,e,WZ,AJ k (by omega),Nat.zero_add];rfl
def aQk:(skL.all λs=>Nat.ble s.2.length 3)=true:=by kernel_rfl
def aWf{s:Sk}(h:Nat.ble s.2.length 3=true)(x:T3):Uk (aMU s x)=true:=by
 show(Nat.ble 1 1000&&([_]:List G.F).all _)=true;simp only[aP,List.all_nil,bE,List.length_map,h];rfl
def aGv(X:Nat->T3): ∀(l:List Sk) (j:Nat),(∀s∈l,Nat.ble s.2.length 3=true)->(eF X l j).all Uk=true
 |[],_,_=>rfl
 |s::l,j,h=>by
  rw[eF,aP,aWf (h s (aH ..)),aGv X l (j+1) (λt ht=>h t (aG _ ht))];rfl
def aWg(X:Nat->T3)(k:Nat):(eL X k).all Uk=true:=aGv X _ 0 λs hs=>bJ.1 aQk s (List.mem_of_mem_take hs)
def aCp{W:Type}{a:G.E}{K:G.E×Unit->Option W}:fZ (D:=U0.D) [.rc 15] (some [yR 15 a]) K=K (a,()):=rfl
def aCj{W:Type}{a:G.Y}{K:G.Y×Unit->Option W}:Bm (some [yR 1 a]) K=K (a,()):=rfl
def aCk{W:Type}{a:List G.Y}{K:List G.Y×Unit->Option W}:IM (some [yS 1 a]) K=K (a,()):=rfl
def aCl{W:Type}{a:List G.O}{K:List G.O×Unit->Option W}:fZ (D:=U0.D) [.sl (.rc 2)] (some [yS 2 a]) K=K (a,()):=rfl
def aCo{W:Type}{a:List G.E}{K:List G.E×Unit->Option W}:fZ (D:=U0.D) [.sl (.rc 15)] (some [yS 15 a]) K=K (a,()):=rfl
def aCn{W:Type}{a:List (List G.F)}{K:List (List G.F)×Unit->Option W}:fZ (D:=U0.D) [.sl (.sl (.rc 5))] (some [⟨.sl (.sl (.rc 5)),a⟩]) K=K (a,()):=rfl
def aCm{W:Type}{a:List G.L}{K:List G.L×Unit->Option W}:fZ (D:=U0.D) [.sl (.rc 16)] (some [yS 16 a]) K=K (a,()):=rfl
def aEo{W:Type}{b:Bool}{A:Option W}(h:b=true):jC b A=A:=by rw[h];rfl
def aBe{c:cJ}{L m k:Nat}{E:List G.E}{o:G.O}{e:G.E}(ho:oAll[k]?=some o)(hk:k<1000)(hE:E.length<1000)
    (h:c 21 [yS 15 E,yR 2 o]=some [yR 15 e]):
    Ah c L (m+1) oAll (k:Int) E=Ah c L m oAll ((k+1:Nat):Int) (E++ [e]):=by
 have bh:k<oAll.length:=(List.getElem?_eq_some_iff.1 ho).1;show Tp c (Ah c L m) oAll (k:Int) E=_;rw[Tp,dT (by omega:k<oAll.length),cC,bZ,ho,cY,h,aCp,aEo,dU (by omega)]
 rw[Nat.ble_eq];simp only[aM,aX];omega
def OZ(L M:Nat){c:cJ}(hc:c=cG (L+7000) (M+157)){L':Nat}: ∀(r k m:Nat) (X:Nat->T3),k+r=28->∃X',Ah c L' (m+r) oAll (k:Int) (eL X k)=Ah c L' m oAll ((28:Nat):Int) (eL X' 28)
 |0,k,m,X,h=>by
  obtain rfl:k=28:=by omega
  exact⟨X,rfl⟩
 |r+1,k,m,X,h=>by
  have hl:oAll.length=28:=by kernel_rfl
  have ho:oAll[k]?=some (oAll[k]'(by omega)):=aV _
  have h1:=aSY L M X k _ ho;unfold pE at h1;rw[Xz]at h1;obtain⟨x,hx⟩:=aMT h1;have hs:eL (λj=>if j=k then x else X j) (k+1)=eL X k++ [aMU (aQl k) x]:=by
   rw[aCV _ k (by omega),WX (X:=λj=>if j=k then x else X j) (μ:=X) k (by omega) (λj hj=>bH (by omega)),bI rfl]
  obtain⟨X',h2⟩:=OZ L M hc (L':=L') r (k+1) m (λj=>if j=k then x else X j) (by omega)
  refine⟨X',?_⟩;rw[<-h2,hs,show m+(r+1)=m+r+1 by omega]
  exact aBe ho (by omega) (by rw[LU _ k (by omega)];omega) (by rw[hc];exact hx)
def a1f(r:Rt):Bool:=match r with|some [⟨.rc 1,_⟩]=>true|_=>false
def aMf{r:Rt}(h:a1f r=true): ∃s:G.Y,r=some [yR 1 s]:=by
 unfold a1f at h;split at h
 .exact⟨_,rfl⟩
 .cases h
def a1c(r:Rt):Bool:=match r with|some [⟨.sl (.rc 1),_⟩]=>true|_=>false
def aMd{r:Rt}(h:a1c r=true): ∃s:List G.Y,r=some [yS 1 s]:=by
 unfold a1c at h;split at h
 .exact⟨_,rfl⟩
 .cases h
def a02(L M:Nat):a1f (cD L M 58 22 [yT [117,115,101,114,45,112,97,99,107,97,103,101]])=true:=by kernel_rfl
def a01(L M:Nat):a1c (cD L M 58 23 [])=true:=by kernel_rfl
def aI8{c:cJ}{L m:Nat}{E:List G.E}{s1:G.Y}{s2:List G.Y}(h31:c 22 [yT [117,115,101,114,45,112,97,99,107,97,103,101]]=some [yR 1 s1])
    (h32:c 23 []=some [yS 1 s2]) (hE:E.length=28): ∃e,Ah c L (m+1) oAll ((28:Nat):Int) E=some [yS 15 (E++ [e])]/\Uk e=true:=by
 have hl:oAll.length=28:=by kernel_rfl
 apply Exists.intro;apply And.intro
 .show Tp c (Ah c L m) oAll ((28:Nat):Int) E=_;rw[Tp,bG (by rw[hl];omega),bU,h31,aCj,h32,aCk,aEo]
  .exact rfl
  .rw[Nat.ble_eq,hE];simp only[aM,aX];omega
 .rfl
def aBk(L M:Nat): ∃E:List G.E,cG (L+7000) (M+158) 8 []=some [yS 15 E]/\E.length=29/\E.all Uk=true:=by
 have hd:=Qu L (M+57);obtain⟨s1,h31⟩:=aMf (a02 L M);obtain⟨s2,h32⟩:=aMd (a01 L M);rw[Xz]at h31 h32;obtain⟨X,hw⟩:=OZ L M (c:=cG (L+7000) (M+157)) rfl (L':=L+7000) 28 0 (L+6972) (λ_=>(aOw,aOw,aOw)) rfl
 rw[show M+158=M+157+1 by omega,c8,F8,aOn]
 rw[show M+57+100=M+157 by omega]at hd
 rw[show M+99+58=M+157 by omega]at h31 h32
 rw[hd,aCl];have e0:(λm=>Ah (cG (L+7000) (M+157)) (L+7000) m oAll (0:Int) ([]:List G.E)) (L+7000)=_:=hw
 obtain⟨e,h3,h4⟩:=aI8 (m:=L+6971) (L:=L+7000) h31 h32 (LU X 28 (by omega))
 refine⟨_,e0.trans h3,?_,?_⟩
 .show(eL X 28++ [e]:List G.E).length=29;rw[aZ,LU _ 28 (by omega)];rfl
 .show(eL X 28++ [e]:List G.E).all Uk=true;rw[List.all_append,aWg,aP,h4];rfl
def gB(G:List (List G.F)):Bool:=Nat.ble G.length 500&&G.all λg=>match g with|[]=>false|f::r=>Nat.ble (f::r).length 1000&&(f::r).all λf=>Nat.ble f.params.length 3
def gR(r:Rt):Bool:=match r with|some [⟨.sl (.sl (.rc 5)),G⟩]=>gB G|_=>false
def aVZ{r:Rt}(h:gR r=true): ∃G:List (List G.F),r=some [⟨.sl (.sl (.rc 5)),G⟩]/\gB G=true:=by
 unfold gR at h;split at h
 .rename_i G;exact⟨G,rfl,h⟩
 .cases h
def lR(r:Rt):Bool:=match r with|some [⟨.sl (.rc 16),l⟩]=>Nat.ble l.length 500|_=>false
def aTD{r:Rt}(h:lR r=true): ∃l:List G.L,r=some [yS 16 l]/\l.length<=500:=by
 unfold lR at h;split at h
 .rename_i l;exact⟨l,rfl,bP h⟩
 .cases h
def a04(L M:Nat):gR (cD L M 59 9 [])=true:=by kernel_rfl
def a03(L M:Nat):lR (cD L M 59 10 [])=true:=by kernel_rfl
def IW{c:cJ}{L:Nat}{ls:List G.L}{E:List G.E}: ∀(r:List G.L) (k m:Nat),ls.drop k=r->k+r.length<1000->Gg c L (m+r.length+1) (0:Int) ls (k:Int) E=some [yS 15 E]
 |[],k,m,h,hk=>by
  have hn:=dJ h;show Tq c _ (0:Int) ls (k:Int) E=_;rw[Tq,dF (by omega: ¬k<ls.length),bU]
 |x::r,k,m,h,hk=>by
  obtain⟨h1,h2,h3⟩:=dL h;rw[aM]at hk;show Tq c (aOb c L (Gg c L (m+r.length+1))) (0:Int) ls (k:Int) E=_;rw[Tq,dT (by omega:k<ls.length),cC,aEo (by simp),Int.zero_fdiv]
  rw[show decide ((IntKind.u32.wrap ((BitVec.ofInt IntKind.u32.bits 0&&&BitVec.ofInt IntKind.u32.bits (1:Int)).toNat:Int))=(0:Int))=true from by decide,cC]
  show Gg c L (m+r.length+1) (0:Int) ls (IntKind.i64.wrap ((k:Int)+1)) E=_;rw[dU (by omega)]
  exact IW r (k+1) m h3 (by omega)
def JF{c:cJ}{L:Nat}{Q:List (List G.F)}{ls:List G.L}(h12:c 10 []=some [yS 16 ls])(qn:ls.length<=500)(hL:600<=L):
    ∀(r:List (List G.F)) (k m:Nat) (E:List G.E),Q.drop k=r->(∀g∈r,∃f t,g=f::t/\g.length<=1000/\∀f∈g,f.params.length<=3)->k+r.length<=500->E.length+r.length<=900->E.all Uk=true->
      ∃E':List G.E,Tk c L (m+r.length+1) Q (k:Int) (0:Int) E=some [yS 15 E']/\(E.length<=E'.length/\E'.length<=900)/\E'.all Uk=true
 |[],k,m,E,h,_,hk,hE,ha=>by
  have hn:=dJ h;refine⟨E,?_,⟨aS _,by simpa using hE⟩,ha⟩
  show Ts c _ (Gg c L L) Q (k:Int) (0:Int) E=_;rw[Ts,dF (by omega: ¬k<Q.length),bU,h12,aCm]
  have h:=IW (c:=c) (L:=L) (ls:=ls) (E:=E) ls 0 (L-ls.length-1) rfl (by omega)
  rw[show L-ls.length-1+ls.length+1=L by omega]at h
  exact h
 |g::r,k,m,E,h,hg,hk,hE,ha=>by
  obtain⟨h1,h2,h3⟩:=dL h;obtain⟨f,t,rfl,hl,hp⟩:=hg g (aH ..);rw[aM]at hk hE;show∃E':List G.E,Ts c (Tk c L (m+r.length+1)) (Gg c L L) Q (k:Int) (0:Int) E=_/\_;rw[Ts,dT (by omega:k<Q.length),cC,bZ,h1,cY,show eK (f::t) (0:Int)=some f from rfl,cY,cY,aEo,dU (by omega)]
  .have g1:(E++ [(⟨3,f.name,⟨[],[]⟩,⟨⟨[],[]⟩,[],false,aOw⟩,f::t,[],[],[],⟨⟨[],[]⟩,[]⟩,[],[],[],[],0⟩:G.E)]).length+r.length<=900:=by
    rw[aZ];simp only[aM,aX];omega
   have g2:(E++ [(⟨3,f.name,⟨[],[]⟩,⟨⟨[],[]⟩,[],false,aOw⟩,f::t,[],[],[],⟨⟨[],[]⟩,[]⟩,[],[],[],[],0⟩:G.E)]).all Uk=true:=by
    rw[List.all_append,ha,aP,List.all_nil];simp only[Bool.true_and,bE];show(Nat.ble (f::t).length 1000&&(f::t).all λf=>Nat.ble f.params.length 3)=true
    rw[aC,Nat.ble_eq,bJ];exact⟨hl,λf hf=>by rw[Nat.ble_eq];exact hp f hf⟩
   obtain⟨E',q1,q2,q3⟩:=JF h12 qn hL r (k+1) m _ h3 (λg bp=>hg g (aG _ bp)) (by omega) g1 g2
   exact⟨E',q1,⟨by rw[aZ]at q2;omega,q2.2⟩,q3⟩
  .rw[Nat.ble_eq];simp only[aM,aX];omega
def GU(L M:Nat): ∃E,cG (L+7000) (M+159) 3 [⟨.int .u32,(0:Int)⟩]=some [yS 15 E]/\aOD E=true:=by
 obtain⟨E0,h10,hl0,ha0⟩:=aBk L M;obtain⟨Q,h11,hG⟩:=aVZ (a04 L M);obtain⟨ls,h12,qn⟩:=aTD (a03 L M);rw[Xz,show M+99+59=M+158 by omega]at h11 h12
 simp only[gB,aC,bJ]at hG;have hG1:=bP hG.1;rw[show M+159=M+158+1 by omega,c3,F3,aOr,h10,aCo,h11,aCn]
 obtain⟨E',h1,h2,h3⟩:=JF (L:=L+7000) h12 qn (by omega) Q 0 (L+7000-Q.length-1) E0 rfl (λg hg=>by
  have:=hG.2 g hg;split at this
  .cases this
  .rename_i f t;simp only[aC,bJ]at this;exact⟨f,t,rfl,bP this.1,λf hf=>bP (this.2 f hf)⟩) (by omega) (by omega) ha0
 rw[show L+7000-Q.length-1+Q.length+1=L+7000 by omega]at h1
 refine⟨E',h1,?_⟩;simp only[aOD,aC];exact⟨⟨by rw[Nat.ble_eq];omega,by rw[Nat.ble_eq];omega⟩,h3⟩
end Go.TV
