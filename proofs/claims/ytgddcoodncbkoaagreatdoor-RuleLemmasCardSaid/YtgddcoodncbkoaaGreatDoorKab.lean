import Derived.Test.YtgddcoodncbkoaaGreatDoorKy
import Derived.Test.YtgddcoodncbkoaaGreatDoorKr
import Derived.Test.YtgddcoodncbkoaaGreatDoorKaa
set_option linter.unusedVariables false
set_option linter.unusedSimpArgs false
set_option linter.constructorNameAsVariable false
set_option linter.defProp false
namespace Go.TV
open Go.AI Go.PI Go.Proofs
set_option maxRecDepth 20000
def aEA(L M k:Nat):cD L M k=CTp (L+7000) (M+99+k):=aGp (λn i d r h=>by
 unfold Kd at h;cases hb:Nat.beq i 54 with
 |false=>rw[hb]at h;cases h
 |true=>
  rw[hb,cdt]at h;split at h
  ·rw[nqE hb];have:=aLh L (M+n);rw[show M+n+100=M+99+n+1 by omega]at this
   rw[this];exact h
  ·cases h) k
def smE(e:G.E):Bool:=Nat.ble e.functions.length 1000&&e.functions.all λf=>Nat.ble f.params.length 3
def ruE(e:G.E):Bool:=Nat.ble e.rules.length 1000
def smF(E:List G.E):Bool:=Nat.ble 1 E.length&&Nat.ble E.length 1000&&E.all smE
def eF_len(X:Nat->T3): ∀(l:List Sk) (j:Nat),(eF X l j).length=l.length
 |[],_=>rfl
 |s::l,j=>by rw[eF,lcS,lcS,eF_len X l (j+1)]
def aGs{X μ:Nat->T3}: ∀(l:List Sk) (j:Nat),(∀i,i<j+l.length->X i=μ i)->eF X l j=eF μ l j
 |[],_,_=>rfl
 |s::l,j,h=>by
  rw[eF,eF,h j (by rw[lcS];omega),aGs l (j+1) (λi hi=>h i (by rw[lcS];omega))]
def eF_app(X:Nat->T3)(s:Sk): ∀(l:List Sk) (j:Nat),eF X (l++ [s]) j=eF X l j++ [enE s (X (j+l.length))]
 |[],j=>rfl
 |t::l,j=>by
  rw[cnA,eF,eF_app X s l (j+1),eF,cnA,lcS,show j+1+l.length=j+(l.length+1) by omega]
def sk_len:skL.length=28:=by kernel_rfl
def zM(k:Nat)(h:k<=28):(skL.take k).length=k:=by rw[List.length_take,sk_len];omega
def aLg(X:Nat->T3)(k:Nat)(h:k<=28):(eL X k).length=k:=by rw[eL,eF_len,zM k h]
def eL_congr{X μ:Nat->T3}(k:Nat)(hk:k<=28)(h: ∀j,j<k->X j=μ j):eL X k=eL μ k:=aGs _ 0 λi hi=>h i (by rw[zM k hk]at hi;omega)
def eL_succ(X:Nat->T3)(k:Nat)(h:k<28):eL X (k+1)=eL X k++ [enE (skA k) (X k)]:=by
 have h1:k<skL.length:=by rw[sk_len];exact h
 have e:skL.take (k+1)=skL.take k++ [skA k]:=by
  rw[List.take_add_one,skA,geG h1];rfl
 rw[eL,e,eF_app,zM k (by omega),Nat.zero_add];rfl
def sk_sm:(skL.all λs=>Nat.ble s.2.length 3)=true:=by kernel_rfl
def en_sm{s:Sk}(h:Nat.ble s.2.length 3=true)(x:T3):smE (enE s x)=true:=by
 show(Nat.ble 1 1000&&([_]:List G.F).all _)=true;simp only[alC,List.all_nil,bnA,List.length_map,h];rfl
def eF_ru(X:Nat->T3): ∀(l:List Sk) (j:Nat),(eF X l j).all ruE=true
 |[],_=>rfl
 |s::l,j=>by rw[eF,alC,eF_ru X l (j+1)];rfl
def eF_sm(X:Nat->T3): ∀(l:List Sk) (j:Nat),(∀s∈l,Nat.ble s.2.length 3=true)->(eF X l j).all smE=true
 |[],_,_=>rfl
 |s::l,j,h=>by
  rw[eF,alC,en_sm (h s (mhE ..)),eF_sm X l (j+1) (λt ht=>h t (mtE _ ht))];rfl
def eL_sm(X:Nat->T3)(k:Nat):(eL X k).all smE=true:=eF_sm X _ 0 λs hs=>List.all_eq_true.1 sk_sm s (List.mem_of_mem_take hs)
def obLw_en{W:Type}{a:G.E}{K:G.E×Unit->Option W}:obL (D:=U0.D) [.rc 16] (some [yR 16 a]) K=K (a,()):=rfl
def obLw_sy{W:Type}{a:G.Y}{K:G.Y×Unit->Option W}:obL (D:=U0.D) [.rc 1] (some [yR 1 a]) K=K (a,()):=rfl
def obLw_ss{W:Type}{a:List G.Y}{K:List G.Y×Unit->Option W}:obL (D:=U0.D) [.sl (.rc 1)] (some [yS 1 a]) K=K (a,()):=rfl
def obLw_ob{W:Type}{a:List G.O}{K:List G.O×Unit->Option W}:obL (D:=U0.D) [.sl (.rc 2)] (some [yS 2 a]) K=K (a,()):=rfl
def obLw_es{W:Type}{a:List G.E}{K:List G.E×Unit->Option W}:obL (D:=U0.D) [.sl (.rc 16)] (some [yS 16 a]) K=K (a,()):=rfl
def obLw_gs{W:Type}{a:List (List G.F)}{K:List (List G.F)×Unit->Option W}:obL (D:=U0.D) [.sl (.sl (.rc 8))] (some [⟨.sl (.sl (.rc 8)),a⟩]) K=K (a,()):=rfl
def obLw_ls{W:Type}{a:List G.L}{K:List G.L×Unit->Option W}:obL (D:=U0.D) [.sl (.rc 6)] (some [yS 6 a]) K=K (a,()):=rfl
def chkw{W:Type}{b:Bool}{A:Option W}(h:b=true):chk b A=A:=by rw[h];rfl
def wr_step{c:TC0}{L m k:Nat}{E:List G.E}{o:G.O}{e:G.E}(ho:oAll[k]?=some o)(hk:k<1000)(hE:E.length<1000)
    (h:c 55 [yS 16 E,yR 2 o]=some [yR 16 e]):
    rS c L (m+1) oAll (k:Int) E=rS c L m oAll ((k+1:Nat):Int) (E++ [e]):=by
 have bi:k<oAll.length:=(List.getElem?_eq_some_iff.1 ho).1;show aIQ c (rS c L m) oAll (k:Int) E=_;rw[aIQ,dT (by omega:k<oAll.length),aG,aD,ho,aS,h,obLw_en,chkw,aX (by omega)]
 rw[Nat.ble_eq];simp only[lcS,lnN];omega
def aI6(L M:Nat){c:TC0}(hc:c=CTp (L+7000) (M+157)){L':Nat}: ∀(r k m:Nat) (X:Nat->T3),k+r=28->∃X',rS c L' (m+r) oAll (k:Int) (eL X k)=rS c L' m oAll ((28:Nat):Int) (eL X' 28)
 |0,k,m,X,h=>by
  obtain rfl:k=28:=by omega
  exact⟨X,rfl⟩
 |r+1,k,m,X,h=>by
  have hl:oAll.length=28:=by kernel_rfl
  have ho:oAll[k]?=some (oAll[k]'(by omega)):=geG _
  have h1:=p_all L M X k _ ho;unfold pE at h1;rw[aEA]at h1;obtain⟨x,hx⟩:=enR_ok h1;have hs:eL (λj=>if j=k then x else X j) (k+1)=eL X k++ [enE (skA k) x]:=by
   rw[eL_succ _ k (by omega),eL_congr (X:=λj=>if j=k then x else X j) (μ:=X) k (by omega) (λj hj=>if_neg (by omega)),if_pos rfl]
  obtain⟨X',h2⟩:=aI6 L M hc (L':=L') r (k+1) m (λj=>if j=k then x else X j) (by omega)
  refine⟨X',?_⟩;rw[<-h2,hs,show m+(r+1)=m+r+1 by omega]
  exact wr_step ho (by omega) (by rw[aLg _ k (by omega)];omega) (by rw[hc];exact hx)
def is1(r:Rt):Bool:=match r with|some [⟨.rc 1,_⟩]=>true|_=>false
def is1_ok{r:Rt}(h:is1 r=true): ∃s:G.Y,r=some [yR 1 s]:=by
 unfold is1 at h;split at h
 ·exact⟨_,rfl⟩
 ·cases h
def iss(r:Rt):Bool:=match r with|some [⟨.sl (.rc 1),_⟩]=>true|_=>false
def iss_ok{r:Rt}(h:iss r=true): ∃s:List G.Y,r=some [yS 1 s]:=by
 unfold iss at h;split at h
 ·exact⟨_,rfl⟩
 ·cases h
def kw31(L M:Nat):is1 (cD L M 58 37 [yT [117,115,101,114,45,112,97,99,107,97,103,101]])=true:=by kernel_rfl
def kw32(L M:Nat):iss (cD L M 58 56 [])=true:=by kernel_rfl
def wr_end{c:TC0}{L m:Nat}{E:List G.E}{s1:G.Y}{s2:List G.Y}(h31:c 37 [yT [117,115,101,114,45,112,97,99,107,97,103,101]]=some [yR 1 s1])
    (h32:c 56 []=some [yS 1 s2]) (hE:E.length=28): ∃e,rS c L (m+1) oAll ((28:Nat):Int) E=some [yS 16 (E++ [e])]/\smE e=true/\ruE e=true:=by
 have hl:oAll.length=28:=by kernel_rfl
 apply Exists.intro;apply And.intro
 ·show aIQ c (rS c L m) oAll ((28:Nat):Int) E=_;rw[aIQ,decide_eq_false (by rw[hl];omega),aC,h31,obLw_sy,h32,obLw_ss,chkw]
  ·exact rfl
  ·rw[Nat.ble_eq,hE];simp only[lcS,lnN];omega
 ·exact⟨rfl,rfl⟩
def world10(L M:Nat): ∃E:List G.E,CTp (L+7000) (M+158) 14 []=some [yS 16 E]/\E.length=29/\E.all smE=true/\E.all ruE=true:=by
 have hd:=aLh L (M+57);obtain⟨s1,h31⟩:=is1_ok (kw31 L M);obtain⟨s2,h32⟩:=iss_ok (kw32 L M);rw[aEA]at h31 h32;obtain⟨X,hw⟩:=aI6 L M (c:=CTp (L+7000) (M+157)) rfl (L':=L+7000) 28 0 (L+6972) (λ_=>(zTe,zTe,zTe)) rfl
 rw[show M+158=M+157+1 by omega,c14,F14,B14x0]
 rw[show M+57+100=M+157 by omega]at hd
 rw[show M+99+58=M+157 by omega]at h31 h32
 rw[hd,obLw_ob];have e0:(λm=>rS (CTp (L+7000) (M+157)) (L+7000) m oAll (0:Int) ([]:List G.E)) (L+7000)=_:=hw
 obtain⟨e,h3,h4,h5⟩:=wr_end (m:=L+6971) (L:=L+7000) h31 h32 (aLg X 28 (by omega))
 refine⟨_,e0.trans h3,?_,?_,?_⟩
 ·show(eL X 28++ [e]:List G.E).length=29;rw[lnA,aLg _ 28 (by omega)];rfl
 ·show(eL X 28++ [e]:List G.E).all smE=true;rw[List.all_append,eL_sm,alC,h4];rfl
 ·show(eL X 28++ [e]:List G.E).all ruE=true;rw[List.all_append,eL,eF_ru,alC,h5];rfl
def gB(G:List (List G.F)):Bool:=Nat.ble G.length 100&&G.all λg=>match g with|[]=>false|f::r=>Nat.ble (f::r).length 1000&&(f::r).all λf=>Nat.ble f.params.length 3
def gR(r:Rt):Bool:=match r with|some [⟨.sl (.sl (.rc 8)),G⟩]=>gB G|_=>false
def gR_ok{r:Rt}(h:gR r=true): ∃G:List (List G.F),r=some [⟨.sl (.sl (.rc 8)),G⟩]/\gB G=true:=by
 unfold gR at h;split at h
 ·rename_i G;exact⟨G,rfl,h⟩
 ·cases h
def lR(r:Rt):Bool:=match r with|some [⟨.sl (.rc 6),l⟩]=>Nat.ble 1 l.length&&Nat.ble l.length 500&&l.all λx=>Nat.ble (tsz x.formula) 1000|_=>false
def lR_ok{r:Rt}(h:lR r=true): ∃l:List G.L,r=some [yS 6 l]/\(1<=l.length/\l.length<=500)/\∀x∈l,tsz x.formula<=1000:=by
 unfold lR at h;split at h
 ·rename_i l;simp only[bjE,List.all_eq_true]at h;exact⟨l,rfl,⟨Nat.le_of_ble_eq_true h.1.1,Nat.le_of_ble_eq_true h.1.2⟩,λx hx=>Nat.le_of_ble_eq_true (h.2 x hx)⟩
 ·cases h
def kw11(L M:Nat):gR (cD L M 59 15 [])=true:=by kernel_rfl
def kw12(L M:Nat):lR (cD L M 59 3 [])=true:=by kernel_rfl
def wob_of{E:List G.E}(hl:E.length<=999)(hs:E.all smE=true)(hr:E.all ruE=true):WoB 1000 E:=by
 simp only[List.all_eq_true,smE,bjE,ruE]at hs hr;exact⟨by omega,λe he=>Nat.le_of_ble_eq_true (hs e he).1,λe he=>Nat.le_of_ble_eq_true (hr e he)⟩
def obLw_y{W:Type}{a:G.Y}{K:G.Y×Unit->Option W}:obL (D:=U0.D) [.rc 1] (some [yR 1 a]) K=K (a,()):=rfl
def obLw_re{W:Type}{r:G.U}{i:Int}{K:G.U×Int×Unit->Option W}:obL (D:=U0.D) [.rc 5,.int .i64] (some [yR 5 r,yI i]) K=K (r,i,()):=rfl
def aAm{c:TC0}{L:Nat}{ls:List G.L}{b:Int}(hu: ∀s:List UInt8,∃y:G.Y,c 4 [yT s]=some [yR 1 y])
    (hm: ∀(E:List G.E) (nm:G.Y) (x:G.L),x∈ls->WoB 1000 E->∃(r:G.U) (e:Int),c 6 [yS 16 E,yR 1 nm,yR 3 x.formula,yI x.cls]=some [yR 5 r,yI e]):
    ∀(r:List G.L) (k m:Nat) (E:List G.E),ls.drop k=r->k+r.length<1000->E.length+r.length<=990->E.all smE=true->E.all ruE=true->
    ∃E':List G.E,aNF c L (m+r.length+1) b ls (k:Int) E=some [yS 16 E']/\(E.length<=E'.length/\E'.length<=990)/\E'.all smE=true/\E'.all ruE=true
 |[],k,m,E,h,hk,hE,ha,hr=>by
  have hn:=aH h;refine⟨E,?_,⟨nlR _,by simpa using hE⟩,ha,hr⟩
  show B2x2 c _ _ b ls (k:Int) E=_;rw[B2x2,dF (by omega: ¬k<ls.length),aC]
 |x::r,k,m,E,h,hk,hE,ha,hr=>by
  obtain⟨h1,h2,h3⟩:=aI h;rw[lcS]at hk hE;have i1:idx ls (k:Int)=some x:=(aD ls k).trans h1;obtain⟨y,hy⟩:=hu x.name;obtain⟨q,e,hq⟩:=hm E y x (List.mem_of_getElem? h1) (wob_of (by omega) ha hr)
  have st: ∀en:G.E,smE en=true->ruE en=true->∃E':List G.E,J2x4 c L (aNF c L (m+r.length+1)) E (k:Int) b ls en=some [yS 16 E']/\(E.length<=E'.length/\E'.length<=990)/\E'.all smE=true/\E'.all ruE=true:=λen e1 e2=>by
   simp only[J2x4,B2x4,J2x3,B2x3];rw[chkw,aX (by omega)]
   ·obtain⟨E',q1,q2,q3⟩:=aAm hu hm (L:=L) (b:=b) r (k+1) m (E++ [en]) h3 (by omega) (by rw[lnA];simp only[lcS,lnN];omega) (by rw[List.all_append,ha,alC,e1];rfl) (by rw[List.all_append,hr,alC,e2];rfl)
    exact⟨E',q1,⟨by rw[lnA]at q2;omega,q2.2⟩,q3⟩
   ·rw[Nat.ble_eq];simp only[lcS,lnN];omega
  show∃E':List G.E,B2x2 c (J2x3 c L (aNF c L (m+r.length+1))) (J2x4 c L (aNF c L (m+r.length+1))) b ls (k:Int) E=_/\_;rw[B2x2,dT (by omega:k<ls.length),aG,chkw (by simp),i1]
  generalize decide ((IntKind.u32.wrap _:Int)=0)=z;cases z with
  |true=>
   rw[aG];simp only[J2x3,B2x3];rw[aX (by omega)]
   exact aAm hu hm r (k+1) m E h3 (by omega) (by omega) ha hr
  |false=>
   rw[aC];simp only[aS];rw[hy,obLw_y,hq,obLw_re];generalize decide (_=(0:Int))=z;cases z with
   |true=>exact st _ rfl rfl
   |false=>exact st _ rfl rfl
def aGc{c:TC0}{L:Nat}{Q:List (List G.F)}{ls:List G.L}{b:Int}(h12:c 3 []=some [yS 6 ls])(qx:ls.length<=500)(hL:600<=L)(hu: ∀s:List UInt8,∃y:G.Y,c 4 [yT s]=some [yR 1 y])
    (hm: ∀(E:List G.E) (nm:G.Y) (x:G.L),x∈ls->WoB 1000 E->∃(r:G.U) (e:Int),c 6 [yS 16 E,yR 1 nm,yR 3 x.formula,yI x.cls]=some [yR 5 r,yI e]):
    ∀(r:List (List G.F)) (k m:Nat) (E:List G.E),Q.drop k=r->(∀g∈r,∃f t,g=f::t/\g.length<=1000/\∀f∈g,f.params.length<=3)->k+r.length<=100->E.length+r.length<=400->E.all smE=true->E.all ruE=true->
      ∃E':List G.E,W2x1 c L (m+r.length+1) Q (k:Int) b E=some [yS 16 E']/\(E.length<=E'.length/\E'.length<=990)/\E'.all smE=true/\E'.all ruE=true
 |[],k,m,E,h,_,hk,hE,ha,hr=>by
  have hn:=aH h;show∃E':List G.E,B2x1 c _ (aNF c L L) Q (k:Int) b E=_/\_;rw[B2x1,dF (by omega: ¬k<Q.length),aC,h12,obLw_ls]
  have h:=aAm (c:=c) (L:=L) (ls:=ls) (b:=b) hu hm ls 0 (L-ls.length-1) E rfl (by omega) (by simp only[lnN]at hE;omega) ha hr
  rw[show L-ls.length-1+ls.length+1=L by omega]at h
  exact h
 |g::r,k,m,E,h,hg,hk,hE,ha,hr=>by
  obtain⟨h1,h2,h3⟩:=aI h;obtain⟨f,t,rfl,hl,hp⟩:=hg g (mhE ..);rw[lcS]at hk hE;show∃E':List G.E,B2x1 c (W2x1 c L (m+r.length+1)) (aNF c L L) Q (k:Int) b E=_/\_;rw[B2x1,dT (by omega:k<Q.length),aG,aD,h1,aS,show idx (f::t) (0:Int)=some f from rfl,aS,aS,chkw,aX (by omega)]
  ·have g1:(E++ [(⟨3,f.name,⟨[],[]⟩,⟨⟨[],[]⟩,[],false,zTe⟩,f::t,[],[],[],⟨⟨[],[]⟩,[]⟩,[],[],[],[],0⟩:G.E)]).length+r.length<=400:=by
    rw[lnA];simp only[lcS,lnN];omega
   have g2:(E++ [(⟨3,f.name,⟨[],[]⟩,⟨⟨[],[]⟩,[],false,zTe⟩,f::t,[],[],[],⟨⟨[],[]⟩,[]⟩,[],[],[],[],0⟩:G.E)]).all smE=true:=by
    rw[List.all_append,ha,alC,List.all_nil];simp only[Bool.true_and,bnA];show(Nat.ble (f::t).length 1000&&(f::t).all λf=>Nat.ble f.params.length 3)=true
    rw[bjE,Nat.ble_eq,List.all_eq_true];exact⟨hl,λf hf=>by rw[Nat.ble_eq];exact hp f hf⟩
   have g3:(E++ [(⟨3,f.name,⟨[],[]⟩,⟨⟨[],[]⟩,[],false,zTe⟩,f::t,[],[],[],⟨⟨[],[]⟩,[]⟩,[],[],[],[],0⟩:G.E)]).all ruE=true:=by
    rw[List.all_append,hr,alC,List.all_nil];rfl
   obtain⟨E',q1,q2,q3⟩:=aGc h12 qx hL hu hm r (k+1) m _ h3 (λg bn=>hg g (mtE _ bn)) (by omega) g1 g2 g3
   exact⟨E',q1,⟨by rw[lnA]at q2;omega,q2.2⟩,q3⟩
  ·rw[Nat.ble_eq];simp only[lcS,lnN];omega
def usW(L M:Nat)(x:List UInt8): ∃s:G.Y,cD L M 59 4 [yT x]=some [yR 1 s]:=⟨⟨[117,115,101,114],x⟩,by kernel_rfl⟩
def aA8(L M:Nat)(b:Int): ∃E,CTp (L+7000) (M+7159) 2 [⟨.int .u32,b⟩]=some [yS 16 E]/\smF E=true/\WoB 1000 E:=by
 obtain⟨E0,h10,hl0,ha0,hr0⟩:=world10 L (M+7000);obtain⟨Q,h11,hG⟩:=gR_ok (kw11 L (M+7000));obtain⟨ls,h12,qx,co⟩:=lR_ok (kw12 L (M+7000));have nv:=usW L (M+7000);rw[aEA,show M+7000+99+59=M+7158 by omega]at h11 h12 nv
 simp only[gB,bjE,List.all_eq_true]at hG;have hG1:=Nat.le_of_ble_eq_true hG.1;rw[show M+7159=M+7158+1 by omega,c2,F2,B2x0,h10,obLw_es,h11,obLw_gs]
 obtain⟨E',h1,h2,h3,h4⟩:=aGc (L:=L+7000) (b:=b) h12 qx.2 (by omega) nv (λE nm x hx hE=>by
  have h5:=co x hx;obtain⟨r,e,_,g2,_⟩:=aKJ (L:=L+7000) (n:=M+7158) (M:=1100) (B:=1000) (by omega) (by omega) (by omega) (by omega) (by omega) (by omega) hE nm x.formula x.cls (by omega)
  exact⟨r,e,g2⟩) Q 0 (L+7000-Q.length-1) E0 rfl (λg hg=>by
  have:=hG.2 g hg;split at this
  ·cases this
  ·rename_i f t;simp only[bjE,List.all_eq_true]at this;exact⟨f,t,rfl,Nat.le_of_ble_eq_true this.1,λf hf=>Nat.le_of_ble_eq_true (this.2 f hf)⟩) (by omega) (by omega) ha0 hr0
 rw[show L+7000-Q.length-1+Q.length+1=L+7000 by omega]at h1
 refine⟨E',h1,?_,wob_of (by omega) h3 h4⟩
 simp only[smF,bjE];exact⟨⟨by rw[Nat.ble_eq];omega,by rw[Nat.ble_eq];omega⟩,h3⟩
def world_ok(L M:Nat): ∃E,CTp (L+7000) (M+7159) 2 [⟨.int .u32,(0:Int)⟩]=some [yS 16 E]/\smF E=true:=by
 obtain⟨E,h1,h2,_⟩:=aA8 L M 0;exact⟨E,h1,h2⟩
end Go.TV
