import Derived.Test.YtojjcdpfjabepaaGreatDoorKag
import Derived.Test.YtojjcdpfjabepaaGreatDoorKv
set_option linter.unusedVariables false
set_option linter.unusedSimpArgs false
set_option linter.constructorNameAsVariable false
namespace Go.TV
open Go.AI Go.PI Go.Proofs
set_option maxRecDepth 20000
theorem cD_ok(L M k:Nat):cD L M k=CTp (L+7000) (M+99+k):=aD0 (fun n i d r h=>by
 unfold Kd at h;cases hb:Nat.beq i 41 with
 |false=>rw[hb]at h;cases h
 |true=>
  rw[hb,cdt]at h;split at h
  ·rw[nqE hb];have:=aHL L (M+n);rw[show M+n+100=M+99+n+1 by omega]at this
   rw[this];exact h
  ·cases h) k
def smE(e:G.E):Bool:=Nat.ble e.functions.length 1000&&e.functions.all fun f=>Nat.ble f.params.length 3
def smF(E:List G.E):Bool:=Nat.ble 1 E.length&&Nat.ble E.length 1000&&E.all smE
theorem eF_len(X:Nat→T3): ∀(l:List Sk) (j:Nat),(eF X l j).length=l.length
 |[],_=>rfl
 |s::l,j=>by rw[eF,lcS,lcS,eF_len X l (j+1)]
theorem aD3{X Y:Nat→T3}: ∀(l:List Sk) (j:Nat),(∀i,i<j+l.length→X i=Y i)→eF X l j=eF Y l j
 |[],_,_=>rfl
 |s::l,j,h=>by
  rw[eF,eF,h j (by rw[lcS];omega),aD3 l (j+1) (fun i hi=>h i (by rw[lcS];omega))]
theorem eF_app(X:Nat→T3)(s:Sk): ∀(l:List Sk) (j:Nat),eF X (l++ [s]) j=eF X l j++ [enE s (X (j+l.length))]
 |[],j=>rfl
 |t::l,j=>by
  rw[cnA,eF,eF_app X s l (j+1),eF,cnA,lcS,show j+1+l.length=j+(l.length+1) by omega]
theorem sk_len:skL.length=28:=by kernel_rfl
theorem uN(k:Nat)(h:k≤28):(skL.take k).length=k:=by rw[List.length_take,sk_len];omega
theorem aHK(X:Nat→T3)(k:Nat)(h:k≤28):(eL X k).length=k:=by rw[eL,eF_len,uN k h]
theorem eL_congr{X Y:Nat→T3}(k:Nat)(hk:k≤28)(h: ∀j,j<k→X j=Y j):eL X k=eL Y k:=aD3 _ 0 fun i hi=>h i (by rw[uN k hk]at hi;omega)
theorem eL_succ(X:Nat→T3)(k:Nat)(h:k<28):eL X (k+1)=eL X k++ [enE (skA k) (X k)]:=by
 have h1:k<skL.length:=by rw[sk_len];exact h
 have e:skL.take (k+1)=skL.take k++ [skA k]:=by
  rw[List.take_add_one,skA,geG h1];rfl
 rw[eL,e,eF_app,uN k (by omega),Nat.zero_add];rfl
theorem sk_sm:(skL.all fun s=>Nat.ble s.2.length 3)=true:=by kernel_rfl
theorem en_sm{s:Sk}(h:Nat.ble s.2.length 3=true)(x:T3):smE (enE s x)=true:=by
 show(Nat.ble 1 1000&&([_]:List G.F).all _)=true;simp only[alC,List.all_nil,bnA,List.length_map,h];rfl
theorem eF_sm(X:Nat→T3): ∀(l:List Sk) (j:Nat),(∀s∈l,Nat.ble s.2.length 3=true)→(eF X l j).all smE=true
 |[],_,_=>rfl
 |s::l,j,h=>by
  rw[eF,alC,en_sm (h s (mhE ..)),eF_sm X l (j+1) (fun t ht=>h t (mtE _ ht))];rfl
theorem eL_sm(X:Nat→T3)(k:Nat):(eL X k).all smE=true:=eF_sm X _ 0 fun s hs=>List.all_eq_true.1 sk_sm s (List.mem_of_mem_take hs)
theorem obLw_en{β:Type}{a:G.E}{K:G.E×Unit→Option β}:obL (D:=U0.D) [.rc 16] (some [yR 16 a]) K=K (a,()):=rfl
theorem obLw_sy{β:Type}{a:G.Y}{K:G.Y×Unit→Option β}:obL (D:=U0.D) [.rc 1] (some [yR 1 a]) K=K (a,()):=rfl
theorem obLw_ss{β:Type}{a:List G.Y}{K:List G.Y×Unit→Option β}:obL (D:=U0.D) [.sl (.rc 1)] (some [yS 1 a]) K=K (a,()):=rfl
theorem obLw_ob{β:Type}{a:List G.O}{K:List G.O×Unit→Option β}:obL (D:=U0.D) [.sl (.rc 2)] (some [yS 2 a]) K=K (a,()):=rfl
theorem obLw_es{β:Type}{a:List G.E}{K:List G.E×Unit→Option β}:obL (D:=U0.D) [.sl (.rc 16)] (some [yS 16 a]) K=K (a,()):=rfl
theorem obLw_gs{β:Type}{a:List (List G.F)}{K:List (List G.F)×Unit→Option β}:obL (D:=U0.D) [.sl (.sl (.rc 8))] (some [⟨.sl (.sl (.rc 8)),a⟩]) K=K (a,()):=rfl
theorem obLw_ls{β:Type}{a:List G.L}{K:List G.L×Unit→Option β}:obL (D:=U0.D) [.sl (.rc 7)] (some [yS 7 a]) K=K (a,()):=rfl
theorem chkw{β:Type}{b:Bool}{A:Option β}(h:b=true):chk b A=A:=by rw[h];rfl
theorem wr_step{c:TC0}{L m k:Nat}{E:List G.E}{o:G.O}{e:G.E}(ho:oAll[k]?=some o)(hk:k<1000)(hE:E.length<1000)
    (h:c 42 [yS 16 E,yR 2 o]=some [yR 16 e]):
    pP c L (m+1) oAll (k:Int) E=pP c L m oAll ((k+1:Nat):Int) (E++ [e]):=by
 have hlt:k<oAll.length:=(List.getElem?_eq_some_iff.1 ho).1;show aFM c (pP c L m) oAll (k:Int) E=_;rw[aFM,decide_eq_true (by omega:(k:Int)<(oAll.length:Int)),aJ,aK,ho,eC,h,obLw_en,chkw,eD (by omega)]
 rw[Nat.ble_eq];simp only[lcS,lnN];omega
theorem aF1(L M:Nat){c:TC0}(hc:c=CTp (L+7000) (M+157)){L':Nat}: ∀(r k m:Nat) (X:Nat→T3),k+r=28→∃X',pP c L' (m+r) oAll (k:Int) (eL X k)=pP c L' m oAll ((28:Nat):Int) (eL X' 28)
 |0,k,m,X,h=>by
  obtain rfl:k=28:=by omega
  exact⟨X,rfl⟩
 |r+1,k,m,X,h=>by
  have hl:oAll.length=28:=by kernel_rfl
  have ho:oAll[k]?=some (oAll[k]'(by omega)):=geG _
  have h1:=p_all L M X k _ ho;unfold pE at h1;rw[cD_ok]at h1;obtain⟨x,hx⟩:=enR_ok h1;have hs:eL (fun j=>if j=k then x else X j) (k+1)=eL X k++ [enE (skA k) x]:=by
   rw[eL_succ _ k (by omega),eL_congr (X:=fun j=>if j=k then x else X j) (Y:=X) k (by omega) (fun j hj=>if_neg (by omega)),if_pos rfl]
  obtain⟨X',h2⟩:=aF1 L M hc (L':=L') r (k+1) m (fun j=>if j=k then x else X j) (by omega)
  refine⟨X',?_⟩;rw[←h2,hs,show m+(r+1)=m+r+1 by omega]
  exact wr_step ho (by omega) (by rw[aHK _ k (by omega)];omega) (by rw[hc];exact hx)
def is1(r:Rt):Bool:=match r with|some [⟨.rc 1,_⟩]=>true|_=>false
theorem is1_ok{r:Rt}(h:is1 r=true): ∃s:G.Y,r=some [yR 1 s]:=by
 unfold is1 at h;split at h
 ·exact⟨_,rfl⟩
 ·cases h
def iss(r:Rt):Bool:=match r with|some [⟨.sl (.rc 1),_⟩]=>true|_=>false
theorem iss_ok{r:Rt}(h:iss r=true): ∃s:List G.Y,r=some [yS 1 s]:=by
 unfold iss at h;split at h
 ·exact⟨_,rfl⟩
 ·cases h
theorem kw31(L M:Nat):is1 (cD L M 58 43 [yT [117,115,101,114,45,112,97,99,107,97,103,101]])=true:=by kernel_rfl
theorem kw32(L M:Nat):iss (cD L M 58 44 [])=true:=by kernel_rfl
theorem wr_end{c:TC0}{L m:Nat}{E:List G.E}{s1:G.Y}{s2:List G.Y}(h31:c 43 [yT [117,115,101,114,45,112,97,99,107,97,103,101]]=some [yR 1 s1])
    (h32:c 44 []=some [yS 1 s2]) (hE:E.length=28): ∃e,pP c L (m+1) oAll ((28:Nat):Int) E=some [yS 16 (E++ [e])]∧smE e=true:=by
 have hl:oAll.length=28:=by kernel_rfl
 apply Exists.intro;apply And.intro
 ·show aFM c (pP c L m) oAll ((28:Nat):Int) E=_;rw[aFM,decide_eq_false (by rw[hl];omega),aF,h31,obLw_sy,h32,obLw_ss,chkw]
  ·exact rfl
  ·rw[Nat.ble_eq,hE];simp only[lcS,lnN];omega
 ·rfl
theorem world10(L M:Nat): ∃E:List G.E,CTp (L+7000) (M+158) 12 []=some [yS 16 E]∧E.length=29∧E.all smE=true:=by
 have hd:=aHL L (M+57);obtain⟨s1,h31⟩:=is1_ok (kw31 L M);obtain⟨s2,h32⟩:=iss_ok (kw32 L M);rw[cD_ok]at h31 h32;obtain⟨X,hw⟩:=aF1 L M (c:=CTp (L+7000) (M+157)) rfl (L':=L+7000) 28 0 (L+6972) (fun _=>(zTe,zTe,zTe)) rfl
 rw[show M+158=M+157+1 by omega,c12,F12,B12x0]
 rw[show M+57+100=M+157 by omega]at hd
 rw[show M+99+58=M+157 by omega]at h31 h32
 rw[hd,obLw_ob];have e0:(fun m=>pP (CTp (L+7000) (M+157)) (L+7000) m oAll (0:Int) ([]:List G.E)) (L+7000)=_:=hw
 obtain⟨e,h3,h4⟩:=wr_end (m:=L+6971) (L:=L+7000) h31 h32 (aHK X 28 (by omega))
 refine⟨_,e0.trans h3,?_,?_⟩
 ·show(eL X 28++ [e]:List G.E).length=29;rw[lnA,aHK _ 28 (by omega)];rfl
 ·show(eL X 28++ [e]:List G.E).all smE=true;rw[List.all_append,eL_sm,alC,h4];rfl
def gB(G:List (List G.F)):Bool:=Nat.ble G.length 500&&G.all fun g=>match g with|[]=>false|f::r=>Nat.ble (f::r).length 1000&&(f::r).all fun f=>Nat.ble f.params.length 3
def gR(r:Rt):Bool:=match r with|some [⟨.sl (.sl (.rc 8)),G⟩]=>gB G|_=>false
theorem gR_ok{r:Rt}(h:gR r=true): ∃G:List (List G.F),r=some [⟨.sl (.sl (.rc 8)),G⟩]∧gB G=true:=by
 unfold gR at h;split at h
 ·rename_i G;exact⟨G,rfl,h⟩
 ·cases h
def lR(r:Rt):Bool:=match r with|some [⟨.sl (.rc 7),l⟩]=>Nat.ble l.length 500|_=>false
theorem lR_ok{r:Rt}(h:lR r=true): ∃l:List G.L,r=some [yS 7 l]∧l.length≤500:=by
 unfold lR at h;split at h
 ·rename_i l;exact⟨l,rfl,Nat.le_of_ble_eq_true h⟩
 ·cases h
theorem kw11(L M:Nat):gR (cD L M 59 13 [])=true:=by kernel_rfl
theorem kw12(L M:Nat):lR (cD L M 59 5 [])=true:=by kernel_rfl
theorem aDG{c:TC0}{L:Nat}{ls:List G.L}{E:List G.E}: ∀(r:List G.L) (k m:Nat),ls.drop k=r→k+r.length<1000→W2x2 c L (m+r.length+1) (0:Int) ls (k:Int) E=some [yS 16 E]
 |[],k,m,h,hk=>by
  have hn:=bC h;show B2x2 c _ (0:Int) ls (k:Int) E=_;rw[B2x2,decide_eq_false (by omega: ¬(k:Int)<(ls.length:Int)),aF]
 |x::r,k,m,h,hk=>by
  obtain⟨h1,h2,h3⟩:=bB h;rw[lcS]at hk;show B2x2 c (J2x3 c L (W2x2 c L (m+r.length+1))) (0:Int) ls (k:Int) E=_;rw[B2x2,decide_eq_true (by omega:(k:Int)<(ls.length:Int)),aJ,chkw (by simp),Int.zero_fdiv]
  rw[show decide ((IntKind.u32.wrap ((BitVec.ofInt IntKind.u32.bits 0&&&BitVec.ofInt IntKind.u32.bits (1:Int)).toNat:Int))=(0:Int))=true from by decide,aJ]
  show W2x2 c L (m+r.length+1) (0:Int) ls (IntKind.i64.wrap ((k:Int)+1)) E=_;rw[eD (by omega)]
  exact aDG r (k+1) m h3 (by omega)
theorem aDO{c:TC0}{L:Nat}{Q:List (List G.F)}{ls:List G.L}(h12:c 5 []=some [yS 7 ls])(hls:ls.length≤500)(hL:600≤L):
    ∀(r:List (List G.F)) (k m:Nat) (E:List G.E),Q.drop k=r→(∀g∈r,∃f t,g=f::t∧g.length≤1000∧∀f∈g,f.params.length≤3)→k+r.length≤500→E.length+r.length≤900→E.all smE=true→
      ∃E':List G.E,W2x1 c L (m+r.length+1) Q (k:Int) (0:Int) E=some [yS 16 E']∧(E.length≤E'.length∧E'.length≤900)∧E'.all smE=true
 |[],k,m,E,h,_,hk,hE,ha=>by
  have hn:=bC h;refine⟨E,?_,⟨nlR _,by simpa using hE⟩,ha⟩
  show B2x1 c _ (W2x2 c L L) Q (k:Int) (0:Int) E=_;rw[B2x1,decide_eq_false (by omega: ¬(k:Int)<(Q.length:Int)),aF,h12,obLw_ls]
  have h:=aDG (c:=c) (L:=L) (ls:=ls) (E:=E) ls 0 (L-ls.length-1) rfl (by omega)
  rw[show L-ls.length-1+ls.length+1=L by omega]at h
  exact h
 |g::r,k,m,E,h,hg,hk,hE,ha=>by
  obtain⟨h1,h2,h3⟩:=bB h;obtain⟨f,t,rfl,hl,hp⟩:=hg g (mhE ..);rw[lcS]at hk hE;show∃E':List G.E,B2x1 c (W2x1 c L (m+r.length+1)) (W2x2 c L L) Q (k:Int) (0:Int) E=_∧_;rw[B2x1,decide_eq_true (by omega:(k:Int)<(Q.length:Int)),aJ,aK,h1,eC,show idx (f::t) (0:Int)=some f from rfl,eC,eC,chkw,eD (by omega)]
  ·have g1:(E++ [(⟨3,f.name,⟨[],[]⟩,⟨⟨[],[]⟩,[],false,zTe⟩,f::t,[],[],[],⟨⟨[],[]⟩,[]⟩,[],[],[],[],0⟩:G.E)]).length+r.length≤900:=by
    rw[lnA];simp only[lcS,lnN];omega
   have g2:(E++ [(⟨3,f.name,⟨[],[]⟩,⟨⟨[],[]⟩,[],false,zTe⟩,f::t,[],[],[],⟨⟨[],[]⟩,[]⟩,[],[],[],[],0⟩:G.E)]).all smE=true:=by
    rw[List.all_append,ha,alC,List.all_nil];simp only[Bool.true_and,bnA];show(Nat.ble (f::t).length 1000&&(f::t).all fun f=>Nat.ble f.params.length 3)=true
    rw[bjE,Nat.ble_eq,List.all_eq_true];exact⟨hl,fun f hf=>by rw[Nat.ble_eq];exact hp f hf⟩
   obtain⟨E',q1,q2,q3⟩:=aDO h12 hls hL r (k+1) m _ h3 (fun g hg'=>hg g (mtE _ hg')) (by omega) g1 g2
   exact⟨E',q1,⟨by rw[lnA]at q2;omega,q2.2⟩,q3⟩
  ·rw[Nat.ble_eq];simp only[lcS,lnN];omega
theorem aCH(L M:Nat): ∃E,CTp (L+7000) (M+159) 2 [⟨.int .u32,(0:Int)⟩]=some [yS 16 E]∧smF E=true:=by
 obtain⟨E0,h10,hl0,ha0⟩:=world10 L M;obtain⟨Q,h11,hG⟩:=gR_ok (kw11 L M);obtain⟨ls,h12,hls⟩:=lR_ok (kw12 L M);rw[cD_ok,show M+99+59=M+158 by omega]at h11 h12
 simp only[gB,bjE,List.all_eq_true]at hG;have hG1:=Nat.le_of_ble_eq_true hG.1;rw[show M+159=M+158+1 by omega,c2,F2,B2x0,h10,obLw_es,h11,obLw_gs]
 obtain⟨E',h1,h2,h3⟩:=aDO (L:=L+7000) h12 hls (by omega) Q 0 (L+7000-Q.length-1) E0 rfl (fun g hg=>by
  have:=hG.2 g hg;split at this
  ·cases this
  ·rename_i f t;simp only[bjE,List.all_eq_true]at this;exact⟨f,t,rfl,Nat.le_of_ble_eq_true this.1,fun f hf=>Nat.le_of_ble_eq_true (this.2 f hf)⟩) (by omega) (by omega) ha0
 rw[show L+7000-Q.length-1+Q.length+1=L+7000 by omega]at h1
 refine⟨E',h1,?_⟩;simp only[smF,bjE];exact⟨⟨by rw[Nat.ble_eq];omega,by rw[Nat.ble_eq];omega⟩,h3⟩
end Go.TV
