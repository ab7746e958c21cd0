import Derived.Test.YtgddcoodncbkoaaGreatDoorKz
import Derived.Test.YtgddcoodncbkoaaGreatDoorKs
import Derived.KernelRfl
import Derived.Test.YtgddcoodncbkoaaGreatDoorKo
import Derived.Test.YtgddcoodncbkoaaGreatDoorKq
import Derived.Test.YtgddcoodncbkoaaGreatDoorKp
import Derived.Test.YtgddcoodncbkoaaGreatDoorKr
set_option linter.unusedVariables false
set_option linter.unusedSimpArgs false
set_option linter.constructorNameAsVariable false
set_option linter.defProp false
namespace Go.TV
open Go.AI Go.PI Go.Proofs
set_option maxRecDepth 20000
structure WoB(B:Nat)(w:List G.E):Prop where
 l:w.length<=B
 f: ∀e∈w,e.functions.length<=B
 r: ∀e∈w,e.rules.length<=B
def fcs(e:G.E):List G.F:=if e.kind=3∨e.kind=5∨e.kind=6∨e.kind=7 then e.functions else []
def aLb{B:Nat}{e:G.E}(h:e.functions.length<=B):(fcs e).length<=B:=by
 unfold fcs;split
 ·exact h
 ·exact Nat.zero_le _
def fcP_ok{e:G.E}{L n:Nat}:CTp L (n+1) 112 [yR 16 e]=some [yS 8 (fcs e)]:=by
 rw[c112,F112,aOQ];simp only[aOb,aOP];unfold fcs;by_cases h3:e.kind=3
 ·simp[h3,cnd]
 ·by_cases h5:e.kind=5
  ·simp[h5,cnd]
  ·by_cases h6:e.kind=6
   ·simp[h6,cnd]
   ·by_cases h7:e.kind=7<;>simp[h3,h5,h6,h7,cnd]
def fcR_ok{e:G.E}{L n:Nat}:CTp L (n+1) 89 [yR 16 e]=some [yS 8 (fcs e)]:=by
 rw[c89,F89,B89x0];simp only[J89x1,B89x1];unfold fcs;by_cases h3:e.kind=3
 ·simp[h3,cnd]
 ·by_cases h5:e.kind=5
  ·simp[h5,cnd]
  ·by_cases h6:e.kind=6
   ·simp[h6,cnd]
   ·by_cases h7:e.kind=7<;>simp[h3,h5,h6,h7,cnd]
def fiX(f:G.Y):List G.F->Nat->Option Nat
 |[],_=>none
 |x::l,k=>if x.name=f then some k else fiX f l (k+1)
def loX(f:G.Y):List G.E->Nat->Option (Nat×Nat)
 |[],_=>none
 |e::l,i=>match fiX f (fcs e) 0 with|some k=>some (i,k)|none=>loX f l (i+1)
def fiX_at{f:G.Y}: ∀{l:List G.F} {j k:Nat},fiX f l j=some k->j<=k/\∃g,l[k-j]?=some g
 |[],_,_,h=>by cases h
 |x::l,j,k,h=>by
  rw[fiX]at h;split at h
  ·cases h;exact⟨nlR _,x,by simp⟩
  ·obtain⟨h1,g,h2⟩:=fiX_at h;exact⟨by omega,g,by rw[show k-j=(k-(j+1))+1 by omega];simpa using h2⟩
def aKM{f:G.Y}: ∀{l:List G.E} {j i k:Nat},loX f l j=some (i,k)->j<=i/\∃e g,l[i-j]?=some e/\(fcs e)[k]?=some g
 |[],_,_,_,h=>by cases h
 |x::l,j,i,k,h=>by
  rw[loX]at h;split at h
  ·rename_i k' hk;cases h;obtain⟨_,g,h2⟩:=fiX_at hk;exact⟨nlR _,x,g,by simp,by simpa using h2⟩
  ·obtain⟨h1,e,g,h2,h3⟩:=aKM h;exact⟨by omega,e,g,by rw[show i-j=(i-(j+1))+1 by omega];simpa using h2,h3⟩
def ibs(f:G.Y):Option Nat->TVs
 |some k=>[yI (k:Int),yB true,yR 1 f]
 |none=>[yI (0:Int),yB false,yR 1 f]
def iib:Option (Nat×Nat)->TVs
 |some (i,k)=>[yI (i:Int),yI (k:Int),yB true]
 |none=>[yI (0:Int),yI (0:Int),yB false]
def obL_bs{W:Type}{b:Bool}{s:G.Y}{K:Bool×G.Y×Unit->Option W}:obL (D:=U0.D) [.bool,.rc 1] (some [yB b,yR 1 s]) K=K (b,s,()):=rfl
def aF0{W:Type}{l:List G.F}{K:List G.F×Unit->Option W}:obL (D:=U0.D) [.sl (.rc 8)] (some [yS 8 l]) K=K (l,()):=rfl
def fi_loop{L n:Nat}{f:G.Y}{a:List G.F}(hb:a.length<1000000000): ∀(l:List G.F) (k m:Nat),a.drop k=l->l.length<m->
    uR (CTp L (n+1)) L m (a.length:Int) a (k:Int) f=some (ibs f (fiX f l k)):=by
 intro l;induction l with
 |nil=>
  intro k m h1 h3;obtain⟨m,rfl⟩:=sK m 1 (by simp at h3;omega)
  have e1:=aH h1;rw[uR,aHD,dF (by omega: ¬k<a.length),aC];rfl
 |cons x l ih=>
  intro k m h1 h3;obtain⟨m,rfl⟩:=sK m 1 (by simp at h3;omega)
  obtain⟨a1,a2,a3⟩:=aI h1;rw[uR,aHD,dT (by omega:k<a.length),aG,aD,a1,aS,c163,F163,aOA,obL_bs,fiX,aX (by omega)]
  simp only[];by_cases e:x.name=f
  ·rw[decide_eq_true e,aG,if_pos e];rfl
  ·rw[decide_eq_false e,aC,if_neg e];exact ih (k+1) m a3 (by simp at h3;omega)
def lo_loop{L n B:Nat}{f:G.Y}{a:List G.E}(hB:B<1000000)(hL:B<L)(ha:WoB B a): ∀(l:List G.E) (k m:Nat),a.drop k=l->l.length<m->
    uW (CTp L (n+2)) L m (a.length:Int) a (k:Int) f=some (iib (loX f l k)):=by
 intro l;have h0:=ha.l;induction l with
 |nil=>
  intro k m h1 h3;obtain⟨m,rfl⟩:=sK m 1 (by simp at h3;omega)
  have e1:=aH h1;rw[uW,aHM,dF (by omega: ¬k<a.length),aC];rfl
 |cons x l ih=>
  intro k m h1 h3;obtain⟨m,rfl⟩:=sK m 1 (by simp at h3;omega)
  obtain⟨a1,a2,a3⟩:=aI h1;have hx:=aLb (ha.f x (List.mem_of_getElem? a1));have hc:CTp L (n+2) 135 [yS 8 (fcs x),yR 1 f]=some (ibs f (fiX f (fcs x) 0)):=by
   rw[c135,F135,aOG];exact fi_loop (by omega) (fcs x) 0 L rfl (by omega)
  rw[uW,aHM,dT (by omega:k<a.length),aG,aD,a1,aS,fcP_ok,aF0,hc,loX,aX (by omega)]
  cases fiX f (fcs x) 0 with
  |some j=>rfl
  |none=>exact ih (k+1) m a3 (by simp at h3;omega)
def pi_loop{c:TC0}{L:Nat}{n1:List G.E->Int->G.Y->Rt}{f:G.Y}{a:List G.F}{i:Int}{w:List G.E}(hb:a.length<1000000000): ∀(l:List G.F) (k m:Nat),a.drop k=l->l.length<m->
    aEH c L n1 m a (k:Int) i w f=match fiX f l k with|some j=>some [⟨.int .i64,i⟩,⟨.int .i64,(j:Int)⟩,⟨.bool,true⟩]|none=>n1 w (IntKind.i64.wrap (i+(1:Int))) f:=by
 intro l;induction l with
 |nil=>
  intro k m h1 h3;obtain⟨m,rfl⟩:=sK m 1 (by simp at h3;omega)
  have e1:=aH h1;rw[aEH,B88x2,dF (by omega: ¬k<a.length),aC];rfl
 |cons x l ih=>
  intro k m h1 h3;obtain⟨m,rfl⟩:=sK m 1 (by simp at h3;omega)
  obtain⟨a1,a2,a3⟩:=aI h1;rw[aEH,B88x2,dT (by omega:k<a.length),aG,aD,a1,aS,fiX,aX (by omega)]
  by_cases e:x.name=f
  ·rw[decide_eq_true e,aG,if_pos e]
  ·rw[decide_eq_false e,aC,if_neg e];exact ih (k+1) m a3 (by simp at h3;omega)
def pl_loop{L n B:Nat}{f:G.Y}{a:List G.E}(hB:B<1000000)(hL:B<L)(ha:WoB B a): ∀(l:List G.E) (k m:Nat),a.drop k=l->l.length<m->
    aCs (CTp L (n+1)) L m a (k:Int) f=some (iib (loX f l k)):=by
 intro l;have h0:=ha.l;induction l with
 |nil=>
  intro k m h1 h3;obtain⟨m,rfl⟩:=sK m 1 (by simp at h3;omega)
  have e1:=aH h1;rw[aCs,B88x1,dF (by omega: ¬k<a.length),aC];rfl
 |cons x l ih=>
  intro k m h1 h3;obtain⟨m,rfl⟩:=sK m 1 (by simp at h3;omega)
  obtain⟨a1,a2,a3⟩:=aI h1;have hx:=aLb (ha.f x (List.mem_of_getElem? a1));rw[aCs,B88x1,dT (by omega:k<a.length),aG,aD,a1,aS,fcR_ok,aF0,loX]
  refine(pi_loop (c:=CTp L (n+1)) (n1:=aCs (CTp L (n+1)) L m) (a:=fcs x) (Nat.lt_of_le_of_lt hx (by omega)) (fcs x) 0 L rfl (by omega)).trans ?_
  rw[aX (by omega)]
  cases fiX f (fcs x) 0 with
  |some j=>rfl
  |none=>exact ih (k+1) m a3 (by simp at h3;omega)
def zFn:G.F:=⟨ySy,[],0,ozT,ozT,ozT⟩
def fnW(w:List G.E)(f:G.Y):Option G.F:=match loX f w 0 with
 |some (i,k)=>(w[i]?).bind λe=>(fcs e)[k]?
 |none=>none
def fnR:Option G.F->TVs
 |some g=>[yR 8 g,yB true]
 |none=>[yR 8 zFn,yB false]
def fnP_ok{L n B:Nat}{f:G.Y}{w:List G.E}(hB:B<1000000)(hL:B<L)(ha:WoB B w):CTp L (n+4) 78 [yS 16 w,yR 1 f]=some (fnR (fnW w f)):=by
 have h0:=ha.l;have h1:CTp L (n+3) 111 [yS 16 w,yR 1 f]=some (iib (loX f w 0)):=by
  rw[c111,F111,aOR];exact lo_loop hB hL ha w 0 L rfl (by omega)
 rw[c78,F78,B78x0,h1,fnW];cases h2:loX f w 0 with
 |none=>rfl
 |some p=>
  obtain⟨i,k⟩:=p;obtain⟨_,e,g,h3,h4⟩:=aKM h2;rw[Nat.sub_zero]at h3;have i1:idx w (i:Int)=some e:=(aD w i).trans h3;have i2:idx (fcs e) (k:Int)=some g:=(aD (fcs e) k).trans h4;show ob (idx w (i:Int)) _=_;rw[i1,aS,fcP_ok,aF0];show ob (idx (fcs e) (k:Int)) _=some (fnR ((w[i]?).bind λe=>(fcs e)[k]?))
  rw[i2,aS,h3,obS,h4];rfl
def fnR_ok{L n B:Nat}{f:G.Y}{w:List G.E}(hB:B<1000000)(hL:B<L)(ha:WoB B w):CTp L (n+3) 42 [yS 16 w,yR 1 f]=some (fnR (fnW w f)):=by
 have h0:=ha.l;have h1:CTp L (n+2) 88 [yS 16 w,yR 1 f]=some (iib (loX f w 0)):=by
  rw[c88,F88,B88x0];exact pl_loop hB hL ha w 0 L rfl (by omega)
 rw[c42,F42,B42x0,h1,fnW];cases h2:loX f w 0 with
 |none=>rfl
 |some p=>
  obtain⟨i,k⟩:=p;obtain⟨_,e,g,h3,h4⟩:=aKM h2;rw[Nat.sub_zero]at h3;have i1:idx w (i:Int)=some e:=(aD w i).trans h3;have i2:idx (fcs e) (k:Int)=some g:=(aD (fcs e) k).trans h4;show ob (idx w (i:Int)) _=_;rw[i1,aS,fcR_ok,aF0];show ob (idx (fcs e) (k:Int)) _=some (fnR ((w[i]?).bind λe=>(fcs e)[k]?))
  rw[i2,aS,h3,obS,h4];rfl
def rlR(s:G.Y)(r:G.U):Bool:=decide (r.cls=6)&&decide (r.equiv=s)
def rlE(s:G.Y)(e:G.E):Bool:=decide (e.kind=4)&&e.rules.any (rlR s)
def relW(w:List G.E)(s:G.Y):Bool:=decide (s=⟨eB,equB⟩)||(decide (s=⟨eB,iffB⟩)||w.any (rlE s))
def rp4_loop{c:TC0}{L:Nat}{n2:Int->List G.E->Int->G.Y->Rt}{s:G.Y}{a:List G.U}{j lw:Int}{w:List G.E}(hb:a.length<1000000000): ∀(l:List G.U) (k m:Nat),a.drop k=l->l.length<m->
    aEX c L n2 m (a.length:Int) a (k:Int) j lw w s=bif l.any (rlR s)then some (bb true)else n2 lw w (IntKind.i64.wrap (j+(1:Int))) s:=by
 intro l;induction l with
 |nil=>
  intro k m h1 h3;obtain⟨m,rfl⟩:=sK m 1 (by simp at h3;omega)
  have e1:=aH h1;rw[aEX,B10x4,dF (by omega: ¬k<a.length),aC];rfl
 |cons x l ih=>
  intro k m h1 h3;obtain⟨m,rfl⟩:=sK m 1 (by simp at h3;omega)
  obtain⟨a1,a2,a3⟩:=aI h1;have gk:=ih (k+1) m a3 (by simp at h3;omega)
  rw[aEX,B10x4,dT (by omega:k<a.length),aG,aD,a1,aS,List.any_cons,rlR]
  simp only[J10x5,B10x5];rw[aX (by omega)]
  cases decide (x.cls=6)with
  |false=>rw[aC,aC,Bool.false_and,Bool.false_or];exact gk
  |true=>
   rw[aG,Bool.true_and];cases decide (x.equiv=s)with
   |true=>rfl
   |false=>rw[aC,Bool.false_or];exact gk
def rp2_loop{c:TC0}{L B:Nat}{s:G.Y}{w:List G.E}(hB:B<1000000)(hL:B<L)(ha:WoB B w): ∀(l:List G.E) (k m:Nat),w.drop k=l->l.length<m->
    aA2 c L m (w.length:Int) w (k:Int) s=some (bb (l.any (rlE s))):=by
 intro l;have h0:=ha.l;induction l with
 |nil=>
  intro k m h1 h3;obtain⟨m,rfl⟩:=sK m 1 (by simp at h3;omega)
  have e1:=aH h1;rw[aA2,B10x2,dF (by omega: ¬k<w.length),aC];rfl
 |cons x l ih=>
  intro k m h1 h3;obtain⟨m,rfl⟩:=sK m 1 (by simp at h3;omega)
  obtain⟨a1,a2,a3⟩:=aI h1;have hx:=ha.r x (List.mem_of_getElem? a1);have gk:=ih (k+1) m a3 (by simp at h3;omega)
  rw[aA2,B10x2,dT (by omega:k<w.length),aG,aD,a1,aS,List.any_cons,rlE]
  cases decide (x.kind=4)with
  |false=>
   rw[Bool.not_false,aG,Bool.false_and,Bool.false_or];simp only[J10x3,B10x3];rw[aX (by omega)];exact gk
  |true=>
   rw[bnT,aC,Bool.true_and];refine(rp4_loop (c:=c) (n2:=aA2 c L m) (a:=x.rules) (Nat.lt_of_le_of_lt hx (by omega)) x.rules 0 L rfl (by omega)).trans ?_
   rw[aX (by omega)]
   cases x.rules.any (rlR s)with
   |true=>rfl
   |false=>rw[cdf,Bool.false_or];exact gk
def aJK{L n B:Nat}{s:G.Y}{w:List G.E}(hB:B<1000000)(hL:B<L)(ha:WoB B w):CTp L (n+2) 10 [yS 16 w,yR 1 s]=some (bb (relW w s)):=by
 have h0:=ha.l;have h2:=rp2_loop (c:=CTp L (n+1)) (L:=L) (s:=s) hB hL ha w 0 L rfl (by omega)
 rw[c10,F10,B10x0,aBx,fZ,relW];simp only[];show cnd (decide (s=⟨eB,equB⟩)) _ _=_;cases decide (s=⟨eB,equB⟩)with
 |true=>rfl
 |false=>
  rw[aC,aBx,fZ,Bool.false_or];show J10x1 (CTp L (n+1)) L (decide (s=⟨eB,iffB⟩)) w s=_;cases decide (s=⟨eB,iffB⟩)with
  |true=>rfl
  |false=>
   simp only[J10x1,B10x1];rw[aC,Bool.false_or];exact h2
def rr4_loop{c:TC0}{L:Nat}{n2:List G.E->Int->G.Y->Rt}{s:G.Y}{j:Nat}{w:List G.E}{e:G.E}(he:w[j]?=some e)(hb:e.rules.length<1000000000): ∀(l:List G.U) (k m:Nat),e.rules.drop k=l->l.length<m->
    aEW c L n2 m (k:Int) (j:Int) w s=bif l.any (rlR s)then some (bb true)else n2 w (IntKind.i64.wrap ((j:Int)+(1:Int))) s:=by
 intro l;have i0:idx w (j:Int)=some e:=(aD w j).trans he;induction l with
 |nil=>
  intro k m h1 h3;obtain⟨m,rfl⟩:=sK m 1 (by simp at h3;omega)
  have e1:=aH h1;rw[aEW,B11x4,i0,aS,dF (by omega: ¬k<e.rules.length),aC];rfl
 |cons x l ih=>
  intro k m h1 h3;obtain⟨m,rfl⟩:=sK m 1 (by simp at h3;omega)
  obtain⟨a1,a2,a3⟩:=aI h1;have i1:idx e.rules (k:Int)=some x:=(aD e.rules k).trans a1;have gk:=ih (k+1) m a3 (by simp at h3;omega)
  rw[aEW,B11x4,i0,aS,dT (by omega:k<e.rules.length),aG,aS,i1,aS,List.any_cons,rlR]
  simp only[J11x5,B11x5];rw[aX (by omega)]
  cases decide (x.cls=6)with
  |false=>rw[aC,aC,Bool.false_and,Bool.false_or];exact gk
  |true=>
   rw[aG,aS,i1,aS,Bool.true_and];cases decide (x.equiv=s)with
   |true=>rfl
   |false=>rw[aC,Bool.false_or];exact gk
def rr2_loop{c:TC0}{L B:Nat}{s:G.Y}{w:List G.E}(hB:B<1000000)(hL:B<L)(ha:WoB B w): ∀(l:List G.E) (k m:Nat),w.drop k=l->l.length<m->
    aA1 c L m w (k:Int) s=some (bb (l.any (rlE s))):=by
 intro l;have h0:=ha.l;induction l with
 |nil=>
  intro k m h1 h3;obtain⟨m,rfl⟩:=sK m 1 (by simp at h3;omega)
  have e1:=aH h1;rw[aA1,B11x2,dF (by omega: ¬k<w.length),aC];rfl
 |cons x l ih=>
  intro k m h1 h3;obtain⟨m,rfl⟩:=sK m 1 (by simp at h3;omega)
  obtain⟨a1,a2,a3⟩:=aI h1;have hx:=ha.r x (List.mem_of_getElem? a1);have gk:=ih (k+1) m a3 (by simp at h3;omega)
  rw[aA1,B11x2,dT (by omega:k<w.length),aG,aD,a1,aS,List.any_cons,rlE]
  cases decide (x.kind=4)with
  |false=>
   rw[Bool.not_false,aG,Bool.false_and,Bool.false_or];simp only[J11x3,B11x3];rw[aX (by omega)];exact gk
  |true=>
   rw[bnT,aC,Bool.true_and];refine(rr4_loop (c:=c) (n2:=aA1 c L m) a1 (by omega) x.rules 0 L rfl (by omega)).trans ?_
   rw[aX (by omega)]
   cases x.rules.any (rlR s)with
   |true=>rfl
   |false=>rw[cdf,Bool.false_or];exact gk
def aJJ{L n B:Nat}{s:G.Y}{w:List G.E}(hB:B<1000000)(hL:B<L)(ha:WoB B w):CTp L (n+2) 11 [yS 16 w,yR 1 s]=some (bb (relW w s)):=by
 have h0:=ha.l;have h2:=rr2_loop (c:=CTp L (n+1)) (L:=L) (s:=s) hB hL ha w 0 L rfl (by omega)
 rw[c11,F11,B11x0,mX,fZ,relW];simp only[];show cnd (decide (s=⟨eB,equB⟩)) _ _=_;cases decide (s=⟨eB,equB⟩)with
 |true=>rfl
 |false=>
  rw[aC,mX,fZ,Bool.false_or];show J11x1 (CTp L (n+1)) L (decide (s=⟨eB,iffB⟩)) w s=_;cases decide (s=⟨eB,iffB⟩)with
  |true=>rfl
  |false=>
   simp only[J11x1,B11x1];rw[aC,Bool.false_or];exact h2
noncomputable def cQ(L M k:Nat):TC0:=evB (λ_ _=>none) (upT (L+7000) M) (L+7000) k
def cQ_ok(L M k:Nat):cQ L M k=CTp (L+7000) (M+k):=aGp (λn i d r h=>by cases h) k
def vaT(c:UInt8):G.T:=⟨1,⟨eB,[c]⟩,ozO,[]⟩
def liT(f:List UInt8)(l:List G.T):G.T:=⟨3,⟨eB,f⟩,ozO,l⟩
def reT(s:G.Y)(a b:UInt8):G.T:=⟨3,s,ozO,[vaT a,vaT b]⟩
def imB:List UInt8:=[105,109,112,108,105,101,115]
def eqvT(s:G.Y):G.T:=liT condB [liT [98,111,111,108,101,97,110,112] [reT s 120 121],
 liT condB [reT s 120 120,liT condB [liT imB [reT s 120 121,reT s 121 120],liT imB [liT condB [reT s 120 121,reT s 121 122,nlT],reT s 120 122],nlT],nlT],nlT]
def eqvP(L M:Nat)(s:G.Y):cQ L M 20 79 [yR 1 s]=some [yR 3 (eqvT s)]:=by kernel_rfl
def eqvR(L M:Nat)(s:G.Y):cQ L M 20 19 [yR 1 s]=some [yR 3 (eqvT s)]:=by kernel_rfl
structure MkU(c:TC0)(w:List G.E):Prop where
 fP: ∀f:G.Y,c 78 [yS 16 w,yR 1 f]=some (fnR (fnW w f))
 fR: ∀f:G.Y,c 42 [yS 16 w,yR 1 f]=some (fnR (fnW w f))
 rP: ∀s:G.Y,c 10 [yS 16 w,yR 1 s]=some [yB (relW w s)]
 rR: ∀s:G.Y,c 11 [yS 16 w,yR 1 s]=some [yB (relW w s)]
 qP: ∀s:G.Y,c 79 [yR 1 s]=some [yR 3 (eqvT s)]
 qR: ∀s:G.Y,c 19 [yR 1 s]=some [yR 3 (eqvT s)]
def eq_both{c1 c2:TC0}{L M:Nat}(E1:MkV c1 M)(E2:MkV c2 M){w:List G.E}(U1:MkU c1 w)(U2:MkU c2 w){nm:G.Y}{k:Int}{f:G.T}(hf:tsz f<=M):
    Bo M (F29 c1 L w f ⟨nm,k,[],ySy,ozT,ozT,[],0,[],0,ySy⟩) (obL (D:=U0.D) [.bool] (c2 34 [yR 3 f,yT ([105,102]:List UInt8),yI (3:Int)]) λ(r15:Bool×Unit)=>
      cnd (!r15.1) (J6x6 c2 L true w f f ⟨nm,k,[],ySy,ozT,ozT,[],0,[],0,ySy⟩ zRl) (ob (idx f.args (0:Int)) λv16=>
      obL (D:=U0.D) [.bool] (c2 34 [yR 3 v16,yT ([98,111,111,108,101,97,110,112]:List UInt8),yI (1:Int)]) λ(r17:Bool×Unit)=>
      cnd (!r17.1) (J6x6 c2 L true w f f ⟨nm,k,[],ySy,ozT,ozT,[],0,[],0,ySy⟩ zRl) (ob (idx f.args (0:Int)) λv18=>
      ob (idx v18.args (0:Int)) λv19=>
      J6x6 c2 L (!decide (v19.kind=(3:Int))) w f f ⟨nm,k,[],ySy,ozT,ozT,[],0,[],0,ySy⟩ zRl))):=by
 have er:Bo M (J29x1 c1 L true w ⟨nm,k,[],ySy,ozT,ozT,[],0,[],0,ySy⟩ f) (J6x6 c2 L true w f f ⟨nm,k,[],ySy,ozT,ozT,[],0,[],0,ySy⟩ zRl):= .er (e:=40) (by decide) rfl rfl
 rw[F29,B29x0,E1.icP,aN,E2.icR,aN];simp only[];refine .cn _ (λ_=>er) λhi=>?_
 have hi:isA f [105,102] 3=true:=by simpa using hi
 obtain⟨_,_,h3⟩:=lU (k:=3) hi;obtain⟨a,ea,sa⟩:=eD (t:=f) (k:=0) (by omega)
 have ia:idx f.args (0:Int)=some a:=(aD f.args 0).trans ea;rw[ia];simp only[aS];rw[E1.icP,aN,E2.icR,aN];simp only[];refine .cn _ (λ_=>er) λhj=>?_
 have hj:isA a [98,111,111,108,101,97,110,112] 1=true:=by simpa using hj
 obtain⟨_,_,h4⟩:=lU (k:=1) hj;obtain⟨u,eu,su⟩:=eD (t:=a) (k:=0) (by omega)
 have iu:idx a.args (0:Int)=some u:=(aD a.args 0).trans eu;rw[iu];simp only[aS];simp only[J29x1,B29x1,J6x6,B6x6];refine .cn _ (λ_=> .er (e:=40) (by decide) rfl rfl) λ_=>?_
 rw[ia];simp only[aS];rw[iu];simp only[aS];rw[U1.fP,U2.fR];have fin: ∀b:Bool,Bo M (J29x2 c1 L b ⟨nm,k,[],ySy,ozT,ozT,[],0,[],0,ySy⟩ u.name) (J6x13 c2 L b u.name ⟨nm,k,[],ySy,ozT,ozT,[],0,[],0,ySy⟩ zRl):=λb=>by
  simp only[J29x2,B29x2,J6x13,B6x13];refine .cn _ (λ_=> .er (e:=40) (by decide) rfl rfl) λ_=> .ok rfl rfl ⟨λt ht=>(by cases ht),Nat.zero_le _,λt ht=>(by cases ht),Nat.zero_le _,Or.inl rfl,Or.inl rfl,Nat.zero_le _⟩
 cases fnW w u.name with
 |none=>exact fin true
 |some g=>
  show Bo M (obL (D:=U0.D) [.rc 3] (c1 79 [yR 1 u.name]) _) (obL (D:=U0.D) [.rc 3] (c2 19 [yR 1 u.name]) _);rw[U1.qP,rI,E1.eP _ _ hf,aN,U2.qR,rI,E2.eR _ _ hf,aN];exact fin _
end Go.TV
namespace Go.TV
open Go.AI Go.PI Go.Proofs
set_option maxRecDepth 20000
mutual
noncomputable def rpT(a b:G.T):G.T->G.T
 |⟨k,n,v,l⟩=>bif decide (G.T.mk k n v l=a)then b else bif decide (k=3)then⟨k,n,v,rpT' a b l⟩else⟨k,n,v,l⟩
noncomputable def rpT'(a b:G.T):List G.T->List G.T
 |[]=>[]
 |x::l=>rpT a b x::rpT' a b l
end
def aDi{W:Type}{a b d:G.T}{K:G.T×G.T×G.T×Unit->Option W}:obL (D:=U0.D) [.rc 3,.rc 3,.rc 3] (some [yR 3 a,yR 3 b,yR 3 d]) K=K (a,b,d,()):=rfl
def aBk{N:Type}(x:N): ∀n,(aCX x n).length=n
 |0=>rfl
 |n+1=>by show(aCX x n).length+1=n+1;rw[aBk x n]
def wi_loop{c:TC0}{L:Nat}{a b t z:G.T}{al:List G.T}(hb:al.length<1000000000): ∀(l:List G.T) (k m:Nat) (acc:List G.T),al.drop k=l->l.length<m->acc.length=al.length->
    (∀x,x∈l->c 137 [yR 3 x,yR 3 a,yR 3 b]=some [yR 3 (rpT a b x),yR 3 a,yR 3 b])->
    rC c L m (al.length:Int) al (k:Int) a b acc t z=some [yR 3 (⟨t.kind,t.name,t.value,acc.take k++rpT' a b l⟩:G.T),yR 3 a,yR 3 b]:=by
 intro l;induction l with
 |nil=>
  intro k m acc h1 h3 h4 _;obtain⟨m,rfl⟩:=sK m 1 (by simp at h3;omega)
  have e1:=aH h1;have e5:acc.take k=acc:=List.take_of_length_le (by omega)
  rw[rC,aHK,dF (by omega: ¬k<al.length),aC,rpT',apN,e5]
 |cons x l ih=>
  intro k m acc h1 h3 h4 hc;obtain⟨m,rfl⟩:=sK m 1 (by simp at h3;omega)
  obtain⟨a1,a2,a3⟩:=aI h1;have hx:=hc x (mhE ..);have hk:k<acc.length:=by omega
  have hi:bC (k:Int) acc.length=true:=by
   unfold bC;simp;omega
  have e6:(acc.set k (rpT a b x)).take (k+1)=acc.take k++ [rpT a b x]:=by
   rw[List.take_add_one,List.take_set_of_le (nlR _)];simp[hk]
  rw[rC,aHK,dT (by omega:k<al.length),aG,aD,a1,aS,hx,aDi]
  try dsimp only
  rw[hi,eC,aD,geG hk,aS,aX (by omega),Int.toNat_natCast,
   ih (k+1) m (acc.set k (rpT a b x)) a3 (by simp at h3;omega) (by simpa using h4) λz hz=>hc z (mtE _ hz),e6,rpT',apA]
  rfl
def rpP_ok(a b:G.T): ∀t:G.T,∀(L n:Nat),tsz t<L->3*tsz t<=n->tsz t<1000000->CTp L n 80 [yR 3 t,yR 3 a,yR 3 b]=some [yR 3 (rpT a b t)]:=λt=>by
 induction t using cX with
 |h k nm v l ih=>
  intro L n hL hn hw;have h0:bM l+4<=tsz ⟨k,nm,v,l⟩:=fJ (t:=⟨k,nm,v,l⟩);have hlen:=bF l;have he: ∀m,3*tsz ⟨k,nm,v,l⟩<=m+3->CTp L m 70 [yR 3 (⟨k,nm,v,l⟩:G.T),yR 3 a]=some [yB (decide (G.T.mk k nm v l=a))]:=λm hm=>aHw ⟨k,nm,v,l⟩ (by simp only[wfT];omega) a L m (by omega) (by omega)
  obtain⟨n,rfl⟩:=sK n 3 (by omega)
  rw[show n+3=n+2+1 from rfl,c80,F80,B80x0,he (n+2) (by omega),aN,rpT]
  try dsimp only
  cases decide (G.T.mk k nm v l=a)with
  |true=>rfl
  |false=>
   rw[aC,cdf];by_cases hk:k=3
   ·rw[decide_eq_true hk,cdt];have e1:CTp L (n+2) 116 [yR 3 (⟨k,nm,v,l⟩:G.T),yR 3 a,yR 3 b]=some [yR 3 (⟨k,nm,v,rpT' a b l⟩:G.T),yR 3 a,yR 3 b]:=by
     rw[show n+2=n+1+1 from rfl,c116,F116,aHL,show decide ((G.T.mk k nm v l).kind=3)=true from decide_eq_true hk,bnT,aC]
     show chk (decide (0<=(l.length:Int))&&decide ((l.length:Int)<=(l.length:Int))&&decide ((l.length:Int)*(176:Int)<=1073741824)&&decide ((l.length:Int)<=1073741824)) _=_;rw[decide_eq_true (by omega:(0:Int)<=(l.length:Int)),decide_eq_true (Int.le_refl _),decide_eq_true (by omega:(l.length:Int)*176<=1073741824),decide_eq_true (by omega:(l.length:Int)<=1073741824)]
     show chk (decide ((l.length:Int)=(l.length:Int))) _=_;rw[decide_eq_true rfl,eC];show rC (CTp L (n+1)) L L (l.length:Int) l ((0:Nat):Int) a b (aCX _ (Int.toNat (l.length:Int))) ⟨k,nm,v,l⟩ _=_;exact(wi_loop (c:=CTp L (n+1)) (t:=⟨k,nm,v,l⟩) (al:=l) (by omega) l 0 L _ rfl (by omega) (by rw[aBk];omega) λx hx=>by
      rw[c137,F137,aOF,ih x hx L n (by have:=aP hx;omega) (by have:=aP hx;omega) (by have:=aP hx;omega),rI]).trans (by rw[List.take_zero,nlA];rfl)
    rw[e1,aDi]
   ·rw[decide_eq_false hk,cdf];have e1:CTp L (n+2) 116 [yR 3 (⟨k,nm,v,l⟩:G.T),yR 3 a,yR 3 b]=some [yR 3 (⟨k,nm,v,l⟩:G.T),yR 3 a,yR 3 b]:=by
     rw[show n+2=n+1+1 from rfl,c116,F116,aHL,show decide ((G.T.mk k nm v l).kind=3)=false from decide_eq_false hk,Bool.not_false,aG]
    rw[e1,aDi]
def ap_ok{L n:Nat}(f:G.Y)(l:List G.T):CTp L (n+1) 20 [yR 1 f,yS 3 l]=some [yR 3 (⟨3,f,ozO,l⟩:G.T)]:=by
 rw[c20];rfl
def rr_loop{L n:Nat}{a b t z:G.T}(hb:t.args.length<1000000): ∀(l:List G.T) (k m:Nat) (acc:List G.T),t.args.drop k=l->l.length<m->acc.length=k->
    (∀x,x∈l->CTp L (n+1) 84 [yR 3 x,yR 3 a,yR 3 b]=some [yR 3 (rpT a b x)])->
    aEK (CTp L (n+1)) L m (k:Int) acc a b t z=some [yR 3 (⟨3,t.name,ozO,acc++rpT' a b l⟩:G.T)]:=by
 intro l;induction l with
 |nil=>
  intro k m acc h1 h3 h4 _;obtain⟨m,rfl⟩:=sK m 1 (by simp at h3;omega)
  have e1:=aH h1;rw[aEK,B84x1,dF (by omega: ¬k<t.args.length),aC,ap_ok,rI,rpT',apN]
 |cons x l ih=>
  intro k m acc h1 h3 h4 hc;obtain⟨m,rfl⟩:=sK m 1 (by simp at h3;omega)
  obtain⟨a1,a2,a3⟩:=aI h1;have hx:=hc x (mhE ..);have e5:Nat.ble ((acc.length+([rpT a b x]:List G.T).length)*176) 1073741824=true:=lV (by simp only[lcS,lnN];omega)
  rw[aEK,B84x1,dT (by omega:k<t.args.length),aG,aD,a1,aS,hx,rI]
  try dsimp only
  rw[e5,eC,aX (by omega),ih (k+1) m (acc++ [rpT a b x]) a3 (by simp at h3;omega) (by simp;omega) λz hz=>hc z (mtE _ hz),rpT',apA]
  rfl
def rpR_ok(a b:G.T): ∀t:G.T,∀(L n:Nat),tsz t<L->tsz t+2<=n->tsz t<1000000->CTp L n 84 [yR 3 t,yR 3 a,yR 3 b]=some [yR 3 (rpT a b t)]:=λt=>by
 induction t using cX with
 |h k nm v l ih=>
  intro L n hL hn hw;have h0:bM l+4<=tsz ⟨k,nm,v,l⟩:=fJ (t:=⟨k,nm,v,l⟩);have hlen:=bF l;have h3:=trm3 (t:=⟨k,nm,v,l⟩) (by omega)
  obtain⟨n,rfl⟩:=sK n 2 (by omega)
  have he:CTp L (n+1) 43 [yR 3 (⟨k,nm,v,l⟩:G.T),yR 3 a]=some [yB (decide (G.T.mk k nm v l=a))]:=vA ⟨k,nm,v,l⟩ (by simp only[wfT];omega) a L (n+1) (by omega) (by omega)
  rw[c84,F84,B84x0,he,aN,rpT]
  try dsimp only
  cases decide (G.T.mk k nm v l=a)with
  |true=>rfl
  |false=>
   rw[aC,cdf];by_cases hk:k=3
   ·rw[show decide ((G.T.mk k nm v l).kind=3)=true from decide_eq_true hk,bnT,aC,decide_eq_true hk,cdt]
    have hv:v=ozO:=by
     rcases h3 with h|⟨h,_⟩|h
     ·exact absurd (congrArg G.T.kind h) (by show¬k=1;omega)
     ·exact absurd (congrArg G.T.kind h) (by show¬k=2;omega)
     ·injection h
    exact(rr_loop (L:=L) (n:=n) (t:=⟨k,nm,v,l⟩) (by show l.length<_;omega) l 0 L [] rfl (by omega) rfl λx hx=>ih x hx L (n+1) (by have:=aP hx;omega) (by have:=aP hx;omega) (by have:=aP hx;omega)).trans (by rw[hk,hv];rfl)
   ·rw[show decide ((G.T.mk k nm v l).kind=3)=false from decide_eq_false hk,Bool.not_false,aG,decide_eq_false hk,cdf]
def nm_in{c:TC0}{L:Nat}{n3:Int->Int->G.T->G.T->G.T->G.T->G.T->G.T->G.U->G.U->Rt}{pos:Int}{u x y l h d:G.T}{R:G.U}{i:Nat}{a:G.T}(ha:l.args[i]?=some a)(hi:i<1000000): ∀(q j m:Nat),j+q=i->q<m->
    aCw c L n3 m (j:Int) (i:Int) pos u x y l h d R zRl=bif decide (a.name∈((l.args.take i).drop j).map λz=>z.name)then erR 40 else n3 ((i+1:Nat):Int) pos u x y l h d R zRl
 |0,j,m,hq,hm=>by
  obtain⟨m,rfl⟩:=sK m 1 (by omega)
  obtain rfl:j=i:=by omega
  have e0:(l.args.take j).drop j=[]:=by rw[List.drop_eq_nil_iff,List.length_take];omega
  rw[aCw,B35x7,dF (by omega: ¬j<j),aC,e0,aX (by omega)]
  rfl
 |q+1,j,m,hq,hm=>by
  obtain⟨m,rfl⟩:=sK m 1 (by omega)
  have hil:i<l.args.length:=(List.getElem?_eq_some_iff.1 ha).1;have hj:l.args[j]?=some l.args[j]:=geG (by omega)
  have e0:(l.args.take i).drop j=l.args[j]::(l.args.take i).drop (j+1):=by
   rw[List.drop_eq_getElem_cons (by rw[List.length_take];omega),List.getElem_take]
  rw[aCw,B35x7,dT (by omega:j<i),aG,aD,hj,aS,aD,ha,aS,e0,mpC,aX (by omega)]
  by_cases e:l.args[j].name=a.name
  ·rw[decide_eq_true e,aG,decide_eq_true (by rw[e];exact mhE ..)];rfl
  ·rw[decide_eq_false e,aC,nm_in ha hi q (j+1) m (by omega) (by omega)]
   congr 1;exact decide_eq_decide.2 ⟨λh=>mtE _ h,λh=>(List.mem_cons.1 h).resolve_left λq=>e q.symm⟩
def co_loop{c1 c2:TC0}{L M:Nat}(E1:MkV c1 M)(E2:MkV c2 M)(X1:MkX c1 M)(hM:M<200000)(hL:M<L){nm:G.Y}{k:Int}{u x y l h d:G.T}(hl:tsz l<=M)(hu:tsz u<=M)
    (hP:c1 80 [yR 3 l,yR 3 x,yR 3 y]=some [yR 3 (rpT x y l)]) (hR:c2 84 [yR 3 l,yR 3 x,yR 3 y]=some [yR 3 (rpT x y l)]):
    ∀(r:List G.T) (i m m':Nat) (pos:Int),l.args.drop i=r->r.length<m->r.length<m'->(∀z∈l.args.take i,z.kind=1)->
    Bo M (aAZ c1 L m (l.args.length:Int) l.args (i:Int) pos ⟨nm,k,[],ySy,ozT,ozT,[],0,[],0,ySy⟩ u x y l h d) (aAY c2 L m' (i:Int) pos u x y l h d ⟨nm,k,[],ySy,ozT,ozT,[],0,[],0,ySy⟩ zRl):=by
 intro r;have a1:=fJ (t:=l);have a2:=bF l.args;have jr: ∀u∈l.args,tsz u<=M:=λu hu=>by have:=kE hu;omega
 induction r with
 |nil=>
  intro i m m' pos h1 h3 h4 _;obtain⟨m,rfl⟩:=sK m 1 (by simp at h3;omega)
  obtain⟨m',rfl⟩: ∃q,m'=q+1:=⟨m'-1,by simp at h4;omega⟩
  have e1:=aH h1;have fin: ∀b:Bool,Bo M (J30x5 c1 L b pos ⟨nm,k,[],ySy,ozT,ozT,[],0,[],0,ySy⟩ l h d) (J35x5 c2 L b pos l h d ⟨nm,k,[],ySy,ozT,ozT,[],0,[],0,ySy⟩ zRl):=λb=>by
   simp only[J30x5,B30x5,J35x5,B35x5];exact .cn _ (λ_=> .er (e:=40) (by decide) rfl rfl) λ_=> .ok rfl rfl ⟨λt ht=>(by cases ht),Nat.zero_le _,λt ht=>(by cases ht),Nat.zero_le _,Or.inr hl,Or.inl rfl,Nat.zero_le _⟩
  rw[aAZ,B30x3,aAY,B35x3,dF (by omega: ¬i<l.args.length),aC,aC]
  refine .cn _ (λ_=>fin true) λ_=>?_
  rw[hP,rI,hR,rI,E1.eP _ _ hu,aN,E2.eR _ _ hu,aN];exact fin _
 |cons a r ih=>
  intro i m m' pos h1 h3 h4 hv;obtain⟨m,rfl⟩:=sK m 1 (by simp at h3;omega)
  obtain⟨m',rfl⟩: ∃q,m'=q+1:=⟨m'-1,by simp at h4;omega⟩
  obtain⟨c1',c2',c3⟩:=aI h1;simp only[lcS]at h3 h4;have ha:=jr a (List.mem_of_getElem? c1');have i1:idx l.args (i:Int)=some a:=(aD l.args i).trans c1';have er:Bo M (J30x4 c1 L (aAZ c1 L m) true (i:Int) (i:Int) (l.args.length:Int) l.args pos ⟨nm,k,[],ySy,ozT,ozT,[],0,[],0,ySy⟩ a u x y l h d) (J35x4 c2 L (aAY c2 L m') true (i:Int) pos u x y l h d ⟨nm,k,[],ySy,ozT,ozT,[],0,[],0,ySy⟩ zRl):= .er (e:=40) (by decide) rfl rfl
  rw[aAZ,B30x3,aAY,B35x3,dT (by omega:i<l.args.length),aG,aG,i1]
  simp only[aS];refine .cn _ (λ_=>er) λhk=>?_
  have hk:a.kind=1:=by simpa using hk
  cases decide (a.name=y.name)with
  |true=>exact er
  |false=>
   rw[aC,aFf (by omega),aS,X1.hs _ _ (λu hu=>jr u (List.mem_of_mem_take hu)) (by rw[List.length_take];omega),aN]
   have hin:(a∈l.args.take i)↔a.name∈(l.args.take i).map λz=>z.name:=by
    constructor
    ·exact λhz=>List.mem_map.2 ⟨a,hz,rfl⟩
    ·intro hz;obtain⟨z,hz1,hz2⟩:=List.mem_map.1 hz;have e1:=var_eq (t:=z) (by have:=jr z (List.mem_of_mem_take hz1);omega) (hv z hz1)
     have e2:=var_eq (t:=a) (by omega) hk
     rw[e2,<-hz2,<-e1];exact hz1
   have ke: ∀z∈l.args.take (i+1),z.kind=1:=λz hz=>by
    rw[List.take_add_one,c1']at hz;rcases List.mem_append.1 hz with hz|hz
    ·exact hv z hz
    ·rw[Option.toList_some,List.mem_singleton]at hz;subst hz;exact hk
   have st: ∀pos':Int,Bo M (bif decide (a∈l.args.take i)then some [yI (40:Int),yR 5 (⟨nm,k,[],ySy,ozT,ozT,[],0,[],0,ySy⟩:G.U)]else aAZ c1 L m (l.args.length:Int) l.args ((i+1:Nat):Int) pos' ⟨nm,k,[],ySy,ozT,ozT,[],0,[],0,ySy⟩ u x y l h d) (aCw c2 L (aAY c2 L m') L ((0:Nat):Int) (i:Int) pos' u x y l h d ⟨nm,k,[],ySy,ozT,ozT,[],0,[],0,ySy⟩ zRl):=λpos'=>by
    rw[nm_in c1' (by omega) i 0 L (by omega) (by omega),List.drop_zero,decide_eq_decide.2 hin]
    cases decide (a.name∈(l.args.take i).map λz=>z.name)with
    |true=>exact .er (e:=40) (by decide) rfl rfl
    |false=>exact ih (i+1) m m' pos' c3 (by omega) (by omega) ke
   simp only[J30x4,B30x4,J35x4,B35x4,J30x6,B30x6,J35x6,B35x6];rw[aC,i1,aX (by omega)]
   simp only[aS];cases decide (a.name=x.name)with
   |true=>
    have:=st (i:Int);cases hd:decide (a∈l.args.take i)with
    |true=>rw[hd]at this;exact this
    |false=>rw[hd]at this;exact this
   |false=>
    have:=st pos;cases hd:decide (a∈l.args.take i)with
    |true=>rw[hd]at this;exact this
    |false=>rw[hd]at this;exact this
def co_both{c1 c2:TC0}{L M:Nat}(E1:MkV c1 M)(E2:MkV c2 M)(X1:MkX c1 M)(hM:M<200000)(hL:M<L){w:List G.E}(U1:MkU c1 w)(U2:MkU c2 w){nm:G.Y}{k:Int}{f:G.T}(hf:tsz f<=M)
    (hP: ∀l x y:G.T,tsz l<=M->c1 80 [yR 3 l,yR 3 x,yR 3 y]=some [yR 3 (rpT x y l)]) (hR: ∀l x y:G.T,tsz l<=M->c2 84 [yR 3 l,yR 3 x,yR 3 y]=some [yR 3 (rpT x y l)]):
    Bo M (F30 c1 L w f ⟨nm,k,[],ySy,ozT,ozT,[],0,[],0,ySy⟩) (F35 c2 L w ⟨nm,k,[],ySy,ozT,ozT,[],0,[],0,ySy⟩ f):=by
 rw[F30,B30x0,F35,B35x0,E1.icP,aN,E2.icR,aN];simp only[];refine .cn _ (λ_=> .er (e:=40) (by decide) rfl rfl) λhi=>?_
 have hi:isA f [105,109,112,108,105,101,115] 2=true:=by simpa using hi
 obtain⟨_,_,h3⟩:=lU (k:=2) hi;obtain⟨h,eh,sh⟩:=eD (t:=f) (k:=0) (by omega)
 obtain⟨d,ed,sd⟩:=eD (t:=f) (k:=1) (by omega)
 have ih:idx f.args (0:Int)=some h:=(aD f.args 0).trans eh;have id:idx f.args (1:Int)=some d:=(aD f.args 1).trans ed;rw[ih,id];simp only[aS];have er:Bo M (aNV c1 L true ⟨nm,k,[],ySy,ozT,ozT,[],0,[],0,ySy⟩ h d) (aNU c2 L true h d ⟨nm,k,[],ySy,ozT,ozT,[],0,[],0,ySy⟩ zRl):= .er (e:=40) (by decide) rfl rfl
 have go:h.args.length=2->d.args.length=2->Bo M (aNV c1 L false ⟨nm,k,[],ySy,ozT,ozT,[],0,[],0,ySy⟩ h d) (aNU c2 L false h d ⟨nm,k,[],ySy,ozT,ozT,[],0,[],0,ySy⟩ zRl):=λhn dn=>by
  obtain⟨x,ex,sx⟩:=eD (t:=h) (k:=0) (by omega)
  obtain⟨y,ey,sy⟩:=eD (t:=h) (k:=1) (by omega)
  obtain⟨l,el,sl⟩:=eD (t:=d) (k:=0) (by omega)
  obtain⟨u,eu,su⟩:=eD (t:=d) (k:=1) (by omega)
  have ix:idx h.args (0:Int)=some x:=(aD h.args 0).trans ex;have iy:idx h.args (1:Int)=some y:=(aD h.args 1).trans ey;have il:idx d.args (0:Int)=some l:=(aD d.args 0).trans el;have iu:idx d.args (1:Int)=some u:=(aD d.args 1).trans eu;have a1:=fJ (t:=l);have a2:=bF l.args;have er2:Bo M (J30x2 c1 L true ⟨nm,k,[],ySy,ozT,ozT,[],0,[],0,ySy⟩ u x y l h d) (J35x2 c2 L true u x y l h d ⟨nm,k,[],ySy,ozT,ozT,[],0,[],0,ySy⟩ zRl):= .er (e:=40) (by decide) rfl rfl
  simp only[aNV,B30x1,aNU,B35x1];rw[aC,aC,ix,iy,il,iu];simp only[aS];refine .cn _ (λ_=>er2) λ_=> .cn _ (λ_=>er2) λ_=> .cn _ (λ_=>er2) λ_=> .cn _ (λ_=>er2) λ_=>?_
  rw[E1.lP,fZ,E2.lR,fZ];simp only[J30x2,B30x2,J35x2,B35x2];refine .cn _ (λ_=> .er (e:=40) (by decide) rfl rfl) λ_=>?_
  exact co_loop E1 E2 X1 hM hL (by omega) (by omega) (hP l x y (by omega)) (hR l x y (by omega)) l.args 0 L L (-1) rfl (by omega) (by omega) λz hz=>by rw[List.take_zero]at hz;cases hz
 cases h1:decide (h.kind=3)with
 |false=>
  rw[Bool.not_false,aG,aG];exact er
 |true=>
  rw[bnT,aC,aC];cases h4:decide (d.kind=3)with
  |false=>
   rw[Bool.not_false,aG];cases decide ((h.args.length:Int)=2)with
   |false=>exact er
   |true=>exact er
  |true=>
   simp only[bnT,aC];refine .cn _ (λ_=>er) λhn=> .cn _ (λ_=>er) λdn=>?_
   have hn:(h.args.length:Int)=2:=by simpa using hn
   have dn:(d.args.length:Int)=2:=by simpa using dn
   rw[U1.rP,aN,U2.rR,aN];refine .cn _ (λ_=>er) λ_=>?_
   rw[U1.rP,aN,U2.rR,aN];simp only[];cases relW w d.name with
   |false=>exact er
   |true=>exact go (by omega) (by omega)
end Go.TV
namespace Go.TV
open Go.AI Go.PI Go.Proofs
set_option maxRecDepth 20000
def aJl{s:G.Y}{L n:Nat}:CTp L (n+1) 104 [yR 1 s]=some [yR 2 (⟨2,[],[],s,[],[]⟩:G.O)]:=by
 rw[c104];rfl
def mkv_ok{L n M:Nat}(hM:M<200000)(hL:2*M+20<=L)(hL2:2000<=L)(hn:3*M+20<=n):MkV (CTp L n) M:=by
 obtain⟨n,rfl⟩:=sK n 6 (by omega)
 exact{
  vP:=λl hl=>vP_ok l (by omega) L (n+6) (by omega) (by omega)
  vR:=λl hl=>VaL_ok l (by omega) L (n+6) (by omega) (by omega)
  ct:=λa s ha=>ct_ok (by omega) (by omega)
  wP:=λa b ha hb=>wP_ok (by omega) (by omega) (by omega) (by omega)
  wR:=λa b ha hb=>wR_ok (by omega) (by omega) (by omega) (by omega)
  icP:=λt s k=>aKY
  icR:=λt s k=>aKX
  lP:=λs=>aBx
  lR:=λs=>mX
  nP:=by rw[c65,F65,B65x0,aJl];rfl
  tP:=by rw[c67,F67,B67x0,aJl];rfl
  cP:=λo=>by rw[c66,F66,B66x0,c105];rfl
  nR:=nlt_ok
  tR:=by rw[c39,F39,B39x0,mX,fZ];simp only[];rw[c86];rfl
  cR:=λo=>by rw[c40];rfl
  eP:=λt u ht=>aHw t (by simp only[wfT];omega) u L (n+6) (by omega) (by omega)
  eR:=λt u ht=>vA t (by simp only[wfT];omega) u L (n+6) (by omega) (by omega)
  mP:=λt u ht hu=>MP_ok (B:=M) (by omega) t u L (n+6) ht hu (by omega) (by omega)
  mR:=λt u ht hu=>mr_ok (B:=M) (M:=M+1) (by omega) (by omega) t u [] L (n+6) ht hu (λx hx=>by cases hx) (by simp only[lnN];omega) (by omega) (by omega) (by omega)}
def hsT_loop{c:TC0}{L:Nat}{t:G.T}{a:List G.T}(hb:a.length<1000000000)(hc: ∀x∈a,c 70 [yR 3 x,yR 3 t]=some [yB (decide (x=t))]): ∀(l:List G.T) (k m:Nat),a.drop k=l->l.length<m->
    aEM c L m (a.length:Int) a (k:Int) t=some [yB (decide (t∈l))]:=by
 intro l;induction l with
 |nil=>
  intro k m h1 h3;obtain⟨m,rfl⟩:=sK m 1 (by simp at h3;omega)
  have e1:=aH h1;rw[aEM,B77x1,dF (by omega: ¬k<a.length),aC];simp
 |cons x l ih=>
  intro k m h1 h3;obtain⟨m,rfl⟩:=sK m 1 (by simp at h3;omega)
  obtain⟨a1,a2,a3⟩:=aI h1;rw[aEM,B77x1,dT (by omega:k<a.length),aG,aD,a1,aS,hc x (List.mem_of_getElem? a1),aN,aX (by omega)]
  simp only[];by_cases e:x=t
  ·rw[decide_eq_true e,aG,decide_eq_true (by rw[e];exact mhE ..)]
  ·rw[decide_eq_false e,aC,ih (k+1) m a3 (by simp at h3;omega)]
   have:decide (t∈l)=decide (t∈x::l):=decide_eq_decide.2 ⟨λh=>mtE _ h,λh=>(List.mem_cons.1 h).resolve_left λq=>e q.symm⟩
   rw[this]
def mkx_ok{L n M:Nat}(hM:M<200000)(hL:2*M+20<=L)(hL2:2000<=L)(hn:3*M+20<=n):MkX (CTp L n) M:=by
 obtain⟨n,rfl⟩:=sK n 6 (by omega)
 exact{
  rg:=λf=>by rw[c73,F73,B73x0,F45,aOi]
  rr:=λf=>by rw[c45,F45,aOi,F45,aOi]
  df:=λf=>dfP_ok f L _
  pl:=λf=>plnR_ok f L _ (by omega)
  pp:=λf=>pmP_ok f L _
  pr:=λf=>pmR_ok f L _ (by omega)
  sp:=λt ht=>sbP_ok t L (n+6) (by omega) (by omega) (by omega)
  sr:=λl hl=>Sub_ok (by omega) (by omega) (by omega)
  hs:=λl t hl hl2=>by
   rw[c77,F77,B77x0];exact hsT_loop (by omega) (λx hx=>aHw x (by have:=hl x hx;simp only[wfT];omega) t L (n+5) (by have:=hl x hx;omega) (by have:=hl x hx;omega)) l 0 L rfl (by omega)}
def mku_ok{L n B:Nat}{w:List G.E}(hB:B<1000000)(hw:WoB B w)(hL:B<L)(hL2:7000<=L)(hn:20<=n):MkU (CTp L n) w:=by
 obtain⟨n,rfl⟩:=sK n 20 (by omega)
 obtain⟨L',rfl⟩: ∃q,L=q+7000:=⟨L-7000,by omega⟩
 exact{
  fP:=λf=>fnP_ok hB hL hw
  fR:=λf=>fnR_ok hB hL hw
  rP:=λs=>aJK hB hL hw
  rR:=λs=>aJJ hB hL hw
  qP:=λs=>by rw[<-eqvP L' n s,cQ_ok]
  qR:=λs=>by rw[<-eqvR L' n s,cQ_ok]}
def obL_iR{W:Type}{i:Int}{r:G.U}{K:Int×G.U×Unit->Option W}:obL (D:=U0.D) [.int .i64,.rc 5] (some [yI i,yR 5 r]) K=K (i,r,()):=rfl
def zRl_B(M:Nat):RuB M zRl:=⟨λt ht=>(by cases ht),Nat.zero_le _,λt ht=>(by cases ht),Nat.zero_le _,Or.inl rfl,Or.inl rfl,Nat.zero_le _⟩
def Sm(M:Nat)(x y:Rt):Prop:= ∃(r:G.U) (e:Int),x=some [yR 5 r,yI e]/\y=some [yR 5 r,yI e]/\RuB M r
def Bo.fin{c:TC0}{L M:Nat}{x y:Rt}(h:Bo M x y):Sm M (obL (D:=U0.D) [.int .i64,.rc 5] x λ(r1:Int×G.U×Unit)=>J5x2 c L r1.1 r1.2.1 zRl) y:=by
 obtain⟨o,h1,h2,h3⟩:=h;cases o with
 |ok r=>
  rw[show x=_ from h1,show y=_ from h2,obL_iR]
  exact⟨r,0,rfl,rfl,h3 r rfl⟩
 |er e=>
  obtain⟨he,r,h1⟩:=h1;rw[h1,show y=_ from h2,obL_iR]
  refine⟨zRl,e,?_,rfl,zRl_B M⟩;simp only[J5x2,B5x2];rw[decide_eq_false he];rfl
def Sm.cn{M:Nat}{x y x' y':Rt}(b:Bool)(h1:b=true->Sm M x y)(h2:b=false->Sm M x' y'):Sm M (cnd b x x') (cnd b y y'):=by
 cases b
 ·exact h2 rfl
 ·exact h1 rfl
def obL_lt{W:Type}{l:List G.T}{t:G.T}{K:List G.T×G.T×Unit->Option W}:obL (D:=U0.D) [.sl (.rc 3),.rc 3] (some [yS 3 l,yR 3 t]) K=K (l,t,()):=rfl
def aKJ{L n M B:Nat}(hM:M<200000)(hL:2*M+20<=L)(hL2:7000<=L)(hn:3*M+30<=n){w:List G.E}(hB:B<1000000)(hBL:B<L)(hw:WoB B w)(nm:G.Y)(f:G.T)(k:Int)(hf:tsz f+60<=M):
    Sm M (CTp L n 5 [yS 16 w,yR 1 nm,yR 3 f,yI k]) (CTp L n 6 [yS 16 w,yR 1 nm,yR 3 f,yI k]):=by
 obtain⟨n,rfl⟩:=sK n 2 (by omega)
 have E1:MkV (CTp L n) M:=mkv_ok hM hL (by omega) (by omega)
 have E2:MkV (CTp L (n+1)) M:=mkv_ok hM hL (by omega) (by omega)
 have X1:MkX (CTp L n) M:=mkx_ok hM hL (by omega) (by omega)
 have X2:MkX (CTp L (n+1)) M:=mkx_ok hM hL (by omega) (by omega)
 have U1:MkU (CTp L n) w:=mku_ok hB hw hBL hL2 (by omega)
 have U2:MkU (CTp L (n+1)) w:=mku_ok hB hw hBL hL2 (by omega)
 obtain⟨h,d,p1,p2,p3⟩:=pt_ok f L (n+1) (by omega) (by omega) (by omega)
 have hh:bM h<=M:=by omega
 have hd:bM [d]<=M:=by rw[rV];omega
 have bw: ∀l r:G.T,tsz l+1<=M->tsz r<=M->CTp L (n+1) 47 [yR 3 l,yR 3 r]=some [yS 4 (stO l r)]:=λl r hl hr=>by
  rw[c47];exact stR_ok E1 hM (by omega) hl hr
 rw[c5,F5,B5x0,c6,F6,B6x0,p2,obL_lt,E2.vR h hh,dG,E2.vR [d] hd,dG];simp only[];have bad:(k<1∨8<k)->Sm M (J5x1 (CTp L (n+1)) L true k w nm f zRl) (some [yR 5 zRl,yI (24:Int)]):=λ_=>⟨zRl,24,rfl,rfl,zRl_B M⟩
 by_cases hk:k<1
 ·rw[decide_eq_true hk,aG,decide_eq_false (by omega: ¬k=1),decide_eq_false (by omega: ¬k=2),decide_eq_false (by omega: ¬k=3),decide_eq_false (by omega: ¬k=4),decide_eq_false (by omega: ¬k=5),decide_eq_false (by omega: ¬k=6),decide_eq_false (by omega: ¬k=7),decide_eq_false (by omega: ¬k=8)]
  simp only[aC];exact bad (.inl hk)
 ·rw[decide_eq_false hk,aC];by_cases hk8:8<k
  ·rw[decide_eq_true hk8,decide_eq_false (by omega: ¬k=1),decide_eq_false (by omega: ¬k=2),decide_eq_false (by omega: ¬k=3),decide_eq_false (by omega: ¬k=4),decide_eq_false (by omega: ¬k=5),decide_eq_false (by omega: ¬k=6),decide_eq_false (by omega: ¬k=7),decide_eq_false (by omega: ¬k=8)]
   simp only[aC];exact bad (.inr hk8)
  ·rw[decide_eq_false hk8];simp only[J5x1,B5x1];rw[aC,p1,obL_lt];simp only[];refine .cn _ (λ_=>?_) λh1=> .cn _ (λ_=>?_) λh2=> .cn _ (λ_=>?_) λh3=> .cn _ (λ_=>?_) λh4=> .cn _ (λ_=>?_) λh5=> .cn _ (λ_=>?_) λh6=>?_
   ·rw[c24];obtain⟨o,g1,g2,g3⟩:=rw_both (L:=L) E1 E2 hM (by omega) (R:=⟨nm,k,h,ySy,ozT,ozT,[],0,[],0,ySy⟩) (d:=d) (w:=w) (rel:=relW w) rfl (by show tsz d+bM h+40<=M;omega) bw U1.rP U2.rR
    refine Bo.fin (M:=M) ⟨o,g1,g2,λQ hQ=>?_⟩
    obtain⟨e,l,r,rfl,s1,s2⟩:=g3 Q hQ;have s3:=stO_len l r (nlR _);have s4:=bF h;exact⟨aBK (by show bM h<=M;omega),by show h.length<=M;omega,λt ht=>(by cases ht),Nat.zero_le _,Or.inr (by show tsz l<=M;omega),Or.inr (by show tsz r<=M;omega),by show(stO l r).length<=M;omega⟩
   ·rw[c25];exact(ty_both (L:=L) E1 E2 X1 X2 hM (by omega)).fin
   ·rw[c26];exact(fw_both (L:=L) E1 E2 hM (by omega)).fin
   ·rw[c27];exact(li_both (L:=L) E1 E2 X1 X2 hM (by omega) (by omega)).fin
   ·rw[c28];exact(el_both (L:=L) E1 E2 X1 hM (by omega) (by omega)).fin
   ·rw[c29];exact(eq_both (L:=L) E1 E2 U1 U2 (by omega)).fin
   ·have h8:k=7∨k=8:=by
     have h1: ¬k=1:=by simpa using h1
     have h2: ¬k=2:=by simpa using h2
     have h3: ¬k=3:=by simpa using h3
     have h4: ¬k=4:=by simpa using h4
     have h5: ¬k=5:=by simpa using h5
     have h6: ¬k=6:=by simpa using h6
     omega
    refine .cn _ (λ_=>?_) λh7=>?_
    ·rw[c30,c35];have hb:=co_both (L:=L) E1 E1 X1 hM (by omega) U1 U1 (nm:=nm) (k:=k) (f:=f) (by omega) (λl x y hl=>rpP_ok x y l L n (by omega) (by omega) (by omega)) (λl x y hl=>rpR_ok x y l L n (by omega) (by omega) (by omega))
     obtain⟨r,e,g1,g2,g3⟩:=Bo.fin (c:=CTp L (n+1)) (L:=L) hb;refine⟨r,e,g1,?_,g3⟩;exact(congrArg (λz=>obL (D:=U0.D) [.rc 5,.int .i64] z λ(r20:G.U×Int×Unit)=>some [(yR 5 r20.1:TV U0.D),yI r20.2.1]) g2).trans rfl
    ·have h7: ¬k=7:=by simpa using h7
     rw[decide_eq_true (by omega:k=8),aG,c31]
     exact(ge_both (L:=L) E1 E2 X1 X2 hM (by omega) (by omega) (by omega)).fin
end Go.TV
