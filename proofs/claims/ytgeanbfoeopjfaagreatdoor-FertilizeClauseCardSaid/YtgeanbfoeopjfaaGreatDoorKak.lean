import Derived.Test.YtgeanbfoeopjfaaGreatDoorKab
import Derived.Test.YtgeanbfoeopjfaaGreatDoorKaj
import Derived.Test.YtgeanbfoeopjfaaGreatDoorKac
import Derived.Test.YtgeanbfoeopjfaaGreatDoorKy
import Derived.Test.YtgeanbfoeopjfaaGreatDoorKz
import Derived.Test.YtgeanbfoeopjfaaGreatDoorKaa
set_option linter.unusedVariables false
set_option linter.unusedSimpArgs false
set_option linter.constructorNameAsVariable false
namespace Go.TV
open Go.AI Go.PI Go.Proofs
set_option maxRecDepth 20000
section
variable(L:Nat){E:List G.E}(hE:WOK E)
theorem uB{n:Nat}(h:60≤n):Lib (CTp (L+7000) n):=by
 obtain⟨m,rfl⟩: ∃m,n=m+60:=⟨n-60,by omega⟩
 exact lib_ok L m
theorem va_n{n:Nat}(h:61≤n)(s:G.Z)(hs:bK s):TSR (CTp (L+7000) n 17 [yR 0 s]) 6:=by
 obtain⟨m,rfl⟩: ∃m,n=m+1:=⟨n-1,by omega⟩
 rw[c17];exact Va_ok (uB L (by omega)) hs
theorem o0_n{n:Nat}(h:61≤n)(s:G.Z)(hs:bK s):OSR (CTp (L+7000) n 45 [yI (0:Int),yR 0 s]) 20:=by
 obtain⟨m,rfl⟩: ∃m,n=m+1:=⟨n-1,by omega⟩
 rw[c45];exact Ob0 (uB L (by omega)) hs
theorem o1_n{n:Nat}(h:62≤n)(s:G.Z)(hs:bK s):OSR (CTp (L+7000) n 45 [yI (1:Int),yR 0 s]) 200:=by
 obtain⟨m,rfl⟩: ∃m,n=m+1:=⟨n-1,by omega⟩
 rw[c45];exact Ob1 (uB L (by omega)) (by omega) (o0_n L (by omega)) hs
include hE
theorem ar_n{n:Nat}(h:4≤n)(f:G.Y):ArR (CTp (L+7000) n 50 [yS 15 E,yR 1 f]):=by
 obtain⟨m,rfl⟩: ∃m,n=m+4:=⟨n-4,by omega⟩
 exact Ar_ok hE f (by omega)
theorem t0_n{n:Nat}(h:63≤n)(s:G.Z)(hs:bK s):TSR (CTp (L+7000) n 14 [yS 15 E,yI (0:Int),yR 0 s]) 204:=by
 obtain⟨m,rfl⟩: ∃m,n=m+1:=⟨n-1,by omega⟩
 rw[c14];exact Te_ok (uB L (by omega)) (by omega) (B:=204) (by omega) (by omega) (va_n L (by omega)) (o1_n L (by omega)) (ar_n L hE (by omega)) (fun h=>by omega) hs
theorem t1_n{n:Nat}(h:64≤n)(s:G.Z)(hs:bK s):TSR (CTp (L+7000) n 14 [yS 15 E,yI (1:Int),yR 0 s]) 621:=by
 obtain⟨m,rfl⟩: ∃m,n=m+1:=⟨n-1,by omega⟩
 rw[c14];exact Te_ok (uB L (by omega)) (by omega) (B:=204) (by omega) (by omega) (va_n L (by omega)) (o1_n L (by omega)) (ar_n L hE (by omega)) (fun _=>t0_n L hE (by omega)) hs
theorem t2_n{n:Nat}(h:65≤n)(s:G.Z)(hs:bK s):TSR (CTp (L+7000) n 14 [yS 15 E,yI (2:Int),yR 0 s]) 1872:=by
 obtain⟨m,rfl⟩: ∃m,n=m+1:=⟨n-1,by omega⟩
 rw[c14];exact Te_ok (uB L (by omega)) (by omega) (B:=621) (by omega) (by omega) (va_n L (by omega)) (o1_n L (by omega)) (ar_n L hE (by omega)) (fun _=>t1_n L hE (by omega)) hs
theorem li_n{n:Nat}(h:66≤n)(s:G.Z)(hs:bK s):TSR (CTp (L+7000) n 51 [yS 15 E,yI (2:Int),yR 0 s]) 2523:=by
 obtain⟨m,rfl⟩: ∃m,n=m+1:=⟨n-1,by omega⟩
 rw[c51];exact Li_ok (uB L (by omega)) (va_n L (by omega)) (t2_n L hE (by omega)) (t1_n L hE (by omega)) hs
end
theorem smF_ok{E:List G.E}(h:smF E=true):WOK E:=by
 simp only[smF,smE,bjE,List.all_eq_true]at h;exact⟨Nat.le_of_ble_eq_true h.1,fun e he=>Nat.le_of_ble_eq_true (h.2 e he).1,fun e he f hf=>Nat.le_of_ble_eq_true ((h.2 e he).2 f hf)⟩
theorem obL_en{β:Type}{a:List G.E}{K:List G.E×Unit→Option β}:obL (D:=U0.D) [.sl (.rc 15)] (some [yS 15 a]) K=K (a,()):=rfl
end Go.TV
namespace Go.TV
open Go.AI Go.PI Go.Proofs
set_option maxRecDepth 20000
section
variable(L:Nat){E:List G.E}(hE:WOK E)
omit hE in
theorem ad_n(hL:100000≤L){n:Nat}(h:60000≤n)(a:List G.T)(t:G.T)(ha:bI a<50000):AdR (CTp (L+7000) n 18 [yS 3 a,yS 3 ([t]:List G.T)]) (bI a+tsz t+1):=by
 obtain⟨m,rfl⟩: ∃m,n=m+1:=⟨n-1,by omega⟩
 exact Ad_ok (by omega) (by omega) (by omega)
end
end Go.TV
namespace Go.TV
open Go.AI Go.PI Go.Proofs
set_option maxRecDepth 20000
theorem oL{a b:Int}(h:a=b):(some [⟨.int .i64,a⟩]:Rt)=some [⟨.int .i64,b⟩]:=by rw[h]
theorem gU(k:Int)(n d:List UInt8)(s:G.Y)(t:List UInt8)(l:List G.O):(G.O.mk k n d s t l).pair=l:=rfl
theorem fB{x:Int}(h1: -4000000000000000000≤x)(h2:x<4000000000000000000):IntKind.i64.wrap x=x:=by
 unfold IntKind.wrap;simp[IntKind.bits,IntKind.signed];omega
theorem cP{β:Type}{a:Int}{K:Int×Unit→Option β}:obL (D:=U0.D) [.int .i64] (some [⟨.int .i64,a⟩]) K=K (a,()):=rfl
mutual
def nO:G.O→Nat
 |⟨_,_,_,_,_,l⟩=>1+(bif Nat.beq l.length 2 then nO' l else 0)
def nO':List G.O→Nat
 |[]=>0
 |o::l=>nO o+nO' l
end
theorem nO_pos(o:G.O):1≤nO o:=by cases o;simp only[nO];omega
theorem nO_sz: ∀o:G.O,nO o≤osz o:=fun o=>by
 induction o using kI with
 |h k n d s t l ih=>
  have h:nO' l≤mD l:=by
   clear k n d s t;induction l with
   |nil=>exact nlR _
   |cons x l ih2=>
    have h1:=ih x (mhE ..);have h2:=ih2 fun o ho=>ih o (mtE _ ho)
    simp only[nO',mD];omega
  simp only[nO,osz];cases Nat.beq l.length 2 with
  |true=>simp only[cdt];omega
  |false=>simp only[cdf];omega
def RO(left:Int)(N:Nat)(r:Int):Prop:=((N:Int)≤left→r=left-N)∧(left<N→left-N≤r∧r≤ -1)
theorem rO_ok: ∀o:G.O,∀(L n m:Nat) (left:Int),osz o≤L→osz o≤n→osz o≤m→osz o<1000000000→ -2000000000≤left→left≤2000000000→
    ∃r:Int,lZ (CTp L n) L m left o=some [⟨.int .i64,r⟩]∧RO left (nO o) r:=fun o=>by
 induction o using kI with
 |h k nm d s t l ih=>
  intro L n m left hL hn hm hw h1 h2;simp only[osz]at hL hn hm hw;obtain⟨m,rfl⟩: ∃m',m=m'+1:=⟨m-1,by omega⟩
  have last: ∀b:Int,(∀N:Nat,nO ⟨k,nm,d,s,t,l⟩=N→b=left)→¬(l.length=2∧0<left)→RO left (nO ⟨k,nm,d,s,t,l⟩) (left-1):=fun b _ hb=>by
   simp only[nO];by_cases e:l.length=2
   ·have: ¬0<left:=fun h=>hb ⟨e,h⟩
    rw[e,show Nat.beq 2 2=true from rfl,cdt]
    exact⟨fun h=>by omega,fun h=>by omega⟩
   ·rw[show Nat.beq l.length 2=false from by rw[←Bool.not_eq_true,Nat.beq_eq];exact e,cdf]
    exact⟨fun h=>by omega,fun h=>by omega⟩
  rw[lZ,aDP];by_cases e:l.length=2∧0<left
  ·obtain⟨e1,e2⟩:=e
   match l,e1 with
   |[a,b],_=>
    simp only[mD]at hL hn hm hw;obtain⟨n,rfl⟩: ∃n',n=n'+1:=⟨n-1,by omega⟩
    obtain⟨r,q1,q2,q3⟩:=ih a (mhE ..) L n L (left-1) (by omega) (by omega) (by omega) (by omega) (by omega) (by omega)
    have hna:=nO_sz a;have hnb:=nO_sz b;have hb1:=nO_pos b;have hr: -3000000000≤r∧r≤2000000000:=by
     by_cases h:((nO a:Nat):Int)≤left-1
     ·have:=q2 h;omega
     ·have:=q3 (by omega);omega
    have ha:CTp L (n+1) 144 [⟨.rc 2,a⟩,⟨.int .i64,left-1⟩]=some [⟨.int .i64,r⟩]:=by rw[c144];exact q1
    obtain⟨r2,g1,g2,g3⟩: ∃r2:Int,lZ (CTp L (n+1)) L m r b=some [⟨.int .i64,r2⟩]∧RO left (nO ⟨k,nm,d,s,t,[a,b]⟩) r2:=by
     have hN:nO ⟨k,nm,d,s,t,[a,b]⟩=1+(nO a+nO b):=by simp[nO,nO']
     rw[hN];by_cases h:((nO a:Nat):Int)≤left-1
     ·have hr1:=q2 h;obtain⟨r2,g1,g2,g3⟩:=ih b (by simp) L (n+1) m r (by omega) (by omega) (by omega) (by omega) (by omega) (by omega)
      exact⟨r2,g1,fun h4=>by have:=g2 (by omega);omega,fun h4=>by have:=g3 (by omega);omega⟩
     ·have hr1:=q3 (by omega)
      obtain⟨m,rfl⟩: ∃m',m=m'+1:=⟨m-1,by omega⟩
      have e3:decide ((0:Int)<r)=false:=by simp;omega
      refine⟨r-1,?_,fun h4=>by omega,fun h4=>by omega⟩
      rw[lZ,aDP,e3,aE,qR,zM,aE,fB (by omega) (by omega)]
    refine⟨r2,?_,g2,g3⟩;have e3:decide ((0:Int)<left)=true:=by simpa using e2
    rw[e3,aF];show qR _ _ _ true _ _=_;rw[qR,zM,aF,gU,show idx ([a,b]:List G.O) (0:Int)=some a from rfl,bW,fB (by omega) (by omega),ha,cP,show idx ([a,b]:List G.O) (1:Int)=some b from rfl,bW]
    exact g1
  ·refine⟨left-1,?_,last left (fun _ _=>rfl) e⟩
   have fin:qR (CTp L n) L (lZ (CTp L n) L m) false left ⟨k,nm,d,s,t,l⟩=some [⟨.int .i64,left-1⟩]:=by
    rw[qR,zM,aE,fB (by omega) (by omega)]
   by_cases e2:0<left
   ·have: ¬(l.length:Int)=2:=fun h=>e ⟨by omega,e2⟩
    rw[decide_eq_true e2,aF];rw[gU,decide_eq_false this];exact fin
   ·rw[decide_eq_false e2,aE];exact fin
theorem nP_ok{o:G.O}{L n:Nat}(hL:osz o≤L)(hn:osz o+2≤n)(hw:osz o<1000000000):CTp L n 115 [⟨.rc 2,o⟩]=some [⟨.int .i64,((min (nO o) 3001:Nat):Int)⟩]:=by
 obtain⟨n,rfl⟩: ∃n',n=n'+2:=⟨n-2,by omega⟩
 obtain⟨r,h1,h2,h3⟩:=rO_ok o L n L 3001 hL (by omega) hL hw (by omega) (by omega)
 have hb:=nO_sz o;have hr:CTp L (n+1) 144 [⟨.rc 2,o⟩,⟨.int .i64,(3001:Int)⟩]=some [⟨.int .i64,r⟩]:=by rw[c144];exact h1
 rw[show n+2=n+1+1 from rfl,c115,F115,aJD,hr,cP]
 try dsimp only
 by_cases h:((nO o:Nat):Int)≤3001
 ·have:=h2 h;by_cases h0:0<r
  ·rw[decide_eq_true h0,cdt,fB (by omega) (by omega)]
   exact oL (by omega)
  ·rw[decide_eq_false h0,cdf,fB (by omega) (by omega)]
   exact oL (by omega)
 ·have:=h3 (by omega)
  rw[decide_eq_false (by omega: ¬0<r),cdf,fB (by omega) (by omega)]
  exact oL (by omega)
theorem cO_ok: ∀o:G.O,∀(L n k:Nat),osz o≤n→osz o<1000000000→1≤k→k≤1000000000→CTp L n 130 [⟨.rc 2,o⟩,⟨.int .i64,(k:Int)⟩]=some [⟨.int .i64,((min (nO o) k:Nat):Int)⟩]:=fun o=>by
 induction o using kI with
 |h kd nm d s t l ih=>
  intro L n k hn hw h1 h2;simp only[osz]at hn hw;obtain⟨n,rfl⟩: ∃n',n=n'+1:=⟨n-1,by omega⟩
  rw[c130,F130,aJr];by_cases e:l.length=2
  ·match l,e with
   |[a,b],_=>
    have hN:nO ⟨kd,nm,d,s,t,[a,b]⟩=1+(nO a+nO b):=by simp[nO,nO']
    rw[hN];simp only[mD]at hn hw;show zI (CTp L n) L (decide ((k:Int)≤1)) _ _=_;rw[zI,aDQ];by_cases hk:k≤1
    ·rw[decide_eq_true (by omega:(k:Int)≤1),aF]
     exact oL (by omega)
    ·rw[decide_eq_false (by omega: ¬(k:Int)≤1),aE,gU,show idx ([a,b]:List G.O) (0:Int)=some a from rfl,bW,fB (by omega) (by omega)]
     have ha:=ih a (mhE ..) L n (k-1) (by omega) (by omega) (by omega) (by omega)
     rw[show((k:Int)-1)=((k-1:Nat):Int) by omega,ha,cP]
     try dsimp only
     rw[fB (by omega) (by omega)]
     by_cases h3:(k:Int)≤1+((min (nO a) (k-1):Nat):Int)
     ·rw[decide_eq_true h3,aF];exact oL (by omega)
     ·rw[decide_eq_false h3,aE,show idx ([a,b]:List G.O) (1:Int)=some b from rfl,bW,fB (by omega) (by omega)]
      have hb:=ih b (by simp) L n (k-(1+nO a)) (by omega) (by omega) (by omega) (by omega)
      rw[show((k:Int)-(1+((min (nO a) (k-1):Nat):Int)))=((k-(1+nO a):Nat):Int) by omega,hb,cP]
      try dsimp only
      rw[fB (by omega) (by omega)]
      exact oL (by omega)
  ·have hN:nO ⟨kd,nm,d,s,t,l⟩=1:=by
    simp only[nO];rw[show Nat.beq l.length 2=false from by rw[←Bool.not_eq_true,Nat.beq_eq];exact e,cdf]
   rw[hN,gU,decide_eq_false (by omega: ¬(l.length:Int)=2),Bool.not_false,aF,zI,aDQ,aF]
   exact oL (by omega)
theorem nR_ok{o:G.O}{L n:Nat}(hn:osz o+1≤n)(hw:osz o<1000000000):CTp L n 105 [⟨.rc 2,o⟩]=some [⟨.int .i64,((min (nO o) 3001:Nat):Int)⟩]:=by
 obtain⟨n,rfl⟩: ∃n',n=n'+1:=⟨n-1,by omega⟩
 have:=cO_ok o L n 3001 (by omega) hw (by omega) (by omega)
 rw[c105,F105,aJI,show(3001:Int)=((3001:Nat):Int) from rfl,this,cP]
end Go.TV
namespace Go.TV
open Go.AI Go.PI Go.Proofs
set_option maxRecDepth 20000
theorem tP:(∀k n v l,(G.T.mk k n v l).kind=k)∧(∀k n v l,(G.T.mk k n v l).name=n)∧(∀k n v l,(G.T.mk k n v l).value=v)∧(∀k n v l,(G.T.mk k n v l).args=l):=⟨fun _ _ _ _=>rfl,fun _ _ _ _=>rfl,fun _ _ _ _=>rfl,fun _ _ _ _=>rfl⟩
mutual
def nT:G.T→Nat
 |⟨k,_,v,l⟩=>bif decide (k=2)then min (nO v) 3001 else bif decide (k=3)then 1+nT' l else 1
def nT':List G.T→Nat
 |[]=>0
 |o::l=>nT o+nT' l
end
theorem nT_pos(o:G.T):1≤nT o:=by
 cases o with|mk k nm v l=>
 have:=nO_pos v;simp only[nT];cases decide (k=2)with
 |true=>simp only[cdt];omega
 |false=>cases decide (k=3)<;>simp
theorem nT_sz: ∀o:G.T,nT o≤tsz o:=fun o=>by
 induction o using eU with
 |h k n v l ih=>
  have h:nT' l≤bI l:=by
   clear k n v;induction l with
   |nil=>exact nlR _
   |cons x l ih2=>
    have h1:=ih x (mhE ..);have h2:=ih2 fun o ho=>ih o (mtE _ ho)
    simp only[nT',bI];omega
  have:=nO_sz v;simp only[nT,tsz];cases decide (k=2)with
  |true=>simp only[cdt];omega
  |false=>cases decide (k=3)with
   |true=>simp only[cdt,cdf];omega
   |false=>simp only[cdf];omega
theorem nT'_sz: ∀l:List G.T,nT' l≤bI l
 |[]=>nlR _
 |x::l=>by have h1:=nT_sz x;have h2:=nT'_sz l;simp only[nT',bI];omega
def RT(left:Int)(N:Nat)(r:Int):Prop:=((N:Int)≤left→r=left-N)∧(left<N→left-N≤r∧r≤0)
theorem rT_loop{L n:Nat}{a:List G.T}(hb:a.length<1000000000): ∀(l:List G.T) (k m:Nat) (left:Int),a.drop k=l→l.length<m→bI l<1000000000→ -1≤left→left≤2000000000→
    (∀x,x∈l→∀left:Int,0≤left→left≤2000000000→∃r:Int,CTp L n 87 [⟨.rc 3,x⟩,⟨.int .i64,left⟩]=some [⟨.int .i64,r⟩]∧RT left (nT x) r)→
    ∃r:Int,rD (CTp L n) L m (a.length:Int) a (k:Int) left=some [⟨.int .i64,r⟩]∧(left<0→l=[]→r=left)∧(0≤left∨l≠ []→RT left (nT' l) r):=by
 intro l;induction l with
 |nil=>
  intro k m left h1 h3 _ _ _ _;obtain⟨m,rfl⟩: ∃m',m=m'+1:=⟨m-1,by simp at h3;omega⟩
  have e1:=aN h1;have e3:decide ((k:Int)<(a.length:Int))=false:=by simp;omega
  refine⟨left,?_,fun _ _=>rfl,fun h=>⟨fun _=>by simp[nT'],fun h4=>?_⟩⟩
  ·rw[rD,aEW,e3,aE]
  ·rcases h with h|h
   ·simp[nT']at h4;omega
   ·exact absurd rfl h
 |cons x l ih=>
  intro k m left h1 h3 hw g1 g2 hc;obtain⟨m,rfl⟩: ∃m',m=m'+1:=⟨m-1,by simp at h3;omega⟩
  obtain⟨a1,a2,a3⟩:=aO h1;have hs:=nT'_sz (x::l);have hx:=nT_sz x;have hx1:=nT_pos x;have hl:=nT'_sz l;simp only[bI,nT']at hs hw;have e3:decide ((k:Int)<(a.length:Int))=true:=by simp;omega
  rw[rD,aEW,e3,aF,aJ,a1,bW];by_cases h0:left≤0
  ·rw[decide_eq_true h0,aF,decide_eq_false (by omega: ¬0<left),cdf]
   refine⟨left,rfl,fun _ h=>(by cases h),fun _=>⟨fun h4=>?_,fun h4=>?_⟩⟩
   ·simp only[nT']at h4;omega
   ·simp only[nT']at h4⊢;omega
  ·rw[decide_eq_false h0,aE];obtain⟨r,e,q2,q3⟩:=hc x (mhE ..) left (by omega) (by omega)
   rw[e,cP,cR (by omega)]
   try dsimp only
   by_cases h5:((nT x:Nat):Int)≤left
   ·have hr:=q2 h5;obtain⟨r2,e2,k1,k2⟩:=ih (k+1) m r a3 (by simp at h3;omega) (by omega) (by omega) (by omega) fun z hz=>hc z (mtE _ hz)
    obtain⟨k3,k4⟩:=k2 (.inl (by omega))
    refine⟨r2,e2,fun h=>by omega,fun _=>⟨fun h4=>?_,fun h4=>?_⟩⟩
    ·simp only[nT']at h4⊢;have:=k3 (by omega);omega
    ·simp only[nT']at h4⊢;have:=k4 (by omega);omega
   ·have hr:=q3 (by omega)
    have key: ∃r2:Int,rD (CTp L n) L m (a.length:Int) a ((k+1:Nat):Int) r=some [⟨.int .i64,r2⟩]∧r2=r:=by
     cases l with
     |nil=>
      obtain⟨m,rfl⟩: ∃m',m=m'+1:=⟨m-1,by simp at h3;omega⟩
      have e1:=aN a3;have e3:decide (((k+1:Nat):Int)<(a.length:Int))=false:=by simp;omega
      exact⟨r,by rw[rD,aEW,e3,aE],rfl⟩
     |cons y l=>
      obtain⟨m,rfl⟩: ∃m',m=m'+1:=⟨m-1,by simp at h3;omega⟩
      obtain⟨b1,b2,b3⟩:=aO a3;have e3:decide (((k+1:Nat):Int)<(a.length:Int))=true:=by simp;omega
      refine⟨r,?_,rfl⟩;rw[rD,aEW,e3,aF,aJ,b1,bW,decide_eq_true (by omega:r≤0),aF,decide_eq_false (by omega: ¬0<r),cdf]
    obtain⟨r2,e2,rfl⟩:=key;refine⟨r2,e2,fun h=>by omega,fun _=>⟨fun h4=>?_,fun h4=>?_⟩⟩
    ·simp only[nT']at h4;omega
    ·simp only[nT']at h4⊢;omega
theorem rT_ok: ∀t:G.T,∀(L n:Nat) (left:Int),tsz t≤L→tsz t≤n→tsz t<1000000000→0≤left→left≤2000000000→
    ∃r:Int,CTp L n 87 [⟨.rc 3,t⟩,⟨.int .i64,left⟩]=some [⟨.int .i64,r⟩]∧RT left (nT t) r:=fun t=>by
 induction t using eU with
 |h k nm v l ih=>
  intro L n left hL hn hw h1 h2;simp only[tsz]at hL hn hw;have hlen:=bX l;obtain⟨n,rfl⟩: ∃n',n=n'+1:=⟨n-1,by omega⟩
  rw[c87,F87,B87x0];by_cases h3:k=2
  ·have hv:CTp L n 115 [⟨.rc 2,v⟩]=some [⟨.int .i64,((min (nO v) 3001:Nat):Int)⟩]:=nP_ok (by omega) (by omega) (by omega)
   have hN:nT ⟨k,nm,v,l⟩=min (nO v) 3001:=by simp[nT,h3]
   simp only[tP,h3,decide_true,aF];rw[hv,cP]
   try dsimp only
   rw[fB (by omega) (by omega)]
   refine⟨_,rfl,?_⟩;rw[←h3,hN];exact⟨fun _=>rfl,fun h=>by omega⟩
  ·simp only[tP,h3,decide_false,aE];by_cases h4:k=3
   ·have hN:nT ⟨k,nm,v,l⟩=1+nT' l:=by simp[nT,h4]
    simp only[tP,h4,decide_true,aF];rw[fB (by omega) (by omega)]
    obtain⟨r,e,q1,q2⟩:=rT_loop (n:=n) (a:=l) (by omega) l 0 L (left-1) rfl (by omega) (by omega) (by omega) (by omega) fun x hx left g1 g2=>ih x hx L n left (by have:=aK hx;omega) (by have:=aK hx;omega) (by have:=aK hx;omega) g1 g2
    refine⟨r,e,?_⟩;rw[←h4,hN];by_cases h5:0≤left-1∨l≠ []
    ·obtain⟨q3,q4⟩:=q2 h5;exact⟨fun h=>by have:=q3 (by omega);omega,fun h=>by have:=q4 (by omega);omega⟩
    ·have h6:l=[]:=Classical.byContradiction fun h=>h5 (.inr h)
     have:=q1 (by omega) h6
     subst h6;simp only[nT'];exact⟨fun h=>by omega,fun h=>by omega⟩
   ·have hN:nT ⟨k,nm,v,l⟩=1:=by simp[nT,h3,h4]
    simp only[tP,h4,decide_false,aE];rw[fB (by omega) (by omega),hN]
    exact⟨_,rfl,fun h=>by omega,fun h=>by omega⟩
theorem nTP_ok{t:G.T}{L n:Nat}(hL:tsz t≤L)(hn:tsz t+1≤n)(hw:tsz t<1000000000):CTp L n 55 [⟨.rc 3,t⟩]=some [⟨.int .i64,((min (nT t) 3001:Nat):Int)⟩]:=by
 obtain⟨n,rfl⟩: ∃n',n=n'+1:=⟨n-1,by omega⟩
 obtain⟨r,h1,h2,h3⟩:=rT_ok t L n 3001 hL (by omega) hw (by omega) (by omega)
 have hb:=nT_sz t;rw[c55,F55,B55x0,h1,cP]
 try dsimp only
 by_cases h:((nT t:Nat):Int)≤3001
 ·have:=h2 h;by_cases h0:0<r
  ·rw[decide_eq_true h0,cdt,fB (by omega) (by omega)]
   exact oL (by omega)
  ·rw[decide_eq_false h0,cdf,fB (by omega) (by omega)]
   exact oL (by omega)
 ·have:=h3 (by omega)
  rw[decide_eq_false (by omega: ¬0<r),cdf,fB (by omega) (by omega)]
  exact oL (by omega)
theorem aHQ{L n:Nat}{a:List G.T}{K:Nat}(hK:K≤1000000000)(hb:a.length<1000000000): ∀(l:List G.T) (k m s:Nat),a.drop k=l→l.length<m→bI l<1000000000→1≤s→s≤K→
    (∀x,x∈l→∀j:Nat,1≤j→j≤1000000000→CTp L n 96 [⟨.rc 3,x⟩,⟨.int .i64,(j:Int)⟩]=some [⟨.int .i64,((min (nT x) j:Nat):Int)⟩])→
    aBt (CTp L n) L m a (K:Int) (k:Int) (s:Int)=some [⟨.int .i64,((min (s+nT' l) K:Nat):Int)⟩]:=by
 intro l;induction l with
 |nil=>
  intro k m s h1 h3 _ _ _ _;obtain⟨m,rfl⟩: ∃m',m=m'+1:=⟨m-1,by simp at h3;omega⟩
  have e1:=aN h1;have e3:decide ((k:Int)<(a.length:Int))=false:=by simp;omega
  rw[aBt,B96x1,e3,aE,J96x2,B96x2,aE];exact oL (by simp only[nT'];omega)
 |cons x l ih=>
  intro k m s h1 h3 hw g1 g2 hc;obtain⟨m,rfl⟩: ∃m',m=m'+1:=⟨m-1,by simp at h3;omega⟩
  obtain⟨a1,a2,a3⟩:=aO h1;have hx1:=nT_pos x;simp only[bI]at hw;have e3:decide ((k:Int)<(a.length:Int))=true:=by simp;omega
  rw[aBt,B96x1,e3,aF,J96x2,B96x2];by_cases h0:(s:Int)<K
  ·have hx:=hc x (mhE ..) (K-s) (by omega) (by omega)
   rw[decide_eq_true h0,aF,aJ,a1,bW,fB (by omega) (by omega),show((K:Int)-(s:Int))=((K-s:Nat):Int) by omega,hx,cP]
   try dsimp only
   rw[cR (by omega),fB (by omega) (by omega),show((s:Int)+((min (nT x) (K-s):Nat):Int))=((s+min (nT x) (K-s):Nat):Int) by omega,
    ih (k+1) m (s+min (nT x) (K-s)) a3 (by simp at h3;omega) (by omega) (by omega) (by omega) fun z hz=>hc z (mtE _ hz)]
   exact oL (by simp only[nT'];omega)
  ·rw[decide_eq_false h0,aE];exact oL (by simp only[nT'];omega)
theorem cT_ok: ∀t:G.T,∀(L n k:Nat),tsz t≤L→tsz t≤n→tsz t<1000000000→1≤k→k≤1000000000→CTp L n 96 [⟨.rc 3,t⟩,⟨.int .i64,(k:Int)⟩]=some [⟨.int .i64,((min (nT t) k:Nat):Int)⟩]:=fun t=>by
 induction t using eU with
 |h kd nm v l ih=>
  intro L n k hL hn hw h1 h2;simp only[tsz]at hL hn hw;have hlen:=bX l;obtain⟨n,rfl⟩: ∃n',n=n'+2:=⟨n-2,by omega⟩
  rw[show n+2=n+1+1 from rfl,c96,F96,B96x0]
  by_cases h3:kd=2
  ·have hv:CTp L (n+1) 105 [⟨.rc 2,v⟩]=some [⟨.int .i64,((min (nO v) 3001:Nat):Int)⟩]:=nR_ok (by omega) (by omega)
   have hN:nT ⟨kd,nm,v,l⟩=min (nO v) 3001:=by simp[nT,h3]
   rw[hN];simp only[tP,h3,decide_true,aF];rw[hv,cP]
   try dsimp only
   by_cases h4:((min (nO v) 3001:Nat):Int)<(k:Int)
   ·rw[decide_eq_true h4,cdt];exact oL (by omega)
   ·rw[decide_eq_false h4,cdf];exact oL (by omega)
  ·simp only[tP,h3,decide_false,aE];have h58: ∃al:List G.T,CTp L (n+1) 122 [⟨.rc 3,⟨kd,nm,v,l⟩⟩]=some [⟨.sl (.rc 3),al⟩]∧(kd=3→al=l)∧(¬kd=3→al=[]):=
    ⟨if kd=3 then l else [],aHU,fun h=>by simp[h],fun h=>by simp[h]⟩
   obtain⟨al,h58,q1,q2⟩:=h58;rw[h58,aAo]
   try dsimp only
   by_cases h4:kd=3
   ·have hN:nT ⟨kd,nm,v,l⟩=1+nT' l:=by simp[nT,h4]
    rw[q1 h4,hN];exact aHQ (n:=n+1) h2 (by omega) l 0 L 1 rfl (by omega) (by omega) (by omega) h1 fun x hx j g1 g2=>ih x hx L (n+1) j (by have:=aK hx;omega) (by have:=aK hx;omega) (by have:=aK hx;omega) g1 g2
   ·have hN:nT ⟨kd,nm,v,l⟩=1+nT' []:=by simp[nT,h3,h4,nT']
    rw[q2 h4,hN];exact aHQ (n:=n+1) h2 (by simp) [] 0 L 1 rfl (by simp;omega) (by simp[bI]) (by omega) h1 fun x hx=>by cases hx
theorem nTR_ok{t:G.T}{L n:Nat}(hL:tsz t≤L)(hn:tsz t+1≤n)(hw:tsz t<1000000000):CTp L n 62 [⟨.rc 3,t⟩]=some [⟨.int .i64,((min (nT t) 3001:Nat):Int)⟩]:=by
 obtain⟨n,rfl⟩: ∃n',n=n'+1:=⟨n-1,by omega⟩
 have:=cT_ok t L n 3001 hL (by omega) hw (by omega) (by omega)
 rw[c62,F62,B62x0,show(3001:Int)=((3001:Nat):Int) from rfl,this,cP]
end Go.TV
namespace Go.TV
open Go.AI Go.PI Go.Proofs
set_option maxRecDepth 20000
theorem aGi{s:G.Y}(h:kX s=true):(s.package=pkL∨s.package=pkU)∧1≤s.name.length∧s.name.length≤20:=by
 simp only[kX,bjE,Bool.or_eq_true,djE,Nat.ble_eq]at h;exact⟨h.1.1,h.1.2,h.2⟩
theorem symP_ok{s:G.Y}(h:kX s=true){L n:Nat}:CTp (L+10) (n+1) 147 [⟨.rc 1,s⟩]=some [⟨.bool,true⟩]:=by
 obtain⟨h1,h2,h3⟩:=aGi h;obtain⟨p,w⟩:=s;change p=pkL∨p=pkU at h1;change 1≤w.length at h2;change w.length≤20 at h3;rw[c147,F147];have e1:decide ((w.length:Int)<1)=false:=decide_eq_false (by omega)
 have e2:decide ((40:Int)<(w.length:Int))=false:=decide_eq_false (by omega)
 rcases h1 with rfl|rfl
 ·rw[aDO];show cnd (decide ((w.length:Int)<1)) _ (aDK (CTp (L+10) n) (L+10) (decide ((40:Int)<(w.length:Int))) ⟨pkL,w⟩)=_;rw[e1,aE,e2];rfl
 ·rw[aDO];show cnd (decide ((w.length:Int)<1)) _ (aDK (CTp (L+10) n) (L+10) (decide ((40:Int)<(w.length:Int))) ⟨pkU,w⟩)=_;rw[e1,aE,e2];rfl
theorem pckR_ok{p:List UInt8}(h:p=pkL∨p=pkU){L n:Nat}:CTp (L+10) (n+1) 151 [⟨.str,p⟩]=some [⟨.bool,true⟩]:=by
 rw[c151,F151];rcases h with rfl|rfl
 ·rfl
 ·rfl
theorem aGr{s:G.Y}(h:kX s=true){L n:Nat}:CTp (L+10) (n+2) 124 [⟨.rc 1,s⟩]=some [⟨.bool,true⟩]:=by
 obtain⟨h1,h2,h3⟩:=aGi h;rw[show n+2=n+1+1 from rfl,c124,F124,aJt,pckR_ok h1,bB,aF,decide_eq_true (by omega:(1:Int)≤(s.name.length:Int)),aF,decide_eq_true (by omega:(s.name.length:Int)≤40)]
 rfl
theorem aFt{s:G.Y}(h:kX s=true){L n:Nat}:CTp (L+10) (n+3) 100 [⟨.rc 1,s⟩]=some [⟨.bool,true⟩]:=by
 rw[show n+3=n+2+1 from rfl,c100,F100,aJK,aGr h,bB]
end Go.TV
namespace Go.TV
open Go.AI Go.PI Go.Proofs
set_option maxRecDepth 20000
theorem aGj{n d:List UInt8}(h:okN n d=true):(n,d)∈numL:=by
 unfold okN at h;rw[List.any_eq_true]at h;obtain⟨p,hp,h2⟩:=h;simp only[bjE,djE]at h2;obtain⟨rfl,rfl⟩:=h2;exact hp
def lowB(p:List UInt8×List UInt8)(r:Rt):Bool:=match r with|some [⟨.bool,b⟩]=>b|_=>false
theorem lowB_ok{p:List UInt8×List UInt8}{r:Rt}(h:lowB p r=true):r=some [⟨.bool,true⟩]:=by
 unfold lowB at h;split at h
 ·subst h;rfl
 ·cases h
theorem low_all(L M:Nat):(numL.all fun p=>lowB p (cF L M 60 146 [⟨.str,p.1⟩,⟨.str,p.2⟩]))=true:=by kernel_rfl
theorem low_ok{n d:List UInt8}(h:okN n d=true){L M:Nat}:CTp (L+7000) (M+60) 146 [⟨.str,n⟩,⟨.str,d⟩]=some [⟨.bool,true⟩]:=by
 have:=List.all_eq_true.1 (low_all L M) _ (aGj h);rw[←cF_ok];exact lowB_ok this
def redB(p:List UInt8×List UInt8)(r:Rt):Bool:=match r with|some [⟨.str,a⟩,⟨.str,b⟩]=>decide (a=p.1)&&decide (b=p.2)|_=>false
theorem redB_ok{p:List UInt8×List UInt8}{r:Rt}(h:redB p r=true):r=some [⟨.str,p.1⟩,⟨.str,p.2⟩]:=by
 unfold redB at h;split at h
 ·simp only[bjE,djE]at h;rw[h.1,h.2]
 ·cases h
theorem red_all(L M:Nat):(numL.all fun p=>redB p (cF L M 60 112 [⟨.str,p.1⟩,⟨.str,p.2⟩]))=true:=by kernel_rfl
theorem redN_ok{n d:List UInt8}(h:okN n d=true){L M:Nat}:CTp (L+7000) (M+60) 112 [⟨.str,n⟩,⟨.str,d⟩]=some [⟨.str,n⟩,⟨.str,d⟩]:=by
 have:=List.all_eq_true.1 (red_all L M) _ (aGj h);rw[←cF_ok];exact redB_ok this
def digB(r:Rt):Bool:=match r with|some [⟨.int .i64,(a:Int)⟩]=>decide (a≤100)|_=>false
theorem aGY{r:Rt}(h:digB r=true): ∃a:Int,r=some [⟨.int .i64,a⟩]∧a≤100:=by
 unfold digB at h;split at h
 ·rename_i a;exact⟨a,rfl,by simpa using h⟩
 ·cases h
theorem dig_all(L M:Nat):(numL.all fun p=>digB (cF L M 60 150 [⟨.str,p.1⟩])&&digB (cF L M 60 150 [⟨.str,p.2⟩]))=true:=by kernel_rfl
theorem dig_ok{n d:List UInt8}(h:okN n d=true){L M:Nat}:(∃a:Int,CTp (L+7000) (M+60) 150 [⟨.str,n⟩]=some [⟨.int .i64,a⟩]∧a≤100)∧∃a:Int,CTp (L+7000) (M+60) 150 [⟨.str,d⟩]=some [⟨.int .i64,a⟩]∧a≤100:=by
 have:=List.all_eq_true.1 (dig_all L M) _ (aGj h);simp only[bjE]at this;rw[←cF_ok];exact⟨aGY this.1,aGY this.2⟩
theorem uW{o:G.O}{a b d:Bool}{L n:Nat}(h1:a=true∨(o.num=[]∧o.den=[]))(h2:b=true∨o.sym=⟨[],[]⟩)(h3:d=true∨o.text=[]):
    CTp L (n+1) 145 [⟨.rc 2,o⟩,⟨.bool,a⟩,⟨.bool,b⟩,⟨.bool,d⟩]=some [⟨.bool,true⟩]:=by
 have fin:kB (CTp L n) L true=some [⟨.bool,true⟩]:=rfl;have k3:cnd d (kB (CTp L n) L true) (kB (CTp L n) L (decide (o.text=([]:List UInt8))))=some [⟨.bool,true⟩]:=by
  cases d with
  |true=>exact fin
  |false=>
   rcases h3 with h|h
   ·cases h
   ·rw[aE,decide_eq_true h];exact fin
 have k2:cnd b (cnd d (kB (CTp L n) L true) (kB (CTp L n) L (decide (o.text=([]:List UInt8))))) (cnd (decide (o.sym=(G.Y.mk ([]:List UInt8) ([]:List UInt8)))) (cnd d (kB (CTp L n) L true) (kB (CTp L n) L (decide (o.text=([]:List UInt8))))) (kB (CTp L n) L false))=some [⟨.bool,true⟩]:=by
  cases b with
  |true=>exact k3
  |false=>
   rcases h2 with h|h
   ·cases h
   ·rw[aE,decide_eq_true h];exact k3
 rw[c145,F145,aJq];cases a with
 |true=>exact k2
 |false=>
  rcases h1 with h|⟨h,h'⟩
  ·cases h
  ·rw[aE,decide_eq_true h,decide_eq_true h',aF,aF];exact k2
end Go.TV
namespace Go.TV
open Go.AI Go.PI Go.Proofs
set_option maxRecDepth 20000
theorem low_n{n d:List UInt8}(h:okN n d=true){L M:Nat}(hL:7000≤L)(hM:60≤M):CTp L M 146 [⟨.str,n⟩,⟨.str,d⟩]=some [⟨.bool,true⟩]:=by
 obtain⟨L,rfl⟩: ∃L',L=L'+7000:=⟨L-7000,by omega⟩
 obtain⟨M,rfl⟩: ∃M',M=M'+60:=⟨M-60,by omega⟩
 exact low_ok h
theorem red_n{n d:List UInt8}(h:okN n d=true){L M:Nat}(hL:7000≤L)(hM:60≤M):CTp L M 112 [⟨.str,n⟩,⟨.str,d⟩]=some [⟨.str,n⟩,⟨.str,d⟩]:=by
 obtain⟨L,rfl⟩: ∃L',L=L'+7000:=⟨L-7000,by omega⟩
 obtain⟨M,rfl⟩: ∃M',M=M'+60:=⟨M-60,by omega⟩
 exact redN_ok h
theorem dig_n{n d:List UInt8}(h:okN n d=true){L M:Nat}(hL:7000≤L)(hM:60≤M):(∃a:Int,CTp L M 150 [⟨.str,n⟩]=some [⟨.int .i64,a⟩]∧a≤100)∧∃a:Int,CTp L M 150 [⟨.str,d⟩]=some [⟨.int .i64,a⟩]∧a≤100:=by
 obtain⟨L,rfl⟩: ∃L',L=L'+7000:=⟨L-7000,by omega⟩
 obtain⟨M,rfl⟩: ∃M',M=M'+60:=⟨M-60,by omega⟩
 exact dig_ok h
theorem symP_n{s:G.Y}(h:kX s=true){L n:Nat}(hL:10≤L)(hn:1≤n):CTp L n 147 [⟨.rc 1,s⟩]=some [⟨.bool,true⟩]:=by
 obtain⟨L,rfl⟩: ∃L',L=L'+10:=⟨L-10,by omega⟩
 obtain⟨n,rfl⟩: ∃M',n=M'+1:=⟨n-1,by omega⟩
 exact symP_ok h
theorem namR_n{s:G.Y}(h:kX s=true){L n:Nat}(hL:10≤L)(hn:2≤n):CTp L n 124 [⟨.rc 1,s⟩]=some [⟨.bool,true⟩]:=by
 obtain⟨L,rfl⟩: ∃L',L=L'+10:=⟨L-10,by omega⟩
 obtain⟨n,rfl⟩: ∃M',n=M'+2:=⟨n-2,by omega⟩
 exact aGr h
theorem oP:(∀k n d s t l,(G.O.mk k n d s t l).kind=k)∧(∀k n d s t l,(G.O.mk k n d s t l).num=n)∧(∀k n d s t l,(G.O.mk k n d s t l).den=d)∧(∀k n d s t l,(G.O.mk k n d s t l).sym=s)∧(∀k n d s t l,(G.O.mk k n d s t l).text=t)∧(∀k n d s t l,(G.O.mk k n d s t l).pair=l):=
 ⟨fun _ _ _ _ _ _=>rfl,fun _ _ _ _ _ _=>rfl,fun _ _ _ _ _ _=>rfl,fun _ _ _ _ _ _=>rfl,fun _ _ _ _ _ _=>rfl,fun _ _ _ _ _ _=>rfl⟩
theorem obL_ss2{β:Type}{a b:List UInt8}{K:List UInt8×List UInt8×Unit→Option β}:obL (D:=U0.D) [.str,.str] (some [⟨.str,a⟩,⟨.str,b⟩]) K=K (a,b,()):=rfl
theorem obj4{k:Int}{n d:List UInt8}{s:G.Y}{t:List UInt8}{l:List G.O}(h:osz ⟨k,n,d,s,t,l⟩+sL ⟨k,n,d,s,t,l⟩<1000000000):
    (k=1∧okN n d=true∧s=⟨[],[]⟩∧t=[]∧l=[])∨(k=2∧kX s=true∧n=[]∧d=[]∧t=[]∧l=[])∨(k=3∧okX t=true∧n=[]∧d=[]∧s=⟨[],[]⟩∧l=[])∨
      (k=4∧n=[]∧d=[]∧s=⟨[],[]⟩∧t=[]∧∃a b,l=[a,b]):=by
 have h1:okO k n d s t l=true:=okO_of (o:=⟨k,n,d,s,t,l⟩) (by omega)
 have h0: ¬k=0:=fun e=>by
  subst e;have:sL ⟨0,n,d,s,t,l⟩=1000000000:=rfl;omega
 have hlen: ∀l:List G.O,l.length=2→∃a b,l=[a,b]:=fun l hl=>by
  match l,hl with
  |[a,b],_=>exact⟨a,b,rfl⟩
 simp only[okO,h0,decide_false,Bool.false_and,Bool.false_or,Bool.or_eq_true,bjE,djE,List.isEmpty_iff]at h1;rcases h1 with((⟨⟨⟨⟨h1,h2⟩,h3⟩,h4⟩,h5⟩|⟨⟨⟨⟨⟨h1,h2⟩,h3⟩,h4⟩,h5⟩,h6⟩)|⟨⟨⟨⟨⟨h1,h2⟩,h3⟩,h4⟩,h5⟩,h6⟩)|⟨⟨⟨⟨⟨h1,h2⟩,h3⟩,h4⟩,h5⟩,h6⟩
 ·exact .inl ⟨h1,h2,h3,h4,h5⟩
 ·exact .inr (.inl ⟨h1,h2,h3,h4,h5,h6⟩)
 ·exact .inr (.inr (.inl ⟨h1,h2,h3,h4,h5,h6⟩))
 ·exact .inr (.inr (.inr ⟨h1,h2,h3,h4,h5,hlen l h6⟩))
theorem fO_ok: ∀o:G.O,osz o+sL o<1000000000→∀(L n m:Nat),7000≤L→osz o≤L→osz o+60≤n→osz o≤m→sP (CTp L n) L m o=some [⟨.bool,true⟩]:=fun o=>by
 induction o using kI with
 |h k nm d s t l ih=>
  intro hw L n m hL0 hL hn hm;have h4:=obj4 hw;simp only[osz]at hw hL hn hm;obtain⟨m,rfl⟩: ∃m',m=m'+1:=⟨m-1,by omega⟩
  obtain⟨n,rfl⟩: ∃n',n=n'+1:=⟨n-1,by omega⟩
  rw[sP,aJA];rcases h4 with⟨rfl,h1,rfl,rfl,rfl⟩|⟨rfl,h1,rfl,rfl,rfl,rfl⟩|⟨rfl,h1,rfl,rfl,rfl,rfl⟩|⟨rfl,rfl,rfl,rfl,rfl,a,b,rfl⟩
  ·rw[oP.1,show decide ((1:Int)=4)=false from rfl,aE,show decide ((1:Int)=1)=true from rfl,aF,uW (.inl rfl) (.inr rfl) (.inr rfl),bB,aF,gU]
   rw[show decide (((([]:List G.O).length:Nat):Int)=0)=true from rfl,aF]
   show obL [.bool] (CTp L (n+1) 146 [⟨.str,nm⟩,⟨.str,d⟩]) _=_;rw[low_n h1 hL0 (by omega),bB];rfl
  ·rw[oP.1,show decide ((2:Int)=4)=false from rfl,aE,show decide ((2:Int)=1)=false from rfl,aE,show decide ((2:Int)=2)=true from rfl,aF,uW (.inr ⟨rfl,rfl⟩) (.inl rfl) (.inr rfl),bB,aF,gU]
   rw[show decide (((([]:List G.O).length:Nat):Int)=0)=true from rfl,aF]
   show obL [.bool] (CTp L (n+1) 147 [⟨.rc 1,s⟩]) _=_;rw[symP_n h1 (by omega) (by omega),bB];rfl
  ·have h5:t.length≤10:=by simpa [okX,Nat.ble_eq]using h1
   rw[oP.1,show decide ((3:Int)=4)=false from rfl,aE,show decide ((3:Int)=1)=false from rfl,aE,show decide ((3:Int)=2)=false from rfl,aE,show decide ((3:Int)=3)=true from rfl,aF,uW (.inr ⟨rfl,rfl⟩) (.inr rfl) (.inl rfl),bB,aF,gU]
   rw[show decide (((([]:List G.O).length:Nat):Int)=0)=true from rfl,aF]
   show aI2 (CTp L (n+1)) L (decide ((t.length:Int)≤200))=_;rw[decide_eq_true (by omega:(t.length:Int)≤200)];rfl
  ·simp only[mD]at hw hL hn hm;have ha:=ih a (mhE ..) (by omega) L n L hL0 (by omega) (by omega) (by omega)
   have hb:=ih b (by simp) (by omega) L (n+1) m hL0 (by omega) (by omega) (by omega)
   have ha':CTp L (n+1) 118 [⟨.rc 2,a⟩]=some [⟨.bool,true⟩]:=by rw[c118];exact ha
   rw[oP.1,show decide ((4:Int)=4)=true from rfl,aF,gU,show(!decide (((([a,b]:List G.O).length:Nat):Int)=2))=false from rfl,aE,uW (.inr ⟨rfl,rfl⟩) (.inr rfl) (.inr rfl),bB,bnT,aE,
    show idx ([a,b]:List G.O) (0:Int)=some a from rfl,bW,ha',bB,bnT,aI3,aJz,aE,gU,show idx ([a,b]:List G.O) (1:Int)=some b from rfl,bW]
   exact hb
theorem vO_ok{o:G.O}(hw:osz o+sL o<1000000000){L n:Nat}(hL0:7000≤L)(hL:osz o≤L)(hn:osz o+70≤n):CTp L n 90 [⟨.rc 2,o⟩]=some [⟨.bool,decide (min (nO o) 3001≤3000)⟩]:=by
 obtain⟨n,rfl⟩: ∃n',n=n'+2:=⟨n-2,by omega⟩
 have h2:CTp L (n+1) 118 [⟨.rc 2,o⟩]=some [⟨.bool,true⟩]:=by rw[c118];exact fO_ok o hw L n L hL0 hL (by omega) hL
 rw[show n+2=n+1+1 from rfl,c90,F90,B90x0,nP_ok hL (by omega) (by omega),cP]
 try dsimp only
 by_cases h:min (nO o) 3001≤3000
 ·rw[decide_eq_true (by omega:((min (nO o) 3001:Nat):Int)≤3000),aF,h2,bB,decide_eq_true h];rfl
 ·rw[decide_eq_false (by omega: ¬((min (nO o) 3001:Nat):Int)≤3000),aE,decide_eq_false h];rfl
theorem fR_ok2: ∀o:G.O,osz o+sL o<1000000000→∀(L n:Nat),7000≤L→osz o+60≤n→CTp L n 123 [⟨.rc 2,o⟩]=some [⟨.bool,true⟩]:=fun o=>by
 induction o using kI with
 |h k nm d s t l ih=>
  intro hw L n hL0 hn;have h4:=obj4 hw;simp only[osz]at hw hn;obtain⟨n,rfl⟩: ∃n',n=n'+1:=⟨n-1,by omega⟩
  rw[c123,F123,aJu];rcases h4 with⟨rfl,h1,rfl,rfl,rfl⟩|⟨rfl,h1,rfl,rfl,rfl,rfl⟩|⟨rfl,h1,rfl,rfl,rfl,rfl⟩|⟨rfl,rfl,rfl,rfl,rfl,a,b,rfl⟩
  ·obtain⟨⟨x,e1,x1⟩,⟨y,e2,y1⟩⟩:=dig_n h1 (L:=L) (M:=n) hL0 (by omega)
   rw[oP.1,show decide ((1:Int)=1)=true from rfl,aF]
   show obL [.str,.str] (CTp L n 112 [⟨.str,nm⟩,⟨.str,d⟩]) _=_;rw[red_n h1 hL0 (by omega),obL_ss2]
   simp only[oP,decide_true,aF];rw[show decide (((([]:List G.O).length:Nat):Int)=0)=true from rfl,aF,e1,cP,decide_eq_true x1,aF,e2,cP,decide_eq_true y1];rfl
  ·rw[oP.1,show decide ((2:Int)=1)=false from rfl,aE,show decide ((2:Int)=2)=true from rfl,aF]
   show obL [.bool] (CTp L n 124 [⟨.rc 1,s⟩]) _=_;rw[namR_n h1 (by omega) (by omega),bB,aF]
   simp only[oP,decide_true,aF];rfl
  ·have h5:t.length≤10:=by simpa [okX,Nat.ble_eq]using h1
   rw[oP.1,show decide ((3:Int)=1)=false from rfl,aE,show decide ((3:Int)=2)=false from rfl,aE,show decide ((3:Int)=3)=true from rfl,aF]
   simp only[oP,decide_true,aF];rw[decide_eq_true (by omega:(t.length:Int)≤200),aF];rfl
  ·simp only[mD]at hw hn;have ha:=ih a (mhE ..) (by omega) L n hL0 (by omega)
   have hb:=ih b (by simp) (by omega) L n hL0 (by omega)
   rw[oP.1,show decide ((4:Int)=1)=false from rfl,aE,show decide ((4:Int)=2)=false from rfl,aE,show decide ((4:Int)=3)=false from rfl,aE,show decide ((4:Int)=4)=true from rfl,aF]
   simp only[oP,decide_true,aF];rw[show decide (((([a,b]:List G.O).length:Nat):Int)=2)=true from rfl,aF,show idx ([a,b]:List G.O) (0:Int)=some a from rfl,bW,ha,bB,aF,show idx ([a,b]:List G.O) (1:Int)=some b from rfl,bW,hb,bB];rfl
theorem vOR_ok{o:G.O}(hw:osz o+sL o<1000000000){L n:Nat}(hL0:7000≤L)(hn:osz o+70≤n):CTp L n 99 [⟨.rc 2,o⟩]=some [⟨.bool,decide (min (nO o) 3001≤3000)⟩]:=by
 obtain⟨n,rfl⟩: ∃n',n=n'+1:=⟨n-1,by omega⟩
 rw[c99,F99,B99x0,nR_ok (by omega) (by omega),cP]
 try dsimp only
 by_cases h:min (nO o) 3001≤3000
 ·rw[decide_eq_true (by omega:((min (nO o) 3001:Nat):Int)≤3000),aF,fR_ok2 o hw L n hL0 (by omega),bB,decide_eq_true h];rfl
 ·rw[decide_eq_false (by omega: ¬((min (nO o) 3001:Nat):Int)≤3000),aE,decide_eq_false h];rfl
end Go.TV
namespace Go.TV
open Go.AI Go.PI Go.Proofs
set_option maxRecDepth 20000
mutual
def dT:G.T→Nat
 |⟨k,_,_,l⟩=>1+bif decide (k=3)then dT' l else 0
def dT':List G.T→Nat
 |[]=>0
 |o::l=>max (dT o) (dT' l)
end
theorem dT_pos(o:G.T):1≤dT o:=by cases o;simp only[dT];omega
theorem dP_loop{L n:Nat}{a:List G.T}{K:Nat}(hK:K≤1000000000)(hK2:2≤K)(hb:a.length<1000000000): ∀(l:List G.T) (k m s:Nat),a.drop k=l→l.length<m→1≤s→s<K→
    (∀x,x∈l→CTp L n 88 [⟨.rc 3,x⟩,⟨.int .i64,((K-1:Nat):Int)⟩]=some [⟨.int .i64,((min (dT x) (K-1):Nat):Int)⟩])→
    aBw (CTp L n) L m (a.length:Int) a (K:Int) (k:Int) (s:Int)=some [⟨.int .i64,((min (max s (1+dT' l)) K:Nat):Int)⟩]:=by
 intro l;induction l with
 |nil=>
  intro k m s h1 h3 _ _ _;obtain⟨m,rfl⟩: ∃m',m=m'+1:=⟨m-1,by simp at h3;omega⟩
  have e1:=aN h1;have e3:decide ((k:Int)<(a.length:Int))=false:=by simp;omega
  rw[aBw,B88x2,e3,aE];exact oL (by simp only[dT'];omega)
 |cons x l ih=>
  intro k m s h1 h3 g1 g2 hc;obtain⟨m,rfl⟩: ∃m',m=m'+1:=⟨m-1,by simp at h3;omega⟩
  obtain⟨a1,a2,a3⟩:=aO h1;have e3:decide ((k:Int)<(a.length:Int))=true:=by simp;omega
  rw[aBw,B88x2,e3,aF,aJ,a1,bW,fB (by omega) (by omega),show((K:Int)-1)=((K-1:Nat):Int) by omega,hc x (mhE ..),cP]
  try dsimp only
  rw[fB (by omega) (by omega)]
  have e5:(bif decide ((s:Int)<1+((min (dT x) (K-1):Nat):Int))then 1+((min (dT x) (K-1):Nat):Int)else(s:Int))=((max s (1+min (dT x) (K-1)):Nat):Int):=by
   by_cases h:(s:Int)<1+((min (dT x) (K-1):Nat):Int)
   ·rw[decide_eq_true h,cdt];omega
   ·rw[decide_eq_false h,cdf];omega
  rw[e5];by_cases h6:(K:Int)≤((max s (1+min (dT x) (K-1)):Nat):Int)
  ·rw[decide_eq_true h6,aF];exact oL (by simp only[dT'];omega)
  ·rw[decide_eq_false h6,aE,cR (by omega),ih (k+1) m _ a3 (by simp at h3;omega) (by omega) (by omega) fun z hz=>hc z (mtE _ hz)]
   exact oL (by simp only[dT'];omega)
theorem dP_ok: ∀t:G.T,∀(L n k:Nat),tsz t≤L→tsz t≤n→tsz t<1000000000→1≤k→k≤1000000000→CTp L n 88 [⟨.rc 3,t⟩,⟨.int .i64,(k:Int)⟩]=some [⟨.int .i64,((min (dT t) k:Nat):Int)⟩]:=fun t=>by
 induction t using eU with
 |h kd nm v l ih=>
  intro L n k hL hn hw h1 h2;simp only[tsz]at hL hn hw;have hlen:=bX l;obtain⟨n,rfl⟩: ∃n',n=n'+1:=⟨n-1,by omega⟩
  rw[c88,F88,B88x0];have one:dT ⟨kd,nm,v,l⟩=1∨k=1→aIR (CTp L n) L true (k:Int) 1 ⟨kd,nm,v,l⟩=some [⟨.int .i64,((min (dT ⟨kd,nm,v,l⟩) k:Nat):Int)⟩]:=fun h=>by
   have:=dT_pos ⟨kd,nm,v,l⟩;rw[aIR,B88x1,aF];exact oL (by omega)
  by_cases h4:kd=3
  ·have hN:dT ⟨kd,nm,v,l⟩=1+dT' l:=by simp[dT,h4]
   rw[tP.1,decide_eq_true h4,bnT,aE];by_cases h5:k≤1
   ·rw[decide_eq_true (by omega:(k:Int)≤1)]
    exact one (.inr (by omega))
   ·rw[decide_eq_false (by omega: ¬(k:Int)≤1),aIR,B88x1,aE,tP.2.2.2,hN]
    exact Eq.trans (dP_loop (n:=n) h2 (by omega) (by omega) l 0 L 1 rfl (by omega) (by omega) (by omega) fun x hx=>ih x hx L n (k-1) (by have:=aK hx;omega) (by have:=aK hx;omega) (by have:=aK hx;omega) (by omega) (by omega)) (oL (by omega))
  ·have hN:dT ⟨kd,nm,v,l⟩=1:=by simp[dT,h4]
   rw[tP.1,decide_eq_false h4,Bool.not_false,aF];exact one (.inl hN)
theorem dTP_ok{t:G.T}{L n:Nat}(hL:tsz t≤L)(hn:tsz t+1≤n)(hw:tsz t<1000000000):CTp L n 56 [⟨.rc 3,t⟩]=some [⟨.int .i64,((min (dT t) 201:Nat):Int)⟩]:=by
 obtain⟨n,rfl⟩: ∃n',n=n'+1:=⟨n-1,by omega⟩
 have:=dP_ok t L n 201 hL (by omega) hw (by omega) (by omega)
 rw[c56,F56,B56x0,show(201:Int)=((201:Nat):Int) from rfl,this,cP]
theorem aG1{L n:Nat}{a:List G.T}{K:Nat}(hK:K≤1000000000)(hK2:2≤K∨a=[])(hb:a.length<1000000000): ∀(l:List G.T) (k m s:Nat),a.drop k=l→l.length<m→s<K→
    (∀x,x∈l→CTp L n 97 [⟨.rc 3,x⟩,⟨.int .i64,((K-1:Nat):Int)⟩]=some [⟨.int .i64,((min (dT x) (K-1):Nat):Int)⟩])→
    vB (CTp L n) L m a (K:Int) (k:Int) (s:Int)=some [⟨.int .i64,((1+min (max s (dT' l)) (K-1):Nat):Int)⟩]:=by
 intro l;induction l with
 |nil=>
  intro k m s h1 h3 _ _;obtain⟨m,rfl⟩: ∃m',m=m'+1:=⟨m-1,by simp at h3;omega⟩
  have e1:=aN h1;have e3:decide ((k:Int)<(a.length:Int))=false:=by simp;omega
  rw[vB,aI8,e3,aE,aEO,aI7,aE,fB (by omega) (by omega)]
  exact oL (by simp only[dT'];omega)
 |cons x l ih=>
  intro k m s h1 h3 g1 hc;obtain⟨m,rfl⟩: ∃m',m=m'+1:=⟨m-1,by simp at h3;omega⟩
  obtain⟨a1,a2,a3⟩:=aO h1;have e3:decide ((k:Int)<(a.length:Int))=true:=by simp;omega
  have hK3:2≤K:=by
   rcases hK2 with h|h
   ·exact h
   ·rw[h]at a2;simp at a2
  rw[vB,aI8,e3,aF,decide_eq_true (by omega:(1:Int)<(K:Int)),aEO,aI7,aF,aJ,a1,bW,fB (by omega) (by omega),show((K:Int)-1)=((K-1:Nat):Int) by omega,hc x (mhE ..),cP]
  try dsimp only
  have e5:(bif decide ((s:Int)<((min (dT x) (K-1):Nat):Int))then((min (dT x) (K-1):Nat):Int)else(s:Int))=((max s (min (dT x) (K-1)):Nat):Int):=by
   by_cases h:(s:Int)<((min (dT x) (K-1):Nat):Int)
   ·rw[decide_eq_true h,cdt];omega
   ·rw[decide_eq_false h,cdf];omega
  rw[e5,cR (by omega),ih (k+1) m _ a3 (by simp at h3;omega) (by omega) fun z hz=>hc z (mtE _ hz)]
  exact oL (by simp only[dT'];omega)
theorem dR_ok: ∀t:G.T,∀(L n k:Nat),tsz t≤L→tsz t≤n→tsz t<1000000000→1≤k→k≤1000000000→CTp L n 97 [⟨.rc 3,t⟩,⟨.int .i64,(k:Int)⟩]=some [⟨.int .i64,((min (dT t) k:Nat):Int)⟩]:=fun t=>by
 induction t using eU with
 |h kd nm v l ih=>
  intro L n k hL hn hw h1 h2;simp only[tsz]at hL hn hw;have hlen:=bX l;obtain⟨n,rfl⟩: ∃n',n=n'+2:=⟨n-2,by omega⟩
  rw[show n+2=n+1+1 from rfl,c97,F97,B97x0]
  have h58: ∃al:List G.T,CTp L (n+1) 122 [⟨.rc 3,⟨kd,nm,v,l⟩⟩]=some [⟨.sl (.rc 3),al⟩]∧(kd=3→al=l)∧(¬kd=3→al=[]):=
   ⟨if kd=3 then l else [],aHU,fun h=>by simp[h],fun h=>by simp[h]⟩
  obtain⟨al,h58,q1,q2⟩:=h58;rw[h58,aAo]
  try dsimp only
  by_cases h4:kd=3
  ·have hN:dT ⟨kd,nm,v,l⟩=1+dT' l:=by simp[dT,h4]
   rw[q1 h4,hN];by_cases h5:2≤k
   ·exact Eq.trans (aG1 (n:=n+1) h2 (.inl h5) (by omega) l 0 L 0 rfl (by omega) (by omega) fun x hx=>ih x hx L (n+1) (k-1) (by have:=aK hx;omega) (by have:=aK hx;omega) (by have:=aK hx;omega) (by omega) (by omega)) (oL (by omega))
   ·obtain⟨L,rfl⟩: ∃L',L=L'+1:=⟨L-1,by omega⟩
    have fin: ∀b:Bool,b=false→aEO (CTp (L+1) (n+1)) (L+1) (vB (CTp (L+1) (n+1)) (L+1) L) b 0 l (k:Int) 0=some [⟨.int .i64,((min (1+dT' l) k:Nat):Int)⟩]:=fun b hb=>by
     subst hb;rw[aEO,aI7,aE];exact oL (by rw[fB (by omega) (by omega)];omega)
    rw[vB,aI8];cases decide ((0:Int)<(l.length:Int))with
    |true=>exact fin _ (decide_eq_false (by omega))
    |false=>exact fin _ rfl
  ·have hN:dT ⟨kd,nm,v,l⟩=1+dT' []:=by simp[dT,h4,dT']
   rw[q2 h4,hN];exact Eq.trans (aG1 (n:=n+1) (a:=[]) h2 (.inr rfl) (by simp) [] 0 L 0 rfl (by simp;omega) (by omega) fun x hx=>by cases hx) (oL (by simp only[dT'];omega))
theorem dTR_ok{t:G.T}{L n:Nat}(hL:tsz t≤L)(hn:tsz t+1≤n)(hw:tsz t<1000000000):CTp L n 63 [⟨.rc 3,t⟩]=some [⟨.int .i64,((min (dT t) 201:Nat):Int)⟩]:=by
 obtain⟨n,rfl⟩: ∃n',n=n'+1:=⟨n-1,by omega⟩
 have:=dR_ok t L n 201 hL (by omega) hw (by omega) (by omega)
 rw[c63,F63,B63x0,show(201:Int)=((201:Nat):Int) from rfl,this,cP]
end Go.TV
namespace Go.TV
open Go.AI Go.PI Go.Proofs
theorem aIQ{s:List UInt8}{L n:Nat}:CTp L (n+1) 33 [yT s]=some [yR 1 (⟨eY,s⟩:G.Y)]:=by
 rw[c33];rfl
theorem Is_ok{t:G.T}{s:List UInt8}{k:Int}{L n:Nat}:CTp L (n+2) 60 (tsi t s k)=some (bb (isA t s k)):=by
 show CTp L (n+1+1) 60 [yR 3 _,yT _,yI _]=_;rw[c60,F60,B60x0,aIQ,obL_y];simp only[J60x1,B60x1,isA];by_cases e1:t.kind=3
 ·by_cases e2:t.name=⟨eY,s⟩
  ·simp[e1,e2,cnd,bb]
  ·simp[e1,e2,cnd,bb]
 ·simp[e1,cnd,bb]
end Go.TV
namespace Go.TV
open Go.AI Go.PI Go.Proofs
set_option maxRecDepth 20000
def zO:G.O:=⟨0,[],[],⟨[],[]⟩,[],[]⟩
theorem trm3{k:Int}{n:G.Y}{v:G.O}{l:List G.T}(h:tsz ⟨k,n,v,l⟩<1000000000):
    (k=1∧okV n=true∧v=zO∧l=[])∨(k=2∧n=⟨[],[]⟩∧sL v=0∧l=[])∨(k=3∧kX n=true∧l.length≤8∧v=zO):=by
 have h1:okTm k n v l=true:=okTm_of h;simp only[tsz]at h;have hz:v.kind=0→v=zO:=fun e=>by
  have h2:=okO_of (o:=v) (by omega)
  cases v with|mk k n d s t l=>
  have e:k=0:=e;subst e;have:okO 0 n d s t l=true:=h2;simp only[okO,show decide ((0:Int)=0)=true from rfl,show decide ((0:Int)=1)=false from rfl,show decide ((0:Int)=2)=false from rfl,show decide ((0:Int)=3)=false from rfl,show decide ((0:Int)=4)=false from rfl,Bool.true_and,Bool.false_and,Bool.or_false,bjE,djE,List.isEmpty_iff]at this
  obtain⟨⟨⟨⟨a1,a2⟩,a3⟩,a4⟩,a5⟩:=this;have a1:=a1.2;subst a1;subst a2;subst a3;subst a4;subst a5;rfl
 simp only[okTm,Bool.or_eq_true,bjE,djE,List.isEmpty_iff,Nat.ble_eq,Bool.not_eq_true',dfN]at h1;rcases h1 with(⟨⟨⟨a1,a2⟩,a3⟩,a4⟩|⟨⟨⟨a1,a2⟩,a3⟩,a4⟩)|⟨⟨⟨a1,a2⟩,a3⟩,a4⟩
 ·exact .inl ⟨a1,a2,hz a3,a4⟩
 ·exact .inr (.inl ⟨a1,a2,by simp[sL,a4],a3⟩)
 ·exact .inr (.inr ⟨a1,a2,a3,hz a4⟩)
def vOb(o:G.O):Bool:=decide (min (nO o) 3001≤3000)
mutual
def fmT:G.T→Bool
 |⟨k,_,v,l⟩=>bif decide (k=2)then vOb v else bif decide (k=3)then fmT' l else true
def fmT':List G.T→Bool
 |[]=>true
 |o::l=>fmT o&&fmT' l
end
theorem sV_ok{s:G.Y}(h:kX s=true){L n:Nat}(hL:7000≤L)(hn:80≤n):CTp L n 91 [⟨.rc 1,s⟩]=some [⟨.bool,true⟩]:=by
 obtain⟨n,rfl⟩: ∃n',n=n'+1:=⟨n-1,by omega⟩
 have h1:CTp L n 119 [⟨.rc 1,s⟩]=some [⟨.rc 2,(⟨2,[],[],s,[],[]⟩:G.O)⟩]:=by
  obtain⟨n,rfl⟩: ∃n',n=n'+1:=⟨n-1,by omega⟩
  rw[c119,F119,aJy]
 have hz:osz ⟨2,[],[],s,[],[]⟩=2:=by simp[osz,mD,badO_y,wS,h]
 have h2:CTp L n 90 [⟨.rc 2,(⟨2,[],[],s,[],[]⟩:G.O)⟩]=some [⟨.bool,decide (min (nO ⟨2,[],[],s,[],[]⟩) 3001≤3000)⟩]:=vO_ok (by rw[hz,sK];omega) hL (by rw[hz];omega) (by rw[hz];omega)
 rw[c91,F91,B91x0,h1];show obL [.bool] (CTp L n 90 [⟨.rc 2,(⟨2,[],[],s,[],[]⟩:G.O)⟩]) _=_;rw[h2,bB];rfl
theorem aCv{s:G.Y}(h:okV s=true)(w:List UInt8): ¬s=⟨eY,w⟩:=fun e=>by
 subst e;have h1:okV ⟨eY,w⟩=(false&&Nat.ble 1 w.length&&Nat.ble w.length 20):=rfl;rw[h1,Bool.false_and,Bool.false_and]at h;cases h
theorem obL_o1{β:Type}{a:G.O}{K:G.O×Unit→Option β}:obL (D:=U0.D) [.rc 2] (some [⟨.rc 2,a⟩]) K=K (a,()):=rfl
theorem vaP_ok{s:G.Y}(h:okV s=true){L n:Nat}(hL:7000≤L)(hn:90≤n):CTp L n 89 [⟨.rc 1,s⟩]=some [⟨.bool,true⟩]:=by
 obtain⟨n,rfl⟩: ∃n',n=n'+3:=⟨n-3,by omega⟩
 have h1:CTp L (n+2) 116 []=some [⟨.rc 2,(⟨2,[],[],⟨eY,[110,105,108]⟩,[],[]⟩:G.O)⟩]:=by
  rw[show n+2=n+1+1 from rfl,c116,F116,aJC,c119];rfl
 have h2:CTp L (n+2) 117 []=some [⟨.rc 2,(⟨2,[],[],⟨eY,[116]⟩,[],[]⟩:G.O)⟩]:=by
  rw[show n+2=n+1+1 from rfl,c117,F117,aJB,c119];rfl
 rw[show n+3=n+2+1 from rfl,c89,F89,B89x0,sV_ok (okV_Sy h) hL (by omega),bB,aF,h1,obL_o1]
 simp only[oP];rw[decide_eq_false (aCv h _),Bool.not_false,aF,h2,obL_o1];simp only[oP];rw[decide_eq_false (aCv h _)];rfl
theorem zE_ok{L n:Nat}(hL:10≤L)(hn:10≤n):CTp L n 65 [⟨.rc 2,zO⟩,⟨.rc 2,(⟨0,[],[],⟨[],[]⟩,[],[]⟩:G.O)⟩]=some [⟨.bool,true⟩]:=by
 have:=aI6 zO (by show(2:Nat)<1000000000;omega) ⟨0,[],[],⟨[],[]⟩,[],[]⟩ L n (by show(2:Nat)≤L;omega) (by show(2:Nat)<n;omega)
 exact this.trans (by simp[bb,zO])
theorem fI_loop{c:TC0}{L:Nat}{a:List G.T}(hb:a.length<1000000000): ∀(l:List G.T) (k m:Nat),a.drop k=l→l.length<m→
    (∀x,x∈l→c 148 [⟨.rc 3,x⟩]=some [⟨.bool,!fmT x⟩])→∃i:Int,qM c L m (a.length:Int) a (k:Int)=some [⟨.int .i64,i⟩]∧decide (0≤i)= !fmT' l:=by
 intro l;induction l with
 |nil=>
  intro k m h1 h3 _;obtain⟨m,rfl⟩: ∃m',m=m'+1:=⟨m-1,by simp at h3;omega⟩
  have e1:=aN h1;have e3:decide ((k:Int)<(a.length:Int))=false:=by simp;omega
  refine⟨-1,?_,by simp[fmT']⟩
  rw[qM,aDS,e3,aE]
 |cons x l ih=>
  intro k m h1 h3 hc;obtain⟨m,rfl⟩: ∃m',m=m'+1:=⟨m-1,by simp at h3;omega⟩
  obtain⟨a1,a2,a3⟩:=aO h1;have e3:decide ((k:Int)<(a.length:Int))=true:=by simp;omega
  have hx:=hc x (mhE ..);rw[qM,aDS,e3,aF,aJ,a1,bW,hx,bB,cR (by omega)]
  try dsimp only
  cases e:fmT x with
  |false=>exact⟨k,rfl,by simp[fmT',e]⟩
  |true=>
   obtain⟨i,h4,h5⟩:=ih (k+1) m a3 (by simp at h3;omega) fun z hz=>hc z (mtE _ hz)
   exact⟨i,h4,by rw[h5];simp[fmT',e]⟩
theorem fTP_ok: ∀t:G.T,∀(L n:Nat),7000≤L→tsz t<L→tsz t+100≤n→tsz t<1000000000→CTp L n 57 [⟨.rc 3,t⟩]=some [⟨.bool,fmT t⟩]:=fun t=>by
 induction t using eU with
 |h k nm v l ih=>
  intro L n hL0 hL hn hw;have h3:=trm3 hw;simp only[tsz]at hw hL hn;have hlen:=bX l;obtain⟨n,rfl⟩: ∃n',n=n'+4:=⟨n-4,by omega⟩
  rw[show n+4=n+3+1 from rfl,c57,F57,B57x0]
  rcases h3 with⟨rfl,h1,rfl,rfl⟩|⟨rfl,rfl,h1,rfl⟩|⟨rfl,h1,h2,rfl⟩
  ·rw[tP.1,show decide ((1:Int)=1)=true from rfl,aF]
   show obL [.bool] (CTp L (n+3) 89 [⟨.rc 1,nm⟩]) _=_;rw[vaP_ok h1 hL0 (by omega),bB,aF]
   show obL [.bool] (CTp L (n+3) 65 [⟨.rc 2,zO⟩,⟨.rc 2,(⟨0,[],[],⟨[],[]⟩,[],[]⟩:G.O)⟩]) _=_;rw[zE_ok (by omega) (by omega),bB,aF];rfl
  ·rw[tP.1,show decide ((2:Int)=1)=false from rfl,aE,show decide ((2:Int)=2)=true from rfl,aF,tP.2.1,decide_eq_true rfl,aF]
   show obL [.bool] (CTp L (n+3) 90 [⟨.rc 2,v⟩]) _=_;rw[vO_ok (by omega) hL0 (by omega) (by omega),bB]
   have hf:fmT ⟨2,⟨[],[]⟩,v,[]⟩=vOb v:=rfl;rw[hf,vOb];cases decide (min (nO v) 3001≤3000)<;>rfl
  ·rw[tP.1,show decide ((3:Int)=1)=false from rfl,aE,show decide ((3:Int)=2)=false from rfl,aE,show decide ((3:Int)=3)=true from rfl,aF]
   show obL [.bool] (CTp L (n+3) 91 [⟨.rc 1,nm⟩]) _=_;rw[sV_ok h1 hL0 (by omega),bB,bnT,aE]
   show obL [.bool] (CTp L (n+3) 65 [⟨.rc 2,zO⟩,⟨.rc 2,(⟨0,[],[],⟨[],[]⟩,[],[]⟩:G.O)⟩]) _=_;rw[zE_ok (by omega) (by omega),bB,bnT,aE]
   show J57x3 (CTp L (n+3)) L (decide ((8:Int)<(l.length:Int))) _=_;rw[decide_eq_false (by omega: ¬(8:Int)<(l.length:Int)),J57x3,B57x3,aE,tP.2.2.2]
   obtain⟨i,e1,e2⟩:=fI_loop (c:=CTp L (n+1)) (L:=L) (a:=l) (by omega) l 0 L rfl (by omega) fun x hx=>by
    rw[c148,F148,aJp];show obL [.bool] (CTp L n 57 [⟨.rc 3,x⟩]) _=_;rw[ih x hx L n hL0 (by have:=aK hx;omega) (by have:=aK hx;omega) (by have:=aK hx;omega),bB]
   have e3:CTp L (n+2) 120 [⟨.sl (.rc 3),l⟩]=some [⟨.int .i64,i⟩]:=by
    rw[show n+2=n+1+1 from rfl,c120,F120,aJx]
    exact e1
   have e4:CTp L (n+3) 92 [⟨.sl (.rc 3),l⟩]=some [⟨.bool,!fmT' l⟩]:=by
    rw[show n+3=n+2+1 from rfl,c92,F92,B92x0,e3,cP,e2]
   rw[e4,bB,Bool.not_not];rfl
theorem vaR_ok{s:G.Y}(h:okV s=true){L n:Nat}(hL:10≤L)(hn:10≤n):CTp L n 98 [⟨.rc 1,s⟩]=some [⟨.bool,true⟩]:=by
 obtain⟨L,rfl⟩: ∃n',L=n'+10:=⟨L-10,by omega⟩
 obtain⟨n,rfl⟩: ∃n',n=n'+4:=⟨n-4,by omega⟩
 have h1: ∀w,CTp (L+10) (n+3) 33 [⟨.str,w⟩]=some [⟨.rc 1,(⟨eY,w⟩:G.Y)⟩]:=fun w=>aIQ
 rw[show n+4=n+3+1 from rfl,c98,F98,B98x0,aFt (okV_Sy h),bB,aF,h1,obL_y]
 try dsimp only
 rw[decide_eq_false (aCv h _),Bool.not_false,aF,h1,obL_y]
 try dsimp only
 rw[decide_eq_false (aCv h _)];rfl
theorem syR_n{s:G.Y}(h:kX s=true){L n:Nat}(hL:10≤L)(hn:10≤n):CTp L n 100 [⟨.rc 1,s⟩]=some [⟨.bool,true⟩]:=by
 obtain⟨L,rfl⟩: ∃n',L=n'+10:=⟨L-10,by omega⟩
 obtain⟨n,rfl⟩: ∃n',n=n'+3:=⟨n-3,by omega⟩
 exact aFt h
theorem fR_loop{L n:Nat}{t:G.T}(hb:t.args.length<1000000000): ∀(l:List G.T) (k m:Nat),t.args.drop k=l→l.length<m→
    (∀x,x∈l→CTp L n 64 [⟨.rc 3,x⟩]=some [⟨.bool,fmT x⟩])→aBB (CTp L n) L m (k:Int) t=some [⟨.bool,fmT' l⟩]:=by
 intro l;induction l with
 |nil=>
  intro k m h1 h3 _;obtain⟨m,rfl⟩: ∃m',m=m'+1:=⟨m-1,by simp at h3;omega⟩
  have e1:=aN h1;have e3:decide ((k:Int)<(t.args.length:Int))=false:=by simp;omega
  rw[aBB,B64x4,e3,aE];rfl
 |cons x l ih=>
  intro k m h1 h3 hc;obtain⟨m,rfl⟩: ∃m',m=m'+1:=⟨m-1,by simp at h3;omega⟩
  obtain⟨a1,a2,a3⟩:=aO h1;have e3:decide ((k:Int)<(t.args.length:Int))=true:=by simp;omega
  have hx:=hc x (mhE ..);rw[aBB,B64x4,e3,aF,aJ,a1,bW,hx,bB,cR (by omega)]
  try dsimp only
  cases e:fmT x with
  |false=>simp[fmT',e,cnd]
  |true=>
   rw[bnT,aE,ih (k+1) m a3 (by simp at h3;omega) fun z hz=>hc z (mtE _ hz)]
   simp[fmT',e]
theorem fTR_ok: ∀t:G.T,∀(L n:Nat),7000≤L→tsz t<L→tsz t+100≤n→tsz t<1000000000→CTp L n 64 [⟨.rc 3,t⟩]=some [⟨.bool,fmT t⟩]:=fun t=>by
 induction t using eU with
 |h k nm v l ih=>
  intro L n hL0 hL hn hw;have h3:=trm3 hw;simp only[tsz]at hw hL hn;have hlen:=bX l;obtain⟨n,rfl⟩: ∃n',n=n'+1:=⟨n-1,by omega⟩
  have he:CTp L n 94 [⟨.rc 2,v⟩,⟨.rc 2,(⟨0,[],[],⟨[],[]⟩,[],[]⟩:G.O)⟩]=some [⟨.bool,decide (v=zO)⟩]:=aDL v (by show osz v<1000000000;omega) zO L n (by omega) (by omega)
  rw[c64,F64,B64x0,tP.2.2.1,he,bB]
  try dsimp only
  rcases h3 with⟨rfl,h1,rfl,rfl⟩|⟨rfl,rfl,h1,rfl⟩|⟨rfl,h1,h2,rfl⟩
  ·rw[tP.1,show decide ((1:Int)=1)=true from rfl,aF,decide_eq_true rfl,aF]
   show obL [.bool] (CTp L n 98 [⟨.rc 1,nm⟩]) _=_;rw[vaR_ok h1 (by omega) (by omega),bB,aF];rfl
  ·rw[tP.1,show decide ((2:Int)=1)=false from rfl,aE,show decide ((2:Int)=2)=true from rfl,aF,tP.2.1,show decide ((⟨[],[]⟩:G.Y)=⟨[],[]⟩)=true from decide_eq_true rfl,aF]
   show obL [.bool] (CTp L n 99 [⟨.rc 2,v⟩]) _=_;rw[vOR_ok (by omega) hL0 (by omega),bB]
   have hf:fmT ⟨2,⟨[],[]⟩,v,[]⟩=vOb v:=rfl;rw[hf,vOb];cases decide (min (nO v) 3001≤3000)<;>rfl
  ·rw[tP.1,show decide ((3:Int)=1)=false from rfl,aE,show decide ((3:Int)=2)=false from rfl,aE,show decide ((3:Int)=3)=true from rfl,aF,show decide (zO=zO)=true from decide_eq_true rfl,bnT,aE]
   show obL [.bool] (CTp L n 100 [⟨.rc 1,nm⟩]) _=_;rw[syR_n h1 (by omega) (by omega),bB,bnT,aE]
   show J64x3 (CTp L n) L (decide ((8:Int)<(l.length:Int))) _=_;rw[decide_eq_false (by omega: ¬(8:Int)<(l.length:Int)),J64x3,B64x3,aE]
   exact fR_loop (t:=⟨3,nm,zO,l⟩) (n:=n) (by show l.length<_;omega) l 0 L rfl (by omega) fun x hx=>ih x hx L n hL0 (by have:=aK hx;omega) (by have:=aK hx;omega) (by have:=aK hx;omega)
def vlT(t:G.T):Bool:=decide (min (nT t) 3001≤3000)&&decide (min (dT t) 201≤200)&&fmT t
theorem vTP_ok{t:G.T}{L n:Nat}(hL0:7000≤L)(hL:tsz t<L)(hn:tsz t+110≤n)(hw:tsz t<1000000000):CTp L n 21 [⟨.rc 3,t⟩]=some [⟨.bool,vlT t⟩]:=by
 obtain⟨n,rfl⟩: ∃n',n=n'+1:=⟨n-1,by omega⟩
 rw[c21,F21,B21x0,nTP_ok (by omega) (by omega) hw,cP,vlT]
 try dsimp only
 by_cases h1:min (nT t) 3001≤3000
 ·rw[decide_eq_true (by omega:((min (nT t) 3001:Nat):Int)≤3000),aF,dTP_ok (by omega) (by omega) hw,cP,decide_eq_true h1]
  try dsimp only
  by_cases h2:min (dT t) 201≤200
  ·rw[decide_eq_true (by omega:((min (dT t) 201:Nat):Int)≤200),aF,fTP_ok t L n hL0 hL (by omega) hw,bB,decide_eq_true h2];rfl
  ·rw[decide_eq_false (by omega: ¬((min (dT t) 201:Nat):Int)≤200),aE,decide_eq_false h2];rfl
 ·rw[decide_eq_false (by omega: ¬((min (nT t) 3001:Nat):Int)≤3000),aE,decide_eq_false h1];rfl
theorem vTR_ok{t:G.T}{L n:Nat}(hL0:7000≤L)(hL:tsz t<L)(hn:tsz t+110≤n)(hw:tsz t<1000000000):CTp L n 25 [⟨.rc 3,t⟩]=some [⟨.bool,vlT t⟩]:=by
 obtain⟨n,rfl⟩: ∃n',n=n'+1:=⟨n-1,by omega⟩
 rw[c25,F25,B25x0,nTR_ok (by omega) (by omega) hw,cP,vlT]
 try dsimp only
 by_cases h1:min (nT t) 3001≤3000
 ·rw[decide_eq_true (by omega:((min (nT t) 3001:Nat):Int)≤3000),aF,dTR_ok (by omega) (by omega) hw,cP,decide_eq_true h1]
  try dsimp only
  by_cases h2:min (dT t) 201≤200
  ·rw[decide_eq_true (by omega:((min (dT t) 201:Nat):Int)≤200),aF,fTR_ok t L n hL0 hL (by omega) hw,bB,decide_eq_true h2];rfl
  ·rw[decide_eq_false (by omega: ¬((min (dT t) 201:Nat):Int)≤200),aE,decide_eq_false h2];rfl
 ·rw[decide_eq_false (by omega: ¬((min (nT t) 3001:Nat):Int)≤3000),aE,decide_eq_false h1];rfl
end Go.TV
namespace Go.TV
open Go.AI Go.PI Go.Proofs
set_option maxRecDepth 20000
mutual
noncomputable def rpT(a b:G.T):G.T→G.T
 |⟨k,n,v,l⟩=>bif decide (G.T.mk k n v l=a)then b else bif decide (k=3)then⟨k,n,v,aB1 a b l⟩else⟨k,n,v,l⟩
noncomputable def aB1(a b:G.T):List G.T→List G.T
 |[]=>[]
 |x::l=>rpT a b x::aB1 a b l
end
theorem rpT'_len(a b:G.T): ∀l:List G.T,(aB1 a b l).length=l.length
 |[]=>rfl
 |x::l=>by simp[aB1,rpT'_len a b l]
theorem aFH(a b:G.T): ∀t:G.T,tsz (rpT a b t)≤tsz t*(1+tsz b):=fun t=>by
 induction t using eU with
 |h k n v l ih=>
  have hl:bI (aB1 a b l)≤bI l*(1+tsz b):=by
   clear k n v;induction l with
   |nil=>exact Nat.zero_le _
   |cons x l ih2=>
    have h1:=ih x (mhE ..);have h2:=ih2 fun o ho=>ih o (mtE _ ho)
    simp only[aB1,bI];rw[Nat.add_mul,Nat.add_mul,Nat.one_mul];omega
  have h0: ∀m:Nat,m≤m*(1+tsz b):=fun m=>Nat.le_mul_of_pos_right _ (by omega)
  rw[rpT];cases decide (G.T.mk k n v l=a)with
  |true=>
   rw[cdt];have h1:4*(1+tsz b)≤tsz ⟨k,n,v,l⟩*(1+tsz b):=Nat.mul_le_mul_right _ (by simp only[tsz];omega)
   omega
  |false=>
   rw[cdf];by_cases hk:k=3
   ·rw[decide_eq_true hk,cdt];have hb:aBq k n v (aB1 a b l)=aBq k n v l:=by
     subst hk;simp only[aBq,okTm,rpT'_len,show decide ((3:Int)=1)=false from rfl,show decide ((3:Int)=2)=false from rfl,Bool.false_and,Bool.false_or]
    simp only[tsz,hb];have:=h0 (4+osz v+aBq k n v l);rw[show 4+osz v+bI l+aBq k n v l=(4+osz v+aBq k n v l)+bI l by omega,Nat.add_mul];omega
   ·rw[decide_eq_false hk,cdf];exact h0 _
theorem aAn{β:Type}{a b d:G.T}{K:G.T×G.T×G.T×Unit→Option β}:obL (D:=U0.D) [.rc 3,.rc 3,.rc 3] (some [⟨.rc 3,a⟩,⟨.rc 3,b⟩,⟨.rc 3,d⟩]) K=K (a,b,d,()):=rfl
theorem vR{α:Type}(x:α): ∀n,(zT x n).length=n
 |0=>rfl
 |n+1=>by show(zT x n).length+1=n+1;rw[vR x n]
theorem wi_loop{c:TC0}{L:Nat}{a b t z:G.T}{al:List G.T}(hb:al.length<1000000000): ∀(l:List G.T) (k m:Nat) (acc:List G.T),al.drop k=l→l.length<m→acc.length=al.length→
    (∀x,x∈l→c 86 [⟨.rc 3,x⟩,⟨.rc 3,a⟩,⟨.rc 3,b⟩]=some [⟨.rc 3,rpT a b x⟩,⟨.rc 3,a⟩,⟨.rc 3,b⟩])→
    yW c L m (al.length:Int) al (k:Int) a b acc t z=some [⟨.rc 3,(⟨t.kind,t.name,t.value,acc.take k++aB1 a b l⟩:G.T)⟩,⟨.rc 3,a⟩,⟨.rc 3,b⟩]:=by
 intro l;induction l with
 |nil=>
  intro k m acc h1 h3 h4 _;obtain⟨m,rfl⟩: ∃m',m=m'+1:=⟨m-1,by simp at h3;omega⟩
  have e1:=aN h1;have e3:decide ((k:Int)<(al.length:Int))=false:=by simp;omega
  have e5:acc.take k=acc:=List.take_of_length_le (by omega)
  rw[yW,B54x1,e3,aE,aB1,apN,e5]
 |cons x l ih=>
  intro k m acc h1 h3 h4 hc;obtain⟨m,rfl⟩: ∃m',m=m'+1:=⟨m-1,by simp at h3;omega⟩
  obtain⟨a1,a2,a3⟩:=aO h1;have e3:decide ((k:Int)<(al.length:Int))=true:=by simp;omega
  have hx:=hc x (mhE ..);have hk:k<acc.length:=by omega
  have hi:bC (k:Int) acc.length=true:=by
   unfold bC;simp;omega
  have e6:(acc.set k (rpT a b x)).take (k+1)=acc.take k++ [rpT a b x]:=by
   rw[List.take_add_one,List.take_set_of_le (nlR _)];simp[hk]
  rw[yW,B54x1,e3,aF,aJ,a1,bW,hx,aAn]
  try dsimp only
  rw[hi,qB,aJ,geG hk,bW,cR (by omega),Int.toNat_natCast,
   ih (k+1) m (acc.set k (rpT a b x)) a3 (by simp at h3;omega) (by simpa using h4) fun z hz=>hc z (mtE _ hz),e6,aB1,apA]
  rfl
theorem rpP_ok(a b:G.T): ∀t:G.T,∀(L n:Nat),tsz t<L→3*tsz t≤n→tsz t<1000000000→CTp L n 20 [⟨.rc 3,t⟩,⟨.rc 3,a⟩,⟨.rc 3,b⟩]=some [⟨.rc 3,rpT a b t⟩]:=fun t=>by
 induction t using eU with
 |h k nm v l ih=>
  intro L n hL hn hw;have h3:=trm3 hw;have he: ∀m,3*tsz ⟨k,nm,v,l⟩≤m+3→CTp L m 29 [⟨.rc 3,(⟨k,nm,v,l⟩:G.T)⟩,⟨.rc 3,a⟩]=some [⟨.bool,decide (G.T.mk k nm v l=a)⟩]:=fun m hm=>TEq_ok ⟨k,nm,v,l⟩ hw a L m (by omega) (by simp only[tsz]at hm⊢;omega)
  simp only[tsz]at hw hL hn he;have hlen:=bX l;obtain⟨n,rfl⟩: ∃n',n=n'+3:=⟨n-3,by omega⟩
  rw[show n+3=n+2+1 from rfl,c20,F20,B20x0,he (n+2) (by omega),bB,rpT]
  try dsimp only
  cases decide (G.T.mk k nm v l=a)with
  |true=>rfl
  |false=>
   rw[aE,cdf];by_cases hk:k=3
   ·rw[decide_eq_true hk,cdt];have e1:CTp L (n+2) 54 [⟨.rc 3,(⟨k,nm,v,l⟩:G.T)⟩,⟨.rc 3,a⟩,⟨.rc 3,b⟩]=some [⟨.rc 3,(⟨k,nm,v,aB1 a b l⟩:G.T)⟩,⟨.rc 3,a⟩,⟨.rc 3,b⟩]:=by
     have h8:l.length≤8:=by
      rcases h3 with⟨h,_⟩|⟨h,_⟩|⟨_,_,h,_⟩
      ·omega
      ·omega
      ·exact h
     rw[show n+2=n+1+1 from rfl,c54,F54,B54x0,tP.1,decide_eq_true hk,bnT,aE]
     simp only[tP];rw[decide_eq_true (by omega:(0:Int)≤(l.length:Int)),decide_eq_true (Int.le_refl _),decide_eq_true (by omega:(l.length:Int)*176≤1073741824),decide_eq_true (by omega:(l.length:Int)≤1073741824)]
     show yW (CTp L (n+1)) L L (l.length:Int) l ((0:Nat):Int) a b (zT _ (Int.toNat (l.length:Int))) ⟨k,nm,v,l⟩ _=_;exact(wi_loop (c:=CTp L (n+1)) (t:=⟨k,nm,v,l⟩) (al:=l) (by omega) l 0 L _ rfl (by omega) (by rw[vR];omega) fun x hx=>by
      rw[c86,F86,B86x0,ih x hx L n (by have:=aK hx;omega) (by have:=aK hx;omega) (by have:=aK hx;omega),cV]).trans (by rw[List.take_zero,nlA];rfl)
    rw[e1,aAn]
   ·rw[decide_eq_false hk,cdf];have e1:CTp L (n+2) 54 [⟨.rc 3,(⟨k,nm,v,l⟩:G.T)⟩,⟨.rc 3,a⟩,⟨.rc 3,b⟩]=some [⟨.rc 3,(⟨k,nm,v,l⟩:G.T)⟩,⟨.rc 3,a⟩,⟨.rc 3,b⟩]:=by
     rw[show n+2=n+1+1 from rfl,c54,F54,B54x0,tP.1,decide_eq_false hk,Bool.not_false,aF]
    rw[e1,aAn]
theorem rr_loop{L n:Nat}{a b t z:G.T}(hb:t.args.length≤8)(hA: ∀(f:G.Y) (l:List G.T),CTp L n 44 [⟨.rc 1,f⟩,⟨.sl (.rc 3),l⟩]=some [⟨.rc 3,tA f l⟩]): ∀(l:List G.T) (k m:Nat) (acc:List G.T),t.args.drop k=l→l.length<m→acc.length=k→
    (∀x,x∈l→CTp L n 24 [⟨.rc 3,x⟩,⟨.rc 3,a⟩,⟨.rc 3,b⟩]=some [⟨.rc 3,rpT a b x⟩])→
    aBF (CTp L n) L m (k:Int) acc a b t z=some [⟨.rc 3,tA t.name (acc++aB1 a b l)⟩]:=by
 intro l;induction l with
 |nil=>
  intro k m acc h1 h3 h4 _;obtain⟨m,rfl⟩: ∃m',m=m'+1:=⟨m-1,by simp at h3;omega⟩
  have e1:=aN h1;have e3:decide ((k:Int)<(t.args.length:Int))=false:=by simp;omega
  rw[aBF,B24x1,e3,aE,hA,cV,aB1,apN]
 |cons x l ih=>
  intro k m acc h1 h3 h4 hc;obtain⟨m,rfl⟩: ∃m',m=m'+1:=⟨m-1,by simp at h3;omega⟩
  obtain⟨a1,a2,a3⟩:=aO h1;have e3:decide ((k:Int)<(t.args.length:Int))=true:=by simp;omega
  have hx:=hc x (mhE ..);have e5:Nat.ble ((acc.length+([rpT a b x]:List G.T).length)*176) 1073741824=true:=by rw[Nat.ble_eq];simp only[lcS,lnN];omega
  rw[aBF,B24x1,e3,aF,aJ,a1,bW,hx,cV]
  try dsimp only
  rw[e5,qB,cR (by omega),ih (k+1) m (acc++ [rpT a b x]) a3 (by simp at h3;omega) (by simp;omega) fun z hz=>hc z (mtE _ hz),aB1,apA]
  rfl
theorem ap_n{L n:Nat}(hL:7000≤L)(hn:60≤n)(f:G.Y)(l:List G.T):CTp L n 44 [⟨.rc 1,f⟩,⟨.sl (.rc 3),l⟩]=some [⟨.rc 3,tA f l⟩]:=by
 obtain⟨L,rfl⟩: ∃L',L=L'+7000:=⟨L-7000,by omega⟩
 obtain⟨n,rfl⟩: ∃M',n=M'+60:=⟨n-60,by omega⟩
 exact(lib_ok L n).a f l
theorem rpR_ok(a b:G.T): ∀t:G.T,∀(L n:Nat),7000≤L→tsz t<L→tsz t+60≤n→tsz t<1000000000→CTp L n 24 [⟨.rc 3,t⟩,⟨.rc 3,a⟩,⟨.rc 3,b⟩]=some [⟨.rc 3,rpT a b t⟩]:=fun t=>by
 induction t using eU with
 |h k nm v l ih=>
  intro L n hL0 hL hn hw;have h3:=trm3 hw;have he: ∀m,tsz ⟨k,nm,v,l⟩≤m→CTp L m 61 [⟨.rc 3,(⟨k,nm,v,l⟩:G.T)⟩,⟨.rc 3,a⟩]=some [⟨.bool,decide (G.T.mk k nm v l=a)⟩]:=fun m hm=>aI5 ⟨k,nm,v,l⟩ hw a L m (by omega) hm
  simp only[tsz]at hw hL hn he;have hlen:=bX l;obtain⟨n,rfl⟩: ∃n',n=n'+1:=⟨n-1,by omega⟩
  rw[c24,F24,B24x0,he n (by omega),bB,rpT]
  try dsimp only
  cases decide (G.T.mk k nm v l=a)with
  |true=>rfl
  |false=>
   rw[aE,cdf,tP.1];by_cases hk:k=3
   ·rw[decide_eq_true hk,bnT,aE,cdt];obtain⟨h8,hv⟩:l.length≤8∧v=zO:=by
     rcases h3 with⟨h,_⟩|⟨h,_⟩|⟨_,_,h,h'⟩
     ·omega
     ·omega
     ·exact⟨h,h'⟩
    exact(rr_loop (L:=L) (n:=n) (t:=⟨k,nm,v,l⟩) h8 (ap_n hL0 (by omega)) l 0 L [] rfl (by omega) rfl fun x hx=>ih x hx L n hL0 (by have:=aK hx;omega) (by have:=aK hx;omega) (by have:=aK hx;omega)).trans (by rw[hk,hv];rfl)
   ·rw[decide_eq_false hk,Bool.not_false,aF,cdf]
end Go.TV
namespace Go.TV
open Go.AI Go.PI Go.Proofs
theorem IsP_ok{t:G.T}{s:List UInt8}{k:Int}{L n:Nat}:CTp L (n+1) 53 (tsi t s k)=some (bb (isA t s k)):=by
 show CTp L (n+1) 53 [yR 3 _,yT _,yI _]=_;rw[c53,F53,B53x0];simp only[J53x1,B53x1,isA];cases t with|mk kk nm v l=>
 cases nm with|mk p q=>
 by_cases e1:kk=3
 ·by_cases e2:p=eY
  ·by_cases e3:q=s
   ·simp[G.T.kind,G.T.name,G.T.args,G.Y.package,G.Y.name,eY,e1,e2,e3,cnd,bb]
   ·simp[G.T.kind,G.T.name,G.T.args,G.Y.package,G.Y.name,eY,e1,e2,e3,cnd,bb]
  ·have e2': ¬p=[108,105,115,112]:=e2;simp[G.T.kind,G.T.name,G.T.args,G.Y.package,G.Y.name,eY,e1,e2',cnd,bb]
 ·simp[G.T.kind,e1,cnd,bb]
end Go.TV
namespace Go.TV
open Go.AI Go.PI Go.Proofs
def aGo:List UInt8:=[110,111,116]
def eqB:List UInt8:=[101,113,117,97,108]
theorem aBQ(x:G.T):bI x.args+4≤tsz x:=by cases x;simp only[G.T.args,tsz];omega
theorem uD{x:G.T}{s:List UInt8}{k:Nat}(h:isA x s (k:Int)=true):x.args.length=k:=by
 simp only[isA,bjE,djE]at h;omega
theorem len1{l:List G.T}(h:l.length=1): ∃p,l=[p]:=by
 match l,h with
 |[p],_=>exact⟨p,rfl⟩
theorem len2{l:List G.T}(h:l.length=2): ∃p q,l=[p,q]:=by
 match l,h with
 |[p,q],_=>exact⟨p,q,rfl⟩
end Go.TV
namespace Go.TV
open Go.AI Go.PI Go.Proofs
def ztR:G.T:=⟨0,⟨[],[]⟩,⟨0,[],[],⟨[],[]⟩,[],[]⟩,[]⟩
def sid(t:G.T):Option (G.T×G.T):=match t.args with
 |[x]=>if isA t aGo 1 then(match x.args with
  |[a,b]=>if isA x eqB 2 then some (a,b)else none
  |_=>none)else none
 |_=>none
def aE2(t:G.T):Rt:=match sid t with
 |some p=>some [⟨.rc 3,p.1⟩,⟨.rc 3,p.2⟩,⟨.bool,true⟩]
 |none=>some [⟨.rc 3,ztR⟩,⟨.rc 3,ztR⟩,⟨.bool,false⟩]
theorem aFz{t:G.T}{p:G.T×G.T}(h:sid t=some p):tsz p.1+tsz p.2≤tsz t:=by
 unfold sid at h;split at h
 ·rename_i x hx;split at h
  ·split at h
   ·rename_i a b hy;split at h
    ·simp only[ojE]at h;subst h;have h1:=aBQ t;have h2:=aBQ x;rw[hx]at h1;rw[hy]at h2;simp only[bI]at h1 h2;show tsz a+tsz b≤tsz t;omega
    ·cases h
   ·cases h
  ·cases h
 ·cases h
theorem sidP_ok{t:G.T}{L n:Nat}:CTp L (n+2) 19 [⟨.rc 3,t⟩]=aE2 t:=by
 have h1:CTp L (n+1) 53 [⟨.rc 3,t⟩,⟨.str,aGo⟩,⟨.int .i64,(1:Int)⟩]=some [⟨.bool,isA t aGo 1⟩]:=IsP_ok;simp only[aGo]at h1;rw[c19,F19,B19x0,h1,bB];change cnd (!isA t aGo 1) _ _=_;cases e:isA t aGo 1 with
 |false=>
  have:sid t=none:=by unfold sid;split<;>simp[e]
  simp only[Bool.not_false,aF,aES,aJb,aE2,this];rfl
 |true=>
  obtain⟨p,hp⟩:=len1 (uD (k:=1) e);have hi:idx t.args (0:Int)=some p:=by rw[hp];rfl
  have h2:CTp L (n+1) 53 [⟨.rc 3,p⟩,⟨.str,eqB⟩,⟨.int .i64,(2:Int)⟩]=some [⟨.bool,isA p eqB 2⟩]:=IsP_ok;simp only[eqB]at h2;rw[bnT,aE,hi,bW,h2,bB];change aES _ _ (!isA p eqB 2) _ _ _=_;cases e2:isA p eqB 2 with
  |false=>
   have:sid t=none:=by unfold sid;rw[hp];simp[e,e2];split<;>rfl
   simp only[Bool.not_false,aF,aES,aJb,aE2,this];rfl
  |true=>
   obtain⟨a,b,hq⟩:=len2 (uD (k:=2) e2);have h3:idx p.args (0:Int)=some a:=by rw[hq];rfl
   have h4:idx p.args (1:Int)=some b:=by rw[hq];rfl
   have:sid t=some (a,b):=by unfold sid;rw[hp];simp only[e];rw[hq];simp[e2]
   rw[aES,aJb,bnT,aE,hi,bW,h3,bW,bW,h4,bW,aE2,this]
theorem sidR_ok{t:G.T}{L n:Nat}:CTp L (n+3) 23 [⟨.rc 3,t⟩]=aE2 t:=by
 have h1:CTp L (n+2) 60 [⟨.rc 3,t⟩,⟨.str,aGo⟩,⟨.int .i64,(1:Int)⟩]=some [⟨.bool,isA t aGo 1⟩]:=Is_ok;simp only[aGo]at h1;rw[c23,F23,B23x0,h1,bB];change cnd (!isA t aGo 1) _ _=_;cases e:isA t aGo 1 with
 |false=>
  have:sid t=none:=by unfold sid;split<;>simp[e]
  simp only[Bool.not_false,aF,aER,aI9,aE2,this];rfl
 |true=>
  obtain⟨p,hp⟩:=len1 (uD (k:=1) e);have hi:idx t.args (0:Int)=some p:=by rw[hp];rfl
  have h2:CTp L (n+2) 60 [⟨.rc 3,p⟩,⟨.str,eqB⟩,⟨.int .i64,(2:Int)⟩]=some [⟨.bool,isA p eqB 2⟩]:=Is_ok;simp only[eqB]at h2;rw[bnT,aE,hi,bW,h2,bB];change aER _ _ (!isA p eqB 2) _ _ _=_;cases e2:isA p eqB 2 with
  |false=>
   have:sid t=none:=by unfold sid;rw[hp];simp[e,e2];split<;>rfl
   simp only[Bool.not_false,aF,aER,aI9,aE2,this];rfl
  |true=>
   obtain⟨a,b,hq⟩:=len2 (uD (k:=2) e2);have h3:idx p.args (0:Int)=some a:=by rw[hq];rfl
   have h4:idx p.args (1:Int)=some b:=by rw[hq];rfl
   have:sid t=some (a,b):=by unfold sid;rw[hp];simp only[e];rw[hq];simp[e2]
   rw[aER,aI9,bnT,aE,hi,bW,h3,bW,bW,h4,bW,aE2,this]
end Go.TV
namespace Go.TV
open Go.AI Go.PI Go.Proofs
set_option maxRecDepth 20000
theorem Cln_ok{a:List G.T}(h:a.length<1000000){L n:Nat}:CTp L (n+1) 58 [⟨.sl (.rc 3),a⟩]=some [⟨.sl (.rc 3),a⟩]:=by
 rw[c58,F58,B58x0];cases a with
 |nil=>rfl
 |cons x l=>
  have e1:decide (((x::l).length:Int)=0)=false:=by simp;omega
  have e2:Nat.ble ((([]:List G.T).length+(x::l).length)*176) 1073741824=true:=by
   rw[Nat.ble_eq];simp only[lnN,Nat.zero_add];omega
  rw[e1,aE,e2];rfl
end Go.TV
namespace Go.TV
open Go.AI Go.PI Go.Proofs
set_option maxRecDepth 20000
theorem obL_it{β:Type}{a:Int}{b:G.T}{K:Int×G.T×Unit→Option β}:obL (D:=U0.D) [.int .i64,.rc 3] (some [⟨.int .i64,a⟩,⟨.rc 3,b⟩]) K=K (a,b,()):=rfl
theorem Ix_loop{c:TC0}{L:Nat}{t:G.T}{a:List G.T}(hb:a.length<1000000000): ∀(l:List G.T) (k m:Nat),a.drop k=l→l.length<m→
    (∀x,x∈l→c 149 [⟨.rc 3,x⟩,⟨.rc 3,t⟩]=some [⟨.bool,decide (x=t)⟩,⟨.rc 3,t⟩])→
    ∃i:Int,mB c L m (a.length:Int) a (k:Int) t=some [⟨.int .i64,i⟩,⟨.rc 3,t⟩]∧decide (0≤i)=decide (t∈l):=by
 intro l;induction l with
 |nil=>
  intro k m h1 h3 _;obtain⟨m,rfl⟩: ∃m',m=m'+1:=⟨m-1,by simp at h3;omega⟩
  have e1:=aN h1;have e3:decide ((k:Int)<(a.length:Int))=false:=by simp;omega
  refine⟨-1,?_,by simp⟩
  rw[mB,zP,e3,aE]
 |cons x l ih=>
  intro k m h1 h3 hc;obtain⟨m,rfl⟩: ∃m',m=m'+1:=⟨m-1,by simp at h3;omega⟩
  obtain⟨a1,a2,a3⟩:=aO h1;have e3:decide ((k:Int)<(a.length:Int))=true:=by simp;omega
  have hxy:=hc x (mhE ..);by_cases e:x=t
  ·subst e;refine⟨k,?_,by simp⟩
   rw[mB,zP,e3,aF,aJ,a1,bW,hxy,aGn];simp[cnd]
  ·have e': ¬t=x:=fun h=>e h.symm
   obtain⟨i,h4,h5⟩:=ih (k+1) m a3 (by simp at h3;omega) fun z hz=>hc z (mtE _ hz)
   refine⟨i,?_,by simpa [e']using h5⟩
   rw[mB,zP,e3,aF,aJ,a1,bW,hxy,aGn,cR (by omega)]
   simp only[e,decide_false,aE];exact h4
theorem Cq_ok{x t:G.T}{L n:Nat}(h: ∀y:G.T,CTp L n 29 [⟨.rc 3,x⟩,⟨.rc 3,y⟩]=some [⟨.bool,decide (x=y)⟩]):CTp L (n+1) 149 [⟨.rc 3,x⟩,⟨.rc 3,t⟩]=some [⟨.bool,decide (x=t)⟩,⟨.rc 3,t⟩]:=by
 rw[c149,F149,aJo,h t,bB]
theorem ConP_ok{a:List G.T}{t:G.T}{L n:Nat}(hw:bI a<1000000000)(hL:a.length<L)(h: ∀x∈a,∀y:G.T,CTp L n 29 [⟨.rc 3,x⟩,⟨.rc 3,y⟩]=some [⟨.bool,decide (x=y)⟩]):
    CTp L (n+4) 59 [⟨.sl (.rc 3),a⟩,⟨.rc 3,t⟩]=some [⟨.bool,decide (t∈a)⟩]:=by
 have hlen:=bX a;obtain⟨i,h1,h2⟩:=Ix_loop (c:=CTp L (n+1)) (L:=L) (t:=t) (a:=a) (by omega) a 0 L rfl hL fun x hx=>Cq_ok (h x hx)
 rw[c59,F59,B59x0,c93,F93,B93x0,c121,F121,aJw];rw[show mB (CTp L (n+1)) L L (a.length:Int) a (0:Int) t=some [⟨.int .i64,i⟩,⟨.rc 3,t⟩] from h1,obL_it,aGn,h2]
end Go.TV
namespace Go.TV
open Go.AI Go.PI Go.Proofs
set_option maxRecDepth 20000
noncomputable def aEK(a:List G.T)(t:G.T):List G.T:=bif decide (t∈a)then a else a++ [t]
theorem AddP_of{c:TC0}{L:Nat}{a:List G.T}{t:G.T}(hL:3≤L)(ha:a.length<1000000)(h1:c 58 [⟨.sl (.rc 3),a⟩]=some [⟨.sl (.rc 3),a⟩])
    (h2:c 59 [⟨.sl (.rc 3),a⟩,⟨.rc 3,t⟩]=some [⟨.bool,decide (t∈a)⟩]):F22 c L a [t]=some [⟨.sl (.rc 3),aEK a t⟩]:=by
 obtain⟨L,rfl⟩: ∃L',L=L'+2:=⟨L-2,by omega⟩
 have e0:decide ((0:Int)<(([t]:List G.T).length:Int))=true:=by simp
 have e1:decide ((1:Int)<(([t]:List G.T).length:Int))=false:=by simp
 have e2:Nat.ble ((a.length+([t]:List G.T).length)*176) 1073741824=true:=by
  rw[Nat.ble_eq];simp only[lcS,lnN];omega
 have e4:idx [t] (0:Int)=some t:=rfl;have e5:IntKind.i64.wrap ((0:Int)+1)=1:=by decide
 rw[F22,B22x0,h1,aAo];simp only[];rw[aBG,aJa,e0,aF,e4,bW,h2,bB];cases h:decide (t∈a)with
 |true=>
  simp only[bnT,aE,J22x2,B22x2];rw[e5,aBG,aJa,e1,aE,aEK,h];rfl
 |false=>
  simp only[Bool.not_false,aF];rw[e2,qB,J22x2,B22x2,e5,aBG,aJa,e1,aE,aEK,h];rfl
end Go.TV
namespace Go.TV
open Go.AI Go.PI Go.Proofs
set_option maxRecDepth 20000
theorem AddR_ok{a:List G.T}{t:G.T}{L n:Nat}(hw:bI a<1000000000)(hl:a.length<1000000)(hL:bI a+10<L)(hn:bI a<n):CTp L (n+1) 18 [⟨.sl (.rc 3),a⟩,⟨.sl (.rc 3),([t]:List G.T)⟩]=some [⟨.sl (.rc 3),aEK a t⟩]:=by
 have hlen:=bX a;obtain⟨L,rfl⟩: ∃L',L=L'+2:=⟨L-2,by omega⟩
 refine(c18 a [t] (L+2) n).trans ?_;rw[F18,B18x0];have e0:IntKind.i64.wrap ((a.length:Int)+(([t]:List G.T).length:Int))=((a.length+1:Nat):Int):=cR (by omega)
 have e1:decide ((0:Int)≤((a.length+1:Nat):Int))=true:=by simp only[djE];omega
 have e2:decide (((a.length+1:Nat):Int)*176≤1073741824)=true:=by simp only[djE];omega
 have e3:decide (((a.length+1:Nat):Int)≤1073741824)=true:=by simp only[djE];omega
 have e4:Nat.ble ((([]:List G.T).length+a.length)*176) 1073741824=true:=by rw[Nat.ble_eq];simp only[lnN];omega
 rw[e0,e1,e2,e3,e4];show rE (CTp (L+2) n) (L+2) (L+2) [t] 0 a=_;rw[rE,B18x1,show decide ((0:Int)<(([t]:List G.T).length:Int))=true by rfl,aF,show idx ([t]:List G.T) 0=some t from rfl,bW]
 have hc:CTp (L+2) n 52 [⟨.sl (.rc 3),a⟩,⟨.rc 3,t⟩]=some [⟨.bool,decide (t∈a)⟩]:=Con_ok (by omega) (by omega) hn
 rw[hc,bB];have fin: ∀l:List G.T,aET (CTp (L+2) n) (L+2) (rE (CTp (L+2) n) (L+2) (L+1)) 0 [t] l=some [⟨.sl (.rc 3),l⟩]:=fun l=>by
  rw[aET,B18x2];rfl
 have e5:Nat.ble ((a.length+([t]:List G.T).length)*176) 1073741824=true:=by rw[Nat.ble_eq];simp only[lcS,lnN];omega
 unfold aEK;cases decide (t∈a)with
 |true=>exact fin a
 |false=>
  simp only[Bool.not_false,aF,bW,e5,qB];exact fin (a++ [t])
end Go.TV
