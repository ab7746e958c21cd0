import Derived.Test.YtgddcoodncbkoaaGreatDoorKq
set_option linter.unusedVariables false
set_option linter.unusedSimpArgs false
set_option linter.constructorNameAsVariable false
set_option linter.defProp false
namespace Go.TV
open Go.AI Go.PI Go.Proofs
set_option maxRecDepth 20000
section
variable(L:Nat){E:List G.E}(hE:a6i E)
def wW{n:Nat}(h:60<=n):Lib (bR (L+7000) n):=by
 obtain⟨m,rfl⟩: ∃m,n=m+60:=⟨n-60,by omega⟩
 exact a1i L m
def aBw{n:Nat}(h:61<=n)(s:G.Z)(hs:dU s):TSR (bR (L+7000) n 16 [yR 0 s]) 6:=by
 obtain⟨m,rfl⟩: ∃m,n=m+1:=⟨n-1,by omega⟩
 rw[c16];exact bHB (wW L (by omega)) hs
def bLz{n:Nat}(h:61<=n)(s:G.Z)(hs:dU s):OSR (bR (L+7000) n 59 [yI (0:Int),yR 0 s]) 20:=by
 obtain⟨m,rfl⟩: ∃m,n=m+1:=⟨n-1,by omega⟩
 rw[bQy];exact Ob0 (wW L (by omega)) hs
def a04{n:Nat}(h:62<=n)(s:G.Z)(hs:dU s):OSR (bR (L+7000) n 59 [yI (1:Int),yR 0 s]) 200:=by
 obtain⟨m,rfl⟩: ∃m,n=m+1:=⟨n-1,by omega⟩
 rw[bQy];exact Ob1 (wW L (by omega)) (by omega) (bLz L (by omega)) hs
include hE
def a38{n:Nat}(h:4<=n)(f:G.Y):bIz (bR (L+7000) n 63 [yS 16 E,yR 1 f]):=by
 obtain⟨m,rfl⟩: ∃m,n=m+4:=⟨n-4,by omega⟩
 exact bIy hE f (by omega)
def a8p{n:Nat}(h:63<=n)(s:G.Z)(hs:dU s):TSR (bR (L+7000) n 15 [yS 16 E,yI (0:Int),yR 0 s]) 204:=by
 obtain⟨m,rfl⟩: ∃m,n=m+1:=⟨n-1,by omega⟩
 rw[bOE];exact aJh (wW L (by omega)) (by omega) (B:=204) (by omega) (by omega) (aBw L (by omega)) (a04 L (by omega)) (a38 L hE (by omega)) (λh=>by omega) hs
def aNy{n:Nat}(h:64<=n)(s:G.Z)(hs:dU s):TSR (bR (L+7000) n 15 [yS 16 E,yI (1:Int),yR 0 s]) 621:=by
 obtain⟨m,rfl⟩: ∃m,n=m+1:=⟨n-1,by omega⟩
 rw[bOE];exact aJh (wW L (by omega)) (by omega) (B:=204) (by omega) (by omega) (aBw L (by omega)) (a04 L (by omega)) (a38 L hE (by omega)) (λ_=>a8p L hE (by omega)) hs
def a8o{n:Nat}(h:65<=n)(s:G.Z)(hs:dU s):TSR (bR (L+7000) n 15 [yS 16 E,yI (2:Int),yR 0 s]) 1872:=by
 obtain⟨m,rfl⟩: ∃m,n=m+1:=⟨n-1,by omega⟩
 rw[bOE];exact aJh (wW L (by omega)) (by omega) (B:=621) (by omega) (by omega) (aBw L (by omega)) (a04 L (by omega)) (a38 L hE (by omega)) (λ_=>aNy L hE (by omega)) hs
def bLI{n:Nat}(h:66<=n)(s:G.Z)(hs:dU s):TSR (bR (L+7000) n 14 [yS 16 E,yI (2:Int),yR 0 s]) 2523:=by
 obtain⟨m,rfl⟩: ∃m,n=m+1:=⟨n-1,by omega⟩
 rw[bQP];exact bH4 (wW L (by omega)) (aBw L (by omega)) (a8o L hE (by omega)) (aNy L hE (by omega)) hs
end
def aWL{E:List G.E}(h:a6a E=true):a6i E:=by
 simp only[a6a,OA,aC,bJ]at h;exact⟨bK h.1.2,λe he=>bK (h.2 e he).1,λe he f hf=>bK ((h.2 e he).2 f hf)⟩
def a01{W:Type}{a:List G.E}{K:List G.E×Unit->Option W}:fU (D:=U0.D) [.sl (.rc 16)] (some [yS 16 a]) K=K (a,()):=rfl
end Go.TV
namespace Go.TV
open Go.AI Go.PI Go.Proofs
def aCF{c:bT}{L:Nat}{a b:List G.T}(hl:a.length=b.length)(hb:a.length<1000000000): ∀(l r:List G.T) (k m:Nat),a.drop k=l->b.drop k=r->l.length<m->
    (∀x,x∈l->∀y,c 40 (aQ2 x y)=some (bb (decide (x=y))))->FI c L m a b (k:Int)=some (bb (decide (l=r))):=by
 intro l;induction l with
 |nil=>
  intro r k m h1 h2 h3 _;obtain⟨m,rfl⟩:=sK m 1 (by simp at h3;omega)
  have e1:=bW h1;have e2:r=[]:=by rw[<-h2];exact List.drop_eq_nil_of_le (by omega)
  have e3:decide ((k:Int)<(a.length:Int))=false:=by simp;omega
  rw[FI,aAT,e3,e2];simp only[bL,decide_true];rfl
 |cons x l ih=>
  intro r k m h1 h2 h3 hc;obtain⟨m,rfl⟩:=sK m 1 (by simp at h3;omega)
  obtain⟨a1,a2,a3⟩:=bX h1;cases r with
  |nil=>have:=bW h2;omega
  |cons y r=>
   obtain⟨b1,b2,b3⟩:=bX h2;have e3:decide ((k:Int)<(a.length:Int))=true:=by simp;omega
   have gb:c 40 [yR 3 x,yR 3 y]=some [yB (decide (x=y))]:=hc x (aH ..) y;rw[FI,aAT,e3,bO,bP,bP,a1,b1,bZ,bZ,gb,cH,cS (by omega)]
   by_cases e:x=y
   .subst e;simp only[decide_true,bD,bL];rw[ih r (k+1) m a3 b3 (by simp at h3;omega) λz hz=>hc z (aG _ hz)]
    simp
   .simp only[e,decide_false,Bool.not_false,bO];simp[e,bb]
def aQD{a b:List G.T}{L n:Nat}(hw:cC a<1000000000)(hL:cC a<L)(hn:cC a<n):bR L n 45 (bLH a b)=some (bb (decide (a=b))):=by
 have hlen:=dV a;obtain⟨n,rfl⟩:=sK n 1 (by omega)
 show bR L (n+1) 45 [yS 3 _,yS 3 _]=_;rw[c45];simp only[bPB,aKT];by_cases e6:(a.length:Int)=(b.length:Int)
 .simp only[e6,decide_true,bD,bL];exact aCF (c:=bR L n) (L:=L) (by omega) (by omega) a b 0 L rfl rfl (by omega) λx hx y=>zA x (by have:=dB hx;simp only[Q1];omega) y L n (by have:=dB hx;omega) (by have:=dB hx;omega)
 .have e7: ¬a=b:=λh=>e6 (by rw[h])
  simp[e6,e7,bN,bb]
end Go.TV
namespace Go.TV
open Go.AI Go.PI Go.Proofs
set_option maxRecDepth 20000
def a3n(L M:Nat):cQ L M 20 40 [yR 3 eB,yR 3 eB]=some [yB true]:=by kernel_rfl
def aGr{L n M:Nat}(hL:7000<=L)(hn:20<=n)(hM:M<=200000)(hL2:M<=L)(hn2:M<=n){t:G.T}(h:t=eB∨cJ t<=M):bR L n 40 [yR 3 t,yR 3 t]=some [yB true]:=by
 rcases h with rfl|h
 .obtain⟨n,rfl⟩:=sK n 20 (by omega)
  obtain⟨L,rfl⟩:=sK L 7000 (by omega)
  rw[<-a3n L n,aG3]
 .have h2:=zA t (by simp only[Q1];omega) t L n (by omega) (by omega)
  rw[bF rfl]at h2;exact h2
def aDi{L n M:Nat}(hM:M<=20000)(hL:M*M+M<L)(hn:M*M+M<n){l:List G.T}(h: ∀t∈l,cJ t<=M)(hl:l.length<=M):bR L n 45 [yS 3 l,yS 3 l]=some [yB true]:=by
 have hb: ∀r:List G.T,(∀t∈r,cJ t<=M)->cC r<=r.length*(M+1):=λr=>by
  induction r with
  |nil=>intro _;exact Nat.zero_le _
  |cons x r ih=>
   intro hr;have h1:=ih λt ht=>hr t (aG _ ht)
   have h2:=hr x (aH ..);simp only[cC,aM];rw[Nat.succ_mul];omega
 have h1:=hb l h;have h2:l.length*(M+1)<=M*(M+1):=Nat.mul_le_mul_right _ hl;have h2':M*(M+1)=M*M+M:=by rw[Nat.mul_add,Nat.mul_one]
 have h3:M*M<=20000*20000:=Nat.mul_le_mul hM hM;have h4:=aQD (a:=l) (b:=l) (L:=L) (n:=n) (by omega) (by omega) (by omega)
 rw[bF rfl]at h4;exact h4
def aNC{c:bT}{L:Nat}{r:G.U}(hl:r.stops.length<1000000){k3:Bool->Rt}: ∀(l:List G.Q) (k m:Nat),r.stops.drop k=l->l.length<m->
    GC c L m (k:Int) r r=GC c L (m-l.length) (r.stops.length:Int) r r:=by
 intro l;induction l with
 |nil=>
  intro k m h1 h3;have e1:=bW h1;have:k=r.stops.length∨r.stops.length<k:=by omega
  rcases this with rfl|h
  .rfl
  .obtain⟨m,rfl⟩:=sK m 1 (by simp at h3;omega)
   rw[aX,Nat.sub_zero,GC,aCK,aCK,dF (by omega: ¬k<r.stops.length),bG (by omega: ¬(r.stops.length:Int)<(r.stops.length:Int)),bL,bL]
 |cons x l ih=>
  intro k m h1 h3;obtain⟨m,rfl⟩:=sK m 1 (by simp at h3;omega)
  obtain⟨a1,a2,a3⟩:=bX h1;rw[aM]at h3⊢;rw[show m+1-(l.length+1)=m-l.length by omega,<-ih (k+1) m a3 (by omega)]
  rw[GC,aCK,dT (by omega:k<r.stops.length),bO,bP,a1,bZ,bZ,bF rfl,cS (by omega)]
  rfl
def aNL{L n M:Nat}(hM:M<=20000)(hL:M*M+M+7001<=L)(hn:M*M+M+30<=n){r:G.U}(h:RuB M r):bR L n 7 [yR 5 r,yR 5 r]=some [yB true]:=by
 obtain⟨n,rfl⟩:=sK n 1 (by omega)
 have hs:=h.st;rw[c7,F7,a5y,bF rfl,bF rfl,bF rfl,bF rfl,bF rfl,bF rfl,bF rfl];show GC (bR L n) L L ((0:Nat):Int) r r=_;rw[aNC (c:=bR L n) (k3:=λ_=>none) (by omega) r.stops 0 L rfl (by omega)]
 obtain⟨q,hq⟩: ∃q,L-r.stops.length=q+1:=⟨L-r.stops.length-1,by omega⟩
 rw[hq,GC,aCK,bG (by omega: ¬(r.stops.length:Int)<(r.stops.length:Int)),bL,aDi hM (by omega) (by omega) h.hy h.hl,cH]
 simp only[];rw[bO,aDi hM (by omega) (by omega) h.tm h.tl,cH]
 simp only[];rw[bO,aGr (M:=M) (by omega) (by omega) (by omega) (by omega) (by omega) h.lf,cH]
 simp only[];rw[bO,aGr (M:=M) (by omega) (by omega) (by omega) (by omega) (by omega) h.rt,cH]
 rfl
def bLG(L:Nat){n:Nat}(h:158<=n): ∃l:List G.L,bR (L+7000) n 12 []=some [yS 6 l]/\(1<=l.length/\l.length<=500)/\∀x∈l,cJ x.formula<=1000:=by
 obtain⟨m,rfl⟩: ∃m,n=m+158:=⟨n-158,by omega⟩
 have h1:=aSa (bD8 L m);rw[Qk,show m+99+59=m+158 by omega]at h1
 exact h1
def a0X{W:Type}{l:List G.L}{K:List G.L×Unit->Option W}:fU (D:=U0.D) [.sl (.rc 6)] (some [yS 6 l]) K=K (l,()):=rfl
end Go.TV
namespace Go.TV
open Go.AI Go.PI Go.Proofs
set_option maxRecDepth 20000
section
variable{c:bT}(h:Lib c)
include h
def a4I{L:Nat}{E:List G.E}{A B:Nat}(hv: ∀s,dU s->TSR (c 16 [yR 0 s]) 6)
    (h2: ∀s,dU s->TSR (c 15 [yS 16 E,yI (1:Int),yR 0 s]) A) (h1: ∀s,dU s->TSR (c 15 [yS 16 E,yI (0:Int),yR 0 s]) B) {s:G.Z} (hs:dU s):
    TSR (a6m c L E 1 s) (A+B+30):=by
 obtain⟨t,s2,e,g1,g2⟩:=h2 s hs;obtain⟨r,s3,e2,k1,k2,k3⟩:=h.nx s2 8 g2 (by omega)
 rw[a6m,aBn,e,fN,e2,nH];have key: ∀(a:Bool) (b:G.T),TSR (IK c L a r E 1 s3 t b) (A+B+30):=λa b=>by
  rw[IK,aBm];cases a with
  |true=>
   rw[bO,h.l,fF];exact .mk (by rw[iT];simp only[cC];omega) k3
  |false=>
   rw[bL];cases decide (r=(2:Int))with
   |true=>
    obtain⟨t2,s4,e,q1,q2⟩:=h1 s3 k3;rw[bO];show TSR (mC (c 15 [yS 16 E,yI (0:Int),yR 0 s3]) _) _;rw[e,fN];simp only[];rw[h.l,fF];simp only[];rw[h.l,fF];exact .mk (by rw[iT];simp only[cC];rw[iT];simp only[cC];omega) q2
   |false=>
    rw[bL];cases decide (r=(3:Int))with
    |true=>
     obtain⟨t2,s4,e,q1,q2⟩:=hv s3 k3;rw[bO,e,fN];simp only[];rw[h.l,fF];simp only[];rw[h.l,fF];exact .mk (by rw[iT];simp only[cC];rw[iT];simp only[cC];omega) q2
    |false=>
     rw[bL];cases decide (r=(4:Int))with
     |true=>
      obtain⟨t2,s4,e,q1,q2⟩:=h1 s3 k3;rw[bO];show TSR (mC (c 15 [yS 16 E,yI (0:Int),yR 0 s3]) _) _;rw[e,fN];simp only[];rw[h.l,fF];exact .mk (by rw[iT];simp only[cC];omega) q2
     |false=>
      rw[bL];cases decide (r=(5:Int))with
      |true=>
       obtain⟨t1,s4,e,q1,q2⟩:=hv s3 k3;rw[bO,e,fN];obtain⟨t2,s5,e,q3,q4⟩:=h1 s4 q2;show TSR (mC (c 15 [yS 16 E,yI (0:Int),yR 0 s4]) _) _;rw[e,fN];simp only[];rw[h.l,fF];simp only[];rw[h.l,fF];exact .mk (by rw[iT];simp only[cC];rw[iT];simp only[cC];omega) q4
      |false=>exact .mk (by omega) k3
 cases decide (r=(0:Int))with
 |true=>exact key _ _
 |false=>exact key _ _
end
def bD1(L:Nat){E:List G.E}(hE:a6i E){n:Nat}(h:66<=n)(s:G.Z)(hs:dU s):TSR (bR (L+7000) n 14 [yS 16 E,yI (1:Int),yR 0 s]) 855:=by
 obtain⟨m,rfl⟩: ∃m,n=m+1:=⟨n-1,by omega⟩
 rw[bQP];exact a4I (wW L (by omega)) (aBw L (by omega)) (aNy L hE (by omega)) (a8p L hE (by omega)) hs
def nlD(L M:Nat):cD L M 59 17 []=some [yR 3 G3]:=by kernel_rfl
def bLA(L:Nat){n:Nat}(h:158<=n):bR (L+7000) n 17 []=some [yR 3 G3]:=by
 obtain⟨m,rfl⟩: ∃m,n=m+158:=⟨n-158,by omega⟩
 have h1:=nlD L m;rw[Qk,show m+99+59=m+158 by omega]at h1
 exact h1
def zT{W:Type}{i:Int}{s:G.Z}{K:Int×G.Z×Unit->Option W}:rB (some [yI i,yR 0 s]) K=K (i,s,()):=rfl
structure bQT(c:bT)(E:List G.E):Prop where
 h:Lib c
 lm: ∃l:List G.L,c 12 []=some [yS 6 l]/\(1<=l.length/\l.length<=500)/\∀x∈l,cJ x.formula<=1000
 nl:c 17 []=some [yR 3 G3]
 l2: ∀s,dU s->TSR (c 14 [yS 16 E,yI (2:Int),yR 0 s]) 2523
 l1: ∀s,dU s->TSR (c 14 [yS 16 E,yI (1:Int),yR 0 s]) 855
 t2: ∀s,dU s->TSR (c 15 [yS 16 E,yI (2:Int),yR 0 s]) 1872
 t1: ∀s,dU s->TSR (c 15 [yS 16 E,yI (1:Int),yR 0 s]) 621
 v: ∀s,dU s->TSR (c 16 [yR 0 s]) 6
def a06:cJ G3<=20:=by decide
def XI{c:bT}{E:List G.E}(C:bQT c E){L:Nat}{z:G.T}{r:Int}(hr:r<=10): ∀(q:Nat) (i:Int) (m:Nat) (s:G.Z) (t:G.T) (B:Nat),0<=i->r=i+q->q<=2->q<m->dU s->cJ t<=B->
    TSR (QB c L m r E i s t z) (B+q*1800)
 |0,i,m,s,t,B,h0,h1,_,h3,hs,ht=>by
  obtain⟨m,rfl⟩:=sK m 1 (by omega)
  rw[QB,aQT,bG (by omega: ¬i<r),bL]
  exact .mk (by omega) hs
 |q+1,i,m,s,t,B,h0,h1,h2,h3,hs,ht=>by
  obtain⟨m,rfl⟩:=sK m 1 (by omega)
  obtain⟨a,s1,e1,b1,g1⟩:=C.l1 s hs;obtain⟨x,s2,e2,k1,k2,g2⟩:=C.h.nx s1 2 g1 (by omega)
  have st: ∀(a:G.T) (s:G.Z),dU s->cJ a<=1745->TSR (aQI c L (QB c L m) i r E s a t z) (B+(q+1)*1800):=λa s hs ha=>by
   simp only[aQI,a5L];rw[C.h.l,fF];simp only[];rw[show IntKind.i64.wrap (i+1)=i+1 from by
    obtain⟨j,rfl⟩: ∃j:Nat,i=(j:Int):=⟨i.toNat,by omega⟩
    exact(cS (by omega)).trans (by omega)]
   exact(XI C hr q (i+1) m s _ (B+1800) (by omega) (by omega) (by omega) (by omega) hs (by rw[iT];simp only[cC];omega)).le (by omega)
  rw[QB,aQT,bF (by omega:i<r),bO,e1,fN,e2,zT]
  simp only[];cases decide (x=(0:Int))with
  |true=>
   obtain⟨b,s3,e3,b3,g3⟩:=C.l1 s2 g2;have hz:=a06;rw[bO,e3,fN];simp only[];rw[C.nl,fF];simp only[];rw[C.h.l,fF];exact st _ _ g3 (by rw[iT];simp only[cC];omega)
  |false=>
   rw[bL];exact st _ _ g2 (by omega)
def bGL{c:bT}{E:List G.E}(C:bQT c E){L:Nat}(hL:10<=L){s:G.Z}(hs:dU s):TSR (F3 c L E s) 7000:=by
 obtain⟨l,e0,⟨l1,l2⟩,hl⟩:=C.lm;have hw:IntKind.i64.wrap ((2:Int)*(l.length:Int))=((2*l.length:Nat):Int):=by
  have:=cS (k:=2*l.length-1) (by omega)
  rw[show(((2*l.length-1:Nat):Int)+1)=(2:Int)*(l.length:Int) by omega]at this
  rw[this];omega
 obtain⟨r,s1,e1,k1,k2,g1⟩:=C.h.nx s ((2*l.length:Nat):Int) hs (by omega)
 have fin: ∀(t:G.T) (s:G.Z),dU s->cJ t<=3200->TSR (aQJ c L E s t eB) 7000:=λt s hs ht=>by
  simp only[aQJ,a5N];obtain⟨x,s2,e2,q1,q2,g2⟩:=C.h.nx s 3 hs (by omega)
  rw[e2,zT];simp only[];have h9:x.toNat<=2:=by omega
  have h8:=Nat.mul_le_mul_right 1800 h9;exact(XI C (L:=L) (r:=x) (by omega) x.toNat 0 L s2 t 3200 (by omega) (by omega) (by omega) (by omega) g2 ht).le (by omega)
 have pre: ∀(b:Bool) (t:G.T) (s:G.Z),dU s->cJ t<=1000->(b=true->1<t.args.length)->TSR (aQK c L b s t eB) 7000:=λb t s hs ht hb=>by
  simp only[aQK,a5O,a4J,a5M];cases b with
  |false=>rw[bL];exact .mk (by omega) hs
  |true=>
   obtain⟨u,eu,su⟩:=gJ (t:=t) (k:=1) (hb rfl);have iu:cI t.args (1:Int)=some u:=(bP t.args 1).trans eu;rw[bO,iu,bZ];exact .mk (by omega) hs
 rw[F3,a5P,e0,a0X];simp only[];rw[hw,e1,zT];simp only[];cases hr:decide (r<(l.length:Int))with
 |true=>
  have hr:=of_decide_eq_true hr;obtain⟨j,rfl⟩: ∃j:Nat,r=(j:Int):=⟨r.toNat,by omega⟩
  have hj:l[j]?=some l[j]:=aV (by omega)
  have ci:=hl l[j] (List.getElem_mem (by omega))
  obtain⟨x,s2,e2,q1,q2,g2⟩:=C.h.nx s1 4 g1 (by omega)
  rw[bO,bP,hj,bZ,e2,zT];simp only[];cases decide (x=(0:Int))with
  |true=>rw[bO];exact pre _ _ _ g2 ci (λh=>by have:=of_decide_eq_true h;omega)
  |false=>rw[bL];exact pre _ _ _ g2 ci (λh=>by cases h)
 |false=>
  obtain⟨t,s2,e2,b2,g2⟩:=C.l2 s1 g1;obtain⟨x,s3,e3,q1,q2,g3⟩:=C.h.nx s2 6 g2 (by omega)
  rw[bL,e2,fN];simp only[];rw[e3,zT];simp only[];cases decide (x=(0:Int))with
  |true=>
   obtain⟨a,s4,e4,b4,g4⟩:=C.t2 s3 g3;obtain⟨b,s5,e5,b5,g5⟩:=C.t1 s4 g4;rw[bO,e4,fN];simp only[];rw[e5,fN];simp only[];rw[C.h.l,fF];exact fin _ _ g5 (by rw[iT];simp only[cC];omega)
  |false=>
   rw[bL];cases decide (x=(1:Int))with
   |true=>
    obtain⟨a,s4,e4,b4,g4⟩:=C.t2 s3 g3;rw[bO,e4,fN];simp only[];rw[C.h.l,fF];exact fin _ _ g4 (by rw[iT];simp only[cC];omega)
   |false=>
    rw[bL];cases decide (x=(2:Int))with
    |true=>
     obtain⟨a,s4,e4,b4,g4⟩:=C.t2 s3 g3;obtain⟨b,s5,e5,b5,g5⟩:=C.t1 s4 g4;rw[bO,e4,fN];simp only[];rw[e5,fN];simp only[];rw[C.h.l,fF];simp only[];rw[C.h.l,fF];exact fin _ _ g5 (by rw[iT];simp only[cC];rw[iT];simp only[cC];omega)
    |false=>
     rw[bL];cases decide (x=(3:Int))with
     |true=>
      obtain⟨a,s4,e4,b4,g4⟩:=C.t1 s3 g3;obtain⟨b,s5,e5,b5,g5⟩:=C.t1 s4 g4;obtain⟨d,s6,e6,b6,g6⟩:=C.v s5 g5;rw[bO,e4,fN];simp only[];rw[e5,fN];simp only[];rw[C.h.l,fF];simp only[];rw[e6,fN];simp only[];rw[C.h.l,fF];exact fin _ _ g6 (by rw[iT];simp only[cC];rw[iT];simp only[cC];omega)
     |false=>rw[bL];exact fin _ _ g3 (by omega)
def bM8(L:Nat){E:List G.E}(hE:a6i E){n:Nat}(h:159<=n)(s:G.Z)(hs:dU s):TSR (bR (L+7000) n 3 [yS 16 E,yR 0 s]) 7000:=by
 obtain⟨m,rfl⟩: ∃m,n=m+1:=⟨n-1,by omega⟩
 rw[c3];exact bGL ⟨wW L (by omega),bLG L (by omega),bLA L (by omega),bLI L hE (by omega),bD1 L hE (by omega),a8o L hE (by omega),aNy L hE (by omega),aBw L (by omega)⟩ (by omega) hs
end Go.TV
namespace Go.TV
open Go.AI Go.PI Go.Proofs
set_option maxRecDepth 20000
def Kk{W:Type}{r:G.U}{i:Int}{K:G.U×Int×Unit->Option W}:wS (some [yR 5 r,yI i]) K=K (r,i,()):=rfl
structure R22(c:bT)(b:Int):Prop where
 aw:c 1 []=some [yB true]
 wo: ∃E:List G.E,c 2 [⟨.int .u32,b⟩]=some [yS 16 E]/\(∀s,dU s->TSR (c 3 [yS 16 E,yR 0 s]) 7000)/\
  ∀(nm:G.Y) (f:G.T) (k:Int),cJ f<=7000->Sm 7100 (c 5 [yS 16 E,yR 1 nm,yR 3 f,yI k]) (c 6 [yS 16 E,yR 1 nm,yR 3 f,yI k])
 us: ∀w:List UInt8,∃y:G.Y,c 4 [yT w]=some [yR 1 y]
 sm: ∀r:G.U,RuB 7100 r->c 7 [yR 5 r,yR 5 r]=some [yB true]
def aDF{c:bT}{L:Nat}{b k:Int}{a:List Int}(R:R22 c b)(hL:20<=L)(ha: ∀x∈a,0<=x/\x<256):F0 c L b a k=some [yB true]:=by
 rw[F0,a50,R.aw,cH];simp only[bD];rw[bL];cases hl:decide ((80:Int)<(a.length:Int))with
 |true=>rfl
 |false=>
  have hl:=of_decide_eq_false hl;obtain⟨E,h1,h2,h3⟩:=R.wo;obtain⟨f,s,h4,h5,_⟩:=h2 ⟨a,0⟩ ⟨ha,Int.le_refl _,by show(0:Int)<=(a.length:Int);omega,by show a.length<=100;omega⟩
  obtain⟨y,h6⟩:=R.us [109,97,100,101];rw[bL,h1,a01];simp only[];rw[h4,fN];simp only[];rw[h6,R0];simp only[];have loop: ∀(q:Nat) (i:Int) (m:Nat),i+q=10->q<m-> -1<=i->U5 c L m i E k y f=some [yB true]:=λq=>by
   induction q with
   |zero=>
    intro i m g1 g2 g3;obtain⟨m,rfl⟩:=sK m 1 (by omega)
    obtain⟨r,e,e1,e2,_⟩:=h3 y f k h5;rw[U5,aQV,bG (by omega: ¬i<=9),bL,e1,Kk,e2,Kk]
    show some [(yB (decide (e=e)):TV U0.D)]=_;rw[bF rfl]
   |succ q ih=>
    intro i m g1 g2 g3;obtain⟨m,rfl⟩:=sK m 1 (by omega)
    obtain⟨r,e,e1,e2,e3⟩:=h3 y f i h5;rw[U5,aQV,bF (by omega:i<=9),bO,e1,Kk,e2,Kk]
    show bN (!decide (e=e)) _ (cO (c 7 [yR 5 r,yR 5 r]) _)=_;rw[bF rfl,bD,bL,R.sm r e3,cH];simp only[a4K,a5Z];rw[bD,bL,show IntKind.i64.wrap (i+1)=i+1 from by
     by_cases hi:i= -1
     .subst hi;decide
     .obtain⟨j,rfl⟩: ∃j:Nat,i=(j:Int):=⟨i.toNat,by omega⟩
      exact(cS (by omega)).trans (by omega)]
    exact ih (i+1) m (by omega) (by omega) (by omega)
  exact loop 11 (-1) L (by omega) (by omega) (by omega)
end Go.TV
