import Derived.Test.YtgeanbfoeopjfaaGreatDoorKak
import Derived.Test.YtgeanbfoeopjfaaGreatDoorKab
import Derived.Test.YtgeanbfoeopjfaaGreatDoorKac
import Derived.Test.YtgeanbfoeopjfaaGreatDoorKaa
import Derived.Test.YtgeanbfoeopjfaaGreatDoorKp
import Derived.Test.YtgeanbfoeopjfaaGreatDoorKx
import Derived.Test.YtgeanbfoeopjfaaGreatDoorKw
set_option linter.unusedVariables false
set_option linter.unusedSimpArgs false
set_option linter.constructorNameAsVariable false
namespace Go.TV
open Go.AI Go.PI Go.Proofs
set_option maxRecDepth 20000
theorem aG0{k i:Nat}:decide ((k:Int)=(i:Int))=decide (k=i):=by
 by_cases h:k=i
 ·subst h;simp
 ·have: ¬(k:Int)=(i:Int):=by omega
  simp[h,this]
theorem aBs(a:List G.T)(t:G.T):bI (aEK a t)≤bI a+tsz t+1:=by
 unfold aEK;cases decide (t∈a)with
 |true=>rw[cdt];omega
 |false=>rw[cdf,tsz'_app];omega
theorem aDo(a:List G.T)(t:G.T):(aEK a t).length≤a.length+1:=by
 unfold aEK;cases decide (t∈a)with
 |true=>rw[cdt];omega
 |false=>rw[cdf];simp
theorem AddP_n{a:List G.T}{t:G.T}{L n:Nat}(hw:bI a<1000000000)(hl:a.length<1000000)(hL:bI a+10<L)(hn:bI a+10≤n):
    CTp L n 22 [⟨.sl (.rc 3),a⟩,⟨.sl (.rc 3),([t]:List G.T)⟩]=some [⟨.sl (.rc 3),aEK a t⟩]:=by
 have hlen:=bX a;obtain⟨n,rfl⟩: ∃n',n=n'+5:=⟨n-5,by omega⟩
 rw[show n+5=n+4+1 from rfl,c22]
 exact AddP_of (by omega) hl (Cln_ok (n:=n+3) hl) (ConP_ok (n:=n) hw (by omega) fun x hx y=>TEq_ok x (by have:=aK hx;simp only[wfT];omega) y L n (by have:=aK hx;omega) (by have:=aK hx;omega))
noncomputable def clO(i:Nat)(a b:G.T):List G.T→Nat→List G.T→Option (List G.T)
 |[],_,out=>some out
 |x::l,k,out=>bif decide (k=i)then clO i a b l (k+1) out else bif vlT (rpT a b x)then clO i a b l (k+1) (aEK out (rpT a b x))else none
def clR(x:Option (List G.T)):Rt:=match x with
 |some o=>some [⟨.sl (.rc 3),o⟩,⟨.bool,true⟩]
 |none=>some [⟨.sl (.rc 3),([]:List G.T)⟩,⟨.bool,false⟩]
theorem clO_sz{i:Nat}{a b:G.T}: ∀(l:List G.T) (k:Nat) (out o:List G.T),clO i a b l k out=some o→bI o≤bI out+bI l*(1+tsz b):=by
 intro l;induction l with
 |nil=>intro k out o h;cases h;omega
 |cons x l ih=>
  intro k out o h;have hx:=aFH a b x;rw[bI,Nat.add_mul,Nat.add_mul,Nat.one_mul];rw[clO]at h;cases e:decide (k=i)with
  |true=>rw[e,cdt]at h;have:=ih _ _ _ h;omega
  |false=>
   rw[e,cdf]at h;cases e2:vlT (rpT a b x)with
   |true=>rw[e2,cdt]at h;have:=ih _ _ _ h;have:=aBs out (rpT a b x);omega
   |false=>rw[e2]at h;cases h
theorem aCA{β:Type}{a:List G.T}{q:Bool}{K:List G.T×Bool×Unit→Option β}:obL (D:=U0.D) [.sl (.rc 3),.bool] (some [⟨.sl (.rc 3),a⟩,⟨.bool,q⟩]) K=K (a,q,()):=rfl
theorem aHE{L n:Nat}{a b:G.T}{cl:List G.T}{i:Nat}(hL:1000000000≤L)(hn:1000000000≤n)(hcl:cl.length<20001): ∀(l:List G.T) (k m:Nat) (out:List G.T),cl.drop k=l→l.length<m→out.length≤k→bI out+bI l*(1+tsz b)<900000000→bI l<300000000→
    W4x3 (CTp L n) L m (cl.length:Int) cl (i:Int) (k:Int) out a b=clR (clO i a b l k out):=by
 intro l;induction l with
 |nil=>
  intro k m out h1 h3 _ _ _;obtain⟨m,rfl⟩: ∃m',m=m'+1:=⟨m-1,by simp at h3;omega⟩
  have e1:=aN h1;have e3:decide ((k:Int)<(cl.length:Int))=false:=by simp;omega
  rw[W4x3,B4x3,e3,aE];rfl
 |cons x l ih=>
  intro k m out h1 h3 h4 h5 h6;obtain⟨m,rfl⟩: ∃m',m=m'+1:=⟨m-1,by simp at h3;omega⟩
  obtain⟨a1,a2,a3⟩:=aO h1;have e3:decide ((k:Int)<(cl.length:Int))=true:=by simp;omega
  have hx:=aFH a b x;rw[bI,Nat.add_mul,Nat.add_mul,Nat.one_mul]at h5;simp only[bI]at h6;have q: ∀o:List G.T,o.length≤k+1→bI o+bI l*(1+tsz b)<900000000→J4x4 (CTp L n) L (W4x3 (CTp L n) L m) (k:Int) (cl.length:Int) cl (i:Int) o a b=clR (clO i a b l (k+1) o):=fun o h8 h9=>by
   rw[J4x4,B4x4,cR (by omega)]
   exact ih (k+1) m o a3 (by simp at h3;omega) h8 h9 (by omega)
  rw[W4x3,B4x3,e3,aF,aJ,a1,bW,aG0,clO];cases decide (k=i)with
  |true=>rw[aF,cdt];exact q out (by omega) (by omega)
  |false=>
   rw[aE,cdf,rpP_ok a b x L n (by omega) (by omega) (by omega),cV]
   try dsimp only
   rw[vTP_ok (by omega) (by omega) (by omega) (by omega),bB]
   try dsimp only
   cases vlT (rpT a b x)with
   |false=>rfl
   |true=>
    rw[bnT,aE,cdt,AddP_n (by omega) (by omega) (by omega) (by omega),aAo]
    have g1:=aBs out (rpT a b x);have g2:=aDo out (rpT a b x);exact q (aEK out (rpT a b x)) (by omega) (by omega)
theorem aHD{L n:Nat}{a b:G.T}{cl:List G.T}{i:Nat}(hL:1000000000≤L)(hn:1000000000≤n)(hcl:cl.length<20001): ∀(l:List G.T) (k m:Nat) (out:List G.T),cl.drop k=l→l.length<m→out.length≤k→bI out+bI l*(1+tsz b)<900000000→bI l<300000000→
    W5x3 (CTp L n) L m (i:Int) cl (k:Int) out a b=clR (clO i a b l k out):=by
 intro l;induction l with
 |nil=>
  intro k m out h1 h3 _ _ _;obtain⟨m,rfl⟩: ∃m',m=m'+1:=⟨m-1,by simp at h3;omega⟩
  have e1:=aN h1;have e3:decide ((k:Int)<(cl.length:Int))=false:=by simp;omega
  rw[W5x3,B5x3,e3,aE];rfl
 |cons x l ih=>
  intro k m out h1 h3 h4 h5 h6;obtain⟨m,rfl⟩: ∃m',m=m'+1:=⟨m-1,by simp at h3;omega⟩
  obtain⟨a1,a2,a3⟩:=aO h1;have e3:decide ((k:Int)<(cl.length:Int))=true:=by simp;omega
  have hx:=aFH a b x;rw[bI,Nat.add_mul,Nat.add_mul,Nat.one_mul]at h5;simp only[bI]at h6;have q: ∀o:List G.T,o.length≤k+1→bI o+bI l*(1+tsz b)<900000000→J5x4 (CTp L n) L (W5x3 (CTp L n) L m) (k:Int) (i:Int) cl o a b=clR (clO i a b l (k+1) o):=fun o h8 h9=>by
   rw[J5x4,B5x4,cR (by omega)]
   exact ih (k+1) m o a3 (by simp at h3;omega) h8 h9 (by omega)
  rw[W5x3,B5x3,e3,aF,aG0,clO];cases decide (k=i)with
  |true=>rw[aF,cdt];exact q out (by omega) (by omega)
  |false=>
   rw[aE,cdf,aJ,a1,bW,rpR_ok a b x L n (by omega) (by omega) (by omega) (by omega),cV]
   try dsimp only
   rw[vTR_ok (by omega) (by omega) (by omega) (by omega),bB]
   try dsimp only
   cases vlT (rpT a b x)with
   |false=>rfl
   |true=>
    obtain⟨n,rfl⟩: ∃n',n=n'+1:=⟨n-1,by omega⟩
    rw[bnT,aE,cdt,AddR_ok (by omega) (by omega) (by omega) (by omega),aAo]
    have g1:=aBs out (rpT a b x);have g2:=aDo out (rpT a b x);exact q (aEK out (rpT a b x)) (by omega) (by omega)
noncomputable def clF(cl:List G.T)(i:Int)(r:Bool):Option (List G.T):=bif decide (i<0)then none else bif decide ((cl.length:Int)≤i)then none else match(cl[i.toNat]?).bind sid with
 |some p=>clO i.toNat (bif r then p.2 else p.1) (bif r then p.1 else p.2) cl 0 []
 |none=>none
theorem tZ{β:Type}{a b:G.T}{q:Bool}{K:G.T×G.T×Bool×Unit→Option β}:obL (D:=U0.D) [.rc 3,.rc 3,.bool] (some [⟨.rc 3,a⟩,⟨.rc 3,b⟩,⟨.bool,q⟩]) K=K (a,b,q,()):=rfl
theorem aGs{a b:Nat}(ha:a≤20000)(hb:b≤20000):a*(1+b)<900000000:=by
 have h1:=Nat.mul_le_mul ha (show 1+b≤20001 by omega)
 omega
theorem clF_sz{cl:List G.T}{i:Int}{r:Bool}{o:List G.T}(hs:bI cl≤20000)(h:clF cl i r=some o):bI o<900000000:=by
 unfold clF at h;cases e1:decide (i<0)with
 |true=>rw[e1]at h;cases h
 |false=>
  rw[e1,cdf]at h;cases e2:decide ((cl.length:Int)≤i)with
  |true=>rw[e2]at h;cases h
  |false=>
   rw[e2,cdf]at h;split at h
   ·rename_i p hp;rw[Option.bind_eq_some_iff]at hp;obtain⟨x,hx,hp⟩:=hp;have h1:=aFz hp;have h2:=aK (List.mem_of_getElem? hx);have h3:=clO_sz _ _ _ _ h;have h4:tsz (bif r then p.1 else p.2)≤20000:=by cases r<;>(try rw[cdt])<;>(try rw[cdf])<;>omega
    have h5:=aGs hs h4;simp only[bI]at h3;omega
   ·cases h
section
variable{cl:List G.T}{i:Int}{r:Bool}{L n:Nat}(hs:bI cl≤20000)(hL:1000000000≤L)(hn:1000000010≤n)
include hs hL hn
theorem cP_ok:CTp L n 4 [⟨.sl (.rc 3),cl⟩,⟨.int .i64,i⟩,⟨.bool,r⟩]=clR (clF cl i r):=by
 have hlen:=bX cl;obtain⟨n,rfl⟩: ∃n',n=n'+1:=⟨n-1,by omega⟩
 rw[c4,F4,B4x0,clF];cases e1:decide (i<0)with
 |true=>rw[aF,cdt];rfl
 |false=>
  rw[aE,cdf];cases e2:decide ((cl.length:Int)≤i)with
  |true=>rw[cdt];rfl
  |false=>
   rw[cdf,J4x1,B4x1,aE];simp only[dfN]at e1 e2;obtain⟨k,rfl⟩: ∃k:Nat,i=(k:Int):=⟨i.toNat,by omega⟩
   have hk:k<cl.length:=by omega
   rw[aJ,Int.toNat_natCast,geG hk,bW,obS];have hm:=aK (List.getElem_mem hk);generalize cl[k]=x at hm;have hq:CTp L n 19 [⟨.rc 3,x⟩]=aE2 x:=by
    have:=sidP_ok (t:=x) (L:=L) (n:=n-2)
    rwa [show n-2+2=n by omega]at this
   rw[hq,aE2];cases e:sid x with
   |none=>rw[tZ];rfl
   |some p=>
    obtain⟨u,v⟩:=p;have h1:=aFz e;have h4: ∀z:G.T,tsz z≤20000→bI ([]:List G.T)+bI cl*(1+tsz z)<900000000:=fun z hz=>by have:=aGs hs hz;simp only[bI];omega
    simp only[]at h1;rw[tZ]
    try dsimp only
    rw[bnT,aE];cases r with
    |true=>
     rw[aF,cdt,cdt,J4x2,B4x2];exact aHE hL (by omega) (by omega) cl 0 L [] rfl (by omega) (nlR _) (h4 u (by omega)) (by omega)
    |false=>
     rw[aE,cdf,cdf,J4x2,B4x2];exact aHE hL (by omega) (by omega) cl 0 L [] rfl (by omega) (nlR _) (h4 v (by omega)) (by omega)
theorem cR_ok:CTp L n 5 [⟨.sl (.rc 3),cl⟩,⟨.int .i64,i⟩,⟨.bool,r⟩]=clR (clF cl i r):=by
 have hlen:=bX cl;obtain⟨n,rfl⟩: ∃n',n=n'+1:=⟨n-1,by omega⟩
 rw[c5,F5,B5x0,clF];cases e1:decide (i<0)with
 |true=>rw[aF,cdt];rfl
 |false=>
  rw[aE,cdf];cases e2:decide ((cl.length:Int)≤i)with
  |true=>rw[cdt];rfl
  |false=>
   rw[cdf,J5x1,B5x1,aE];simp only[dfN]at e1 e2;obtain⟨k,rfl⟩: ∃k:Nat,i=(k:Int):=⟨i.toNat,by omega⟩
   have hk:k<cl.length:=by omega
   rw[aJ,Int.toNat_natCast,geG hk,bW,obS];have hm:=aK (List.getElem_mem hk);generalize cl[k]=x at hm;have hq:CTp L n 23 [⟨.rc 3,x⟩]=aE2 x:=by
    have:=sidR_ok (t:=x) (L:=L) (n:=n-3)
    rwa [show n-3+3=n by omega]at this
   rw[hq,aE2];cases e:sid x with
   |none=>rw[tZ];rfl
   |some p=>
    obtain⟨u,v⟩:=p;have h1:=aFz e;have h4: ∀z:G.T,tsz z≤20000→bI ([]:List G.T)+bI cl*(1+tsz z)<900000000:=fun z hz=>by have:=aGs hs hz;simp only[bI];omega
    simp only[]at h1;rw[tZ]
    try dsimp only
    rw[bnT,aE];cases r with
    |true=>
     rw[aF,cdt,cdt,J5x2,B5x2];exact aHD hL (by omega) (by omega) cl 0 L [] rfl (by omega) (nlR _) (h4 u (by omega)) (by omega)
    |false=>
     rw[aE,cdf,cdf,J5x2,B5x2];exact aHD hL (by omega) (by omega) cl 0 L [] rfl (by omega) (nlR _) (h4 v (by omega)) (by omega)
end
end Go.TV
namespace Go.TV
open Go.AI Go.PI Go.Proofs
theorem aIM{c:TC0}{L:Nat}{a b:List G.T}(hl:a.length=b.length)(hb:a.length<1000000000): ∀(l r:List G.T) (k m:Nat),a.drop k=l→b.drop k=r→l.length<m→
    (∀x,x∈l→∀y,c 61 (tt2 x y)=some (bb (decide (x=y))))→aBE c L m a b (k:Int)=some (bb (decide (l=r))):=by
 intro l;induction l with
 |nil=>
  intro r k m h1 h2 h3 _;obtain⟨m,rfl⟩: ∃m',m=m'+1:=⟨m-1,by simp at h3;omega⟩
  have e1:=aN h1;have e2:r=[]:=by rw[←h2];exact List.drop_eq_nil_of_le (by omega)
  have e3:decide ((k:Int)<(a.length:Int))=false:=by simp;omega
  rw[aBE,B26x1,e3,e2];simp only[aE,decide_true];rfl
 |cons x l ih=>
  intro r k m h1 h2 h3 hc;obtain⟨m,rfl⟩: ∃m',m=m'+1:=⟨m-1,by simp at h3;omega⟩
  obtain⟨a1,a2,a3⟩:=aO h1;cases r with
  |nil=>have:=aN h2;omega
  |cons y r=>
   obtain⟨b1,b2,b3⟩:=aO h2;have e3:decide ((k:Int)<(a.length:Int))=true:=by simp;omega
   have hxy:c 61 [yR 3 x,yR 3 y]=some [yB (decide (x=y))]:=hc x (mhE ..) y;rw[aBE,B26x1,e3,aF,aJ,aJ,a1,b1,bW,bW,hxy,bB,cR (by omega)]
   by_cases e:x=y
   ·subst e;simp only[decide_true,bnT,aE];rw[ih r (k+1) m a3 b3 (by simp at h3;omega) fun z hz=>hc z (mtE _ hz)]
    simp
   ·simp only[e,decide_false,Bool.not_false,aF];simp[e,bb]
theorem Same_ok{a b:List G.T}{L n:Nat}(hw:bI a<1000000000)(hL:bI a<L)(hn:bI a<n):CTp L n 26 (ll2 a b)=some (bb (decide (a=b))):=by
 have hlen:=bX a;obtain⟨n,rfl⟩: ∃n',n=n'+1:=⟨n-1,by omega⟩
 show CTp L (n+1) 26 [yS 3 _,yS 3 _]=_;rw[c26];simp only[F26,B26x0];by_cases e6:(a.length:Int)=(b.length:Int)
 ·simp only[e6,decide_true,bnT,aE];exact aIM (c:=CTp L n) (L:=L) (by omega) (by omega) a b 0 L rfl rfl (by omega) fun x hx y=>aI5 x (by have:=aK hx;simp only[wfT];omega) y L n (by have:=aK hx;omega) (by have:=aK hx;omega)
 ·have e7: ¬a=b:=fun h=>e6 (by rw[h])
  simp[e6,e7,cnd,bb]
end Go.TV
namespace Go.TV
open Go.AI Go.PI Go.Proofs
set_option maxRecDepth 20000
theorem awake_ok(L n:Nat):CTp L (n+1) 1 []=some [⟨.bool,true⟩]:=
 call_o (x:=ii1) (T:=tpI) (y:= .t) (by kernel_rfl) (by kernel_rfl) (by kernel_rfl) L n [] (by kernel_rfl)
section
variable(L:Nat){E:List G.E}(hE:WOK E)
include hE
theorem cm_n(hL:100000≤L){n:Nat}(h:70000≤n)(s:G.Z)(hs:bK s):ClR (CTp (L+7000) n 15 [⟨.sl (.rc 15),E⟩,⟨.int .i64,(3:Int)⟩,⟨.int .i64,(2:Int)⟩,⟨.rc 0,s⟩]) 8000:=by
 obtain⟨m,rfl⟩: ∃m,n=m+1:=⟨n-1,by omega⟩
 rw[c15];obtain⟨l,s',h1,h2,h3⟩:=Cm_ok (uB L (n:=m) (by omega)) (L:=L+7000) (by omega) (li_n L hE (by omega)) (ad_n L hL (by omega)) (by omega) hs
 exact⟨l,s',h1,by omega,h3⟩
theorem lf_n(hL:100000≤L){n:Nat}(h:80000≤n)(s:G.Z)(hs:bK s):ClR (CTp (L+7000) n 3 [⟨.sl (.rc 15),E⟩,⟨.rc 0,s⟩]) 20000:=by
 obtain⟨m,rfl⟩: ∃m,n=m+1:=⟨n-1,by omega⟩
 rw[c3];exact Lf_ok (uB L (by omega)) (by omega) (va_n L (by omega)) (t2_n L hE (by omega)) (t1_n L hE (by omega)) (cm_n L hE hL (by omega)) (ad_n L hL (by omega)) (by omega) (by omega) hs
end
def BoS(c:TC0)(cl:List G.T):Prop:= ∀(j:Int) (r:Bool),∃(o:List G.T) (q:Bool),c 4 [⟨.sl (.rc 3),cl⟩,⟨.int .i64,j⟩,⟨.bool,r⟩]=some [⟨.sl (.rc 3),o⟩,⟨.bool,q⟩]∧
 c 5 [⟨.sl (.rc 3),cl⟩,⟨.int .i64,j⟩,⟨.bool,r⟩]=some [⟨.sl (.rc 3),o⟩,⟨.bool,q⟩]∧c 6 [⟨.sl (.rc 3),o⟩,⟨.sl (.rc 3),o⟩]=some [⟨.bool,true⟩]
theorem lw_one{c:TC0}{cl:List G.T}(h:BoS c cl){L m:Nat}{n1:Int→List G.T→Int→Rt}{q j i:Int}{l:List Bool}{r:Bool}(e1:decide (q<2)=true)(e2:idx l q=some r):
    W0x2 c L n1 (m+1) 2 l q j cl i=W0x2 c L n1 m 2 l (IntKind.i64.wrap (q+1)) j cl i:=by
 obtain⟨o,b,h1,h2,h3⟩:=h j r;rw[W0x2,B0x2,e1,aF,e2,bW,h1,aCA]
 try dsimp only
 rw[h2,aCA];simp only[BEq.rfl,bnT];rw[aE,h3,bB]
 try dsimp only
 rw[bnT,J0x4,B0x4,aE]
theorem lw_two{c:TC0}{cl:List G.T}(h:BoS c cl){L m:Nat}{n1:Int→List G.T→Int→Rt}{j i:Int}(hm:3≤m):W0x2 c L n1 m 2 [false,true] 0 j cl i=n1 (IntKind.i64.wrap (j+1)) cl i:=by
 obtain⟨m,rfl⟩: ∃m',m=m'+3:=⟨m-3,by omega⟩
 rw[lw_one h (m:=m+2) (r:=false) rfl rfl,show IntKind.i64.wrap ((0:Int)+1)=1 from rfl,lw_one h (m:=m+1) (r:=true) rfl rfl,show IntKind.i64.wrap ((1:Int)+1)=2 from rfl,W0x2,B0x2,
  show decide ((2:Int)<2)=false from rfl,aE]
theorem lw_loop{c:TC0}{cl:List G.T}(h:BoS c cl){L:Nat}(hL:3≤L)(hb:cl.length<1000000){i:Int}: ∀(d m:Nat) (j:Int),(cl.length:Int)+1-j=d→ -1≤j→d<m→W0x1 c L m j cl i=some [⟨.bool,true⟩]:=by
 intro d;induction d with
 |zero=>
  intro m j h1 h2 h3;obtain⟨m,rfl⟩: ∃m',m=m'+1:=⟨m-1,by omega⟩
  obtain⟨o,b,k1,k2,k3⟩:=h i true;rw[W0x1,B0x1,decide_eq_false (by omega: ¬j≤(cl.length:Int)),aE,k1,aCA]
  try dsimp only
  rw[k2,aCA];simp only[BEq.rfl,aF];rw[k3,bB];rfl
 |succ d ih=>
  intro m j h1 h2 h3;obtain⟨m,rfl⟩: ∃m',m=m'+1:=⟨m-1,by omega⟩
  rw[W0x1,B0x1,decide_eq_true (by omega:j≤(cl.length:Int)),aF]
  exact(lw_two h hL).trans (by rw[fB (by omega) (by omega)];exact ih m (j+1) (by omega) (by omega) (by omega))
theorem same_n{o:List G.T}{L n:Nat}(hw:bI o<900000000)(hL:1000000000≤L)(hn:1000000000≤n):CTp L n 6 [⟨.sl (.rc 3),o⟩,⟨.sl (.rc 3),o⟩]=some [⟨.bool,true⟩]:=by
 obtain⟨n,rfl⟩: ∃n',n=n'+1:=⟨n-1,by omega⟩
 have h1:CTp L n 26 [⟨.sl (.rc 3),o⟩,⟨.sl (.rc 3),o⟩]=some [⟨.bool,decide (o=o)⟩]:=Same_ok (by omega) (by omega) (by omega)
 rw[c6,F6,B6x0,h1,bB,decide_eq_true rfl]
theorem bos_ok{cl:List G.T}(hs:bI cl≤20000){L n:Nat}(hL:1000000000≤L)(hn:1000000010≤n):BoS (CTp L n) cl:=fun j r=>by
 have h1:=cP_ok (cl:=cl) (i:=j) (r:=r) hs hL hn;have h2:=cR_ok (cl:=cl) (i:=j) (r:=r) hs hL hn;cases e:clF cl j r with
 |none=>
  rw[e]at h1 h2;exact⟨[],false,h1,h2,same_n (by simp[bI]) hL (by omega)⟩
 |some o=>
  rw[e]at h1 h2;exact⟨o,true,h1,h2,same_n (clF_sz hs e) hL (by omega)⟩
theorem row18_of{c:TC0}{L:Nat}{a:List Int}{i:Int}(hL:1000000≤L)(h1:c 1 []=some [⟨.bool,true⟩])(hw:a.length≤80→∃E cl s,c 2 [⟨.int .u32,(0:Int)⟩]=some [⟨.sl (.rc 15),(E:List G.E)⟩]∧c 3 [⟨.sl (.rc 15),E⟩,⟨.rc 0,(⟨a,0⟩:G.Z)⟩]=some [⟨.sl (.rc 3),(cl:List G.T)⟩,⟨.rc 0,(s:G.Z)⟩]∧
    cl.length≤20000∧BoS c cl):F0 c L a i=some [⟨.bool,true⟩]:=by
 rw[F0,B0x0,h1,bB];simp only[bnT,aE];cases e:decide ((80:Int)<(a.length:Int))with
 |true=>rfl
 |false=>
  simp only[dfN]at e;obtain⟨E,cl,s,k1,k2,k3,k4⟩:=hw (by omega)
  rw[aE,k1,obL_en];simp only[];rw[k2,obL_cs];exact lw_loop k4 (by omega) (by omega) (cl.length+2) L (-1) (by omega) (by omega) (by omega)
theorem row18_tv(a:List Int)(ha: ∀x∈a,0≤x∧x<256)(i:Int)(L M:Nat):CTp (L+2000007000) (M+2000000001) 0 [⟨.sl (.int .u8),a⟩,⟨.int .i64,i⟩]=some [⟨.bool,true⟩]:=by
 have e:L+2000007000=L+2000000000+7000:=by omega
 rw[show M+2000000001=M+2000000000+1 by omega,c0,e]
 generalize hl:L+2000000000=L1;generalize hm:M+2000000000=M1;refine row18_of (by omega) ?_ fun h80=>?_
 ·obtain⟨m,rfl⟩: ∃m,M1=m+1:=⟨M1-1,by omega⟩
  exact awake_ok (L1+7000) m
 ·obtain⟨m,rfl⟩: ∃m,M1=m+159:=⟨M1-159,by omega⟩
  obtain⟨E,h2,h3⟩:=world_ok L1 m;obtain⟨cl,s,h4,h5,h6⟩:=lf_n L1 (smF_ok h3) (by omega) (n:=m+159) (by omega) ⟨a,0⟩ ⟨ha,Int.le_refl _,by show(0:Int)≤(a.length:Int);omega,by show a.length≤100;omega⟩
  have:=bX cl;exact⟨E,cl,s,h2,h4,by omega,bos_ok h5 (by omega) (by omega)⟩
end Go.TV
namespace Go.TV
open Go.AI Go.PI Go.Proofs
set_option maxRecDepth 20000
def u8V(cs:List Int):List Value:=cs.map fun x=> .int .u8 x
def u8P(cs:List Int):PV:=cQ 1 (cs.map fun x=> .v (.int .u8 x))
def p00:PSt:=⟨.nil,0,[],[]⟩
def nu0:Nu:=fun _=>none
def ga0:Ga:=fun _=>none
theorem mem0{cs:List Value}:Mem nu0 ga0 p00 (st1 5 cs 1) where
 le:=fun id x h=>by cases h
 lt:=fun id a h=>by cases h
 inj:=fun i j a h=>by cases h
 live:=fun id a h=>by cases h
 get:=fun id o h=>by
  unfold PSt.get at h;rw[show Nat.blt id p00.next=false from rfl]at h
  cases h
 free:=fun a ha=>by
  have h4:6≤a:=ha;rw[mI,if_neg (by omega)]
 ver:=fun g=>by
  show(Tr.get Tr.nil g).getD 0=0;rw[Tr.get_nil];rfl
theorem aGM: ∀cs:List Int,eA (cs.map fun x=>PV.v (.int .u8 x))=cs.map fun x=>PV.v (.int .u8 x)
 |[]=>rfl
 |x::l=>by
  have ih:=aGM l;simp only[eA]at ih⊢;rw[mpC,fmC,ih];rfl
theorem arg_of{W:World}{v:Value}{cs:List Int}(hv:(v= .slice none 0 0∧cs.length=0)∨∃a cap,v= .slice (some a) cs.length cap∧cs.length≤cap∧(0<cs.length→∃b off C t fr,a=⟨b,off,none⟩∧W.heap[b]?=some (Obj.cells C t fr)∧∀(i:Nat) (x:Value),(u8V cs)[i]?=some x→C[off+i]?=some x)):
    ∃(p:Option AI.Place) (u:Value),(∀q,p=some q→RowW W q (u8V cs) 1)∧R nu0 (st1 5 (u8V cs) 1) (u8P cs) u∧AI.VR (mu1 5 p) u v:=by
 rcases hv with⟨rfl,h0⟩|⟨a,cap,rfl,hc,hrow⟩
 ·have:cs=[]:=List.length_eq_zero_iff.1 h0;subst this;exact⟨none,.slice none 0 0,fun q hq=>(by cases hq),.emp0,.same _ rfl⟩
 ·by_cases hn:0<cs.length
  ·obtain⟨b,off,C,t,fr,rfl,h1,h2⟩:=hrow hn;refine⟨some ⟨b,off,off+cap*1,1⟩,.slice (some ⟨5,0,none⟩) cs.length (cs.length+1),?_,?_,?_⟩
   ·intro q hq;cases hq;refine⟨⟨C,t,fr,h1,h2⟩,?_,rfl⟩;intro x hx;obtain⟨k,_,rfl⟩:=List.mem_map.1 hx;rfl
   ·have hne:u8P cs= .sl 1 (cs.map fun x=> .v (.int .u8 x)):=by
     cases cs with
     |nil=>simp at hn
     |cons x l=>rfl
    rw[hne];have hl:cs.length=(cs.map fun x=>PV.v (.int .u8 x)).length:=by simp
    have hfl:=aGM cs;rw[hl];refine R.sl 1 _ 5 0 _ (u8V cs) (rdM 1) (nlR _) (fun e he=>?_) ⟨?_,fun k hk=>by cases hk⟩ rfl ?_ (fun i x u hx hu=>?_)
    ·obtain⟨k,_,rfl⟩:=List.mem_map.1 he;exact⟨rfl,rfl⟩
    ·exact PI.row_of_get (by rw[mI,if_pos rfl]) rfl
    ·simp[u8V]
    ·rw[hfl,List.getElem?_map,mjE]at hx;obtain⟨k,hk,rfl⟩:=hx;rw[Nat.zero_add,u8V,List.getElem?_map,hk]at hu;cases hu;exact .v _ rfl
   ·exact .slc 5 0 cs.length (cs.length+1) cap ⟨b,off,off+cap*1,1⟩ rfl (fun e=>by omega) hc (by simp)
  ·have:cs=[]:=List.length_eq_zero_iff.1 (by omega)
   subst this;exact⟨none,.slice (some ⟨0,0,some 0⟩) 0 0,fun q hq=>(by cases hq),.emp2 0 0 0 0,.emp a 0 cap (fun h=>by cases h)⟩
theorem law_pi{cs:List Int}{i:Int}(hb: ∀x∈cs,0≤x∧x<256): ∃own p',jG Tryz.prog orcI (aAg Go.Rf.cdG insL) 2000007000 2000000001 4 [(u8P cs,false),(.v (.int .i64 i),false)] p00=some (.v (.bool true),own,p'):=by
 have h0:=row18_tv cs hb i 0 0;have hT:=callT_ok (U:=U0) (T:=tpI) (P:=Tryz.prog) recOK (ttOK orcI (sigL insL)) (G:=tabL Go.Rf.cdG insL) (GP:=aAg Go.Rf.cdG insL) (fun i s code rs h1 h2=>tabL_ok ka_ok i s code rs h1 h2) arI_ok 2000007000 2000000001
 have hsig:tpI.sig 0=some ii0.sig:=(by kernel_rfl:sigL insL 0=some ii0.sig)
 have hvr:VR U0 (.sl (.int .u8)) cs (u8P cs):=vC (U:=U0) (.int .u8) cs rfl rfl;obtain⟨pv,own,p',h1,h2⟩:=hT 0 ii0.sig _ _ hsig h0 p00 (fun _=>none) [(u8P cs,false),(.v (.int .i64 i),false)] [(0,(.val ⟨.sl (.int .u8),cs⟩,[])),(1,(.val ⟨.int .i64,i⟩,[]))] ⟨[],[]⟩ {
  start:=rfl
  len:=rfl
  args:=fun i y hy=>by
   match i,hy with
   |0,hy=>cases hy;exact⟨hvr,aG _ _⟩
   |1,hy=>cases hy;exact⟨dR (U:=U0) .i64 _,aG _ _⟩
   |i+2,hy=>cases hy
  bx:=fun j b h=>by cases h
  dom:=fun _ _=>rfl
  lt:=fun j e id h=>by cases h
  inj:=fun k k' e e' id h=>by cases h
  wr:=fun id h=>by cases h}
 have hpv:pv= .v (.bool true):=of_bool h2.res.1;subst hpv;exact⟨own,p',h1⟩
theorem aGy{W:World}{v:Value}{cs:List Int}{n:Int}(hb: ∀x∈cs,0≤x∧x<256)(ht:Lib.TabIs Tryz.prog W pwN .u64 Lib.pow10Tab)(hz:5≤W.heap.size)
    (hv:(v= .slice none 0 0∧cs.length=0)∨∃a cap,v= .slice (some a) cs.length cap∧cs.length≤cap∧(0<cs.length→∃b off C t fr,a=⟨b,off,none⟩∧W.heap[b]?=some (Obj.cells C t fr)∧∀(i:Nat) (x:Value),(u8V cs)[i]?=some x→C[off+i]?=some x)):
    Calls Tryz.prog 4 #[v,.int .i64 n] W fun e w'=>e= .returned (.bool true)∧Kept W w':=by
 obtain⟨p,u,hp,hr,hvr⟩:=arg_of hv;obtain⟨own,p',hpi⟩:=law_pi (i:=n) hb;have hG:aIL Tryz.prog Go.Rf.cdG (aAg Go.Rf.cdG insL):=aF2 aGB kb_ok;obtain⟨u',σ',ν',γ',h1,h2,_⟩:=aHP (O:=orcI) hG 2000007000 2000000001 _ _ _ _ _ _ hpi nu0 ga0 (st1 5 (u8V cs) 1) #[u,.int .i64 n] mem0 ⟨rfl,fun i x w hx hw=>by
  match i,hx,hw with
  |0,hx,hw=>cases hx;cases hw;exact hr
  |1,hx,hw=>cases hx;cases hw;exact .v _ rfl
  |i+2,hx,hw=>cases hx⟩ (fun i x w hx _=>by
  match i,hx with
  |0,hx=>cases hx
  |1,hx=>cases hx
  |i+2,hx=>cases hx)
 have hu:u'= .bool true:=by cases h2;rfl
 subst hu;obtain⟨_,hc⟩:=uT aCK (fun w0 h=>Go.Rf.code_okG aGB aCK w0 (by rw[gl_sz,h];exact hz)) (orc_ok ht hz) 2000007000 2000000001 (W0.of W) rfl _ #[u,.int .i64 n] #[v,.int .i64 n] _ _ W (mu1 5 p) _ h1 (sim1 (by omega) hp (fun h=>by omega) hz) ⟨rfl,fun i x w hx hw=>by
  match i,hx,hw with
  |0,hx,hw=>cases hx;cases hw;exact hvr
  |1,hx,hw=>cases hx;cases hw;exact .same _ rfl
  |i+2,hx,hw=>cases hx⟩
 refine hc.mono ?_;rintro e w' ⟨μ',r',rfl,hr',hZ,_,_⟩;have:r'= .bool true:=by cases hr';rfl
 subst this;exact⟨rfl,hZ.kept.toKept⟩
end Go.TV
