import Derived.Test.YtgddcoodncbkoaaGreatDoorKp
import Derived.Test.YtgddcoodncbkoaaGreatDoorKab
import Derived.Test.YtgddcoodncbkoaaGreatDoorKaa
import Derived.Test.YtgddcoodncbkoaaGreatDoorKr
set_option linter.unusedVariables false
set_option linter.unusedSimpArgs false
set_option linter.constructorNameAsVariable false
set_option linter.defProp false
namespace Go.TV
open Go.AI Go.PI Go.Proofs
set_option maxRecDepth 20000
def eqz_ok(L M:Nat):cQ L M 20 43 [yR 3 ozT,yR 3 ozT]=some [yB true]:=by kernel_rfl
def eqs_ok{L n M:Nat}(hL:7000<=L)(hn:20<=n)(hM:M<=200000)(hL2:M<=L)(hn2:M<=n){t:G.T}(h:t=ozT∨tsz t<=M):CTp L n 43 [yR 3 t,yR 3 t]=some [yB true]:=by
 rcases h with rfl|h
 ·obtain⟨n,rfl⟩:=sK n 20 (by omega)
  obtain⟨L,rfl⟩:=sK L 7000 (by omega)
  rw[<-eqz_ok L n,cQ_ok]
 ·have h2:=vA t (by simp only[wfT];omega) t L n (by omega) (by omega)
  rw[decide_eq_true rfl]at h2;exact h2
def sts_ok{L n M:Nat}(hM:M<=20000)(hL:M*M+M<L)(hn:M*M+M<n){l:List G.T}(h: ∀t∈l,tsz t<=M)(hl:l.length<=M):CTp L n 50 [yS 3 l,yS 3 l]=some [yB true]:=by
 have hb: ∀r:List G.T,(∀t∈r,tsz t<=M)->bM r<=r.length*(M+1):=λr=>by
  induction r with
  |nil=>intro _;exact Nat.zero_le _
  |cons x r ih=>
   intro hr;have h1:=ih λt ht=>hr t (mtE _ ht)
   have h2:=hr x (mhE ..);simp only[bM,lcS];rw[Nat.succ_mul];omega
 have h1:=hb l h;have h2:l.length*(M+1)<=M*(M+1):=Nat.mul_le_mul_right _ hl;have h2':M*(M+1)=M*M+M:=by rw[Nat.mul_add,Nat.mul_one]
 have h3:M*M<=20000*20000:=Nat.mul_le_mul hM hM;have h4:=Same_ok (a:=l) (b:=l) (L:=L) (n:=n) (by omega) (by omega) (by omega)
 rw[decide_eq_true rfl]at h4;exact h4
def sp_loop{c:TC0}{L:Nat}{r:G.U}(hl:r.stops.length<1000000){k3:Bool->Rt}: ∀(l:List G.Q) (k m:Nat),r.stops.drop k=l->l.length<m->
    W9x2 c L m (k:Int) r r=W9x2 c L (m-l.length) (r.stops.length:Int) r r:=by
 intro l;induction l with
 |nil=>
  intro k m h1 h3;have e1:=aH h1;have:k=r.stops.length∨r.stops.length<k:=by omega
  rcases this with rfl|h
  ·rfl
  ·obtain⟨m,rfl⟩:=sK m 1 (by simp at h3;omega)
   rw[lnN,Nat.sub_zero,W9x2,B9x2,B9x2,dF (by omega: ¬k<r.stops.length),decide_eq_false (by omega: ¬(r.stops.length:Int)<(r.stops.length:Int)),aC,aC]
 |cons x l ih=>
  intro k m h1 h3;obtain⟨m,rfl⟩:=sK m 1 (by simp at h3;omega)
  obtain⟨a1,a2,a3⟩:=aI h1;rw[lcS]at h3⊢;rw[show m+1-(l.length+1)=m-l.length by omega,<-ih (k+1) m a3 (by omega)]
  rw[W9x2,B9x2,dT (by omega:k<r.stops.length),aG,aD,a1,aS,aS,decide_eq_true rfl,aX (by omega)]
  rfl
def same_ok{L n M:Nat}(hM:M<=20000)(hL:M*M+M+7001<=L)(hn:M*M+M+30<=n){r:G.U}(h:RuB M r):CTp L n 9 [yR 5 r,yR 5 r]=some [yB true]:=by
 obtain⟨n,rfl⟩:=sK n 1 (by omega)
 have hs:=h.st;rw[c9,F9,B9x0,decide_eq_true rfl,decide_eq_true rfl,decide_eq_true rfl,decide_eq_true rfl,decide_eq_true rfl,decide_eq_true rfl,decide_eq_true rfl];show W9x2 (CTp L n) L L ((0:Nat):Int) r r=_;rw[sp_loop (c:=CTp L n) (k3:=λ_=>none) (by omega) r.stops 0 L rfl (by omega)]
 obtain⟨q,hq⟩: ∃q,L-r.stops.length=q+1:=⟨L-r.stops.length-1,by omega⟩
 rw[hq,W9x2,B9x2,decide_eq_false (by omega: ¬(r.stops.length:Int)<(r.stops.length:Int)),aC,sts_ok hM (by omega) (by omega) h.hy h.hl,aN]
 simp only[];rw[aG,sts_ok hM (by omega) (by omega) h.tm h.tl,aN]
 simp only[];rw[aG,eqs_ok (M:=M) (by omega) (by omega) (by omega) (by omega) (by omega) h.lf,aN]
 simp only[];rw[aG,eqs_ok (M:=M) (by omega) (by omega) (by omega) (by omega) (by omega) h.rt,aN]
 rfl
def lm_n(L:Nat){n:Nat}(h:158<=n): ∃l:List G.L,CTp (L+7000) n 3 []=some [yS 6 l]/\(1<=l.length/\l.length<=500)/\∀x∈l,tsz x.formula<=1000:=by
 obtain⟨m,rfl⟩: ∃m,n=m+158:=⟨n-158,by omega⟩
 have h1:=lR_ok (kw12 L m);rw[aEA,show m+99+59=m+158 by omega]at h1
 exact h1
def obL_ms{W:Type}{l:List G.L}{K:List G.L×Unit->Option W}:obL (D:=U0.D) [.sl (.rc 6)] (some [yS 6 l]) K=K (l,()):=rfl
def obL_Et{W:Type}{a:List G.E}{K:List G.E×Unit->Option W}:obL (D:=U0.D) [.sl (.rc 16)] (some [yS 16 a]) K=K (a,()):=rfl
end Go.TV
namespace Go.TV
open Go.AI Go.PI Go.Proofs
set_option maxRecDepth 20000
def obL_Ri{W:Type}{r:G.U}{i:Int}{K:G.U×Int×Unit->Option W}:obL (D:=U0.D) [.rc 5,.int .i64] (some [yR 5 r,yI i]) K=K (r,i,()):=rfl
def nmR(r:Rt):Bool:=match r with|some [⟨.sl (.rc 1),l⟩]=>Nat.ble l.length 1000|_=>false
def nmR_ok{r:Rt}(h:nmR r=true): ∃l:List G.Y,r=some [yS 1 l]/\l.length<=1000:=by
 unfold nmR at h;split at h
 ·exact⟨_,rfl,Nat.le_of_ble_eq_true h⟩
 ·cases h
def nmP(L M:Nat):nmR (cD L M 59 7 [])=true:=by kernel_rfl
def usD(L M:Nat)(w:List UInt8):cD L M 59 4 [yT w]=some [yR 1 (⟨[117,115,101,114],w⟩:G.Y)]:=by kernel_rfl
def lsD(L M:Nat)(w:List UInt8):cD L M 59 8 [yT w]=some [yR 1 (⟨eB,w⟩:G.Y)]:=by kernel_rfl
structure R24(c:TC0)(b:Int):Prop where
 aw:c 1 []=some [yB true]
 wo: ∃E:List G.E,c 2 [⟨.int .u32,b⟩]=some [yS 16 E]/\(∀s:G.Y,∃z:Bool,c 10 [yS 16 E,yR 1 s]=some [yB z]/\c 11 [yS 16 E,yR 1 s]=some [yB z])/\
  ∀(nm:G.Y) (f:G.T) (k:Int),tsz f<=1000->Sm 1100 (c 5 [yS 16 E,yR 1 nm,yR 3 f,yI k]) (c 6 [yS 16 E,yR 1 nm,yR 3 f,yI k])
 lm: ∃l:List G.L,c 3 []=some [yS 6 l]/\(1<=l.length/\l.length<=500)/\∀x∈l,tsz x.formula<=1000
 us: ∀w:List UInt8,∃y:G.Y,c 4 [yT w]=some [yR 1 y]
 ls: ∀w:List UInt8,∃y:G.Y,c 8 [yT w]=some [yR 1 y]
 nm: ∃l:List G.Y,c 7 []=some [yS 1 l]/\l.length<=1000
 sm: ∀r:G.U,RuB 1100 r->c 9 [yR 5 r,yR 5 r]=some [yB true]
def wrap8{k:Int}(h0:0<=k)(h:k<256):IntKind.i64.wrap k=k:=by
 by_cases hk:k=0
 ·subst hk;decide
 ·obtain⟨j,rfl⟩: ∃j:Nat,k=((j+1:Nat):Int):=⟨k.toNat-1,by omega⟩
  exact(show IntKind.i64.wrap ((j+1:Nat):Int)=_ from aX (by omega))
def at_mod{N:Type}{l:List N}{k:Int}(h0:0<=k)(h:k<256)(hl:1<=l.length): ∃x,idx l (Int.tmod (IntKind.i64.wrap k) (l.length:Int))=some x/\x∈l:=by
 obtain⟨j,rfl⟩: ∃j:Nat,k=(j:Int):=⟨k.toNat,by omega⟩
 rw[wrap8 h0 h];have hm:j%l.length<l.length:=Nat.mod_lt _ (by omega)
 refine⟨l[j%l.length],?_,List.getElem_mem hm⟩;rw[show Int.tmod (j:Int) (l.length:Int)=((j%l.length:Nat):Int) from rfl]
 exact(aD l _).trans (geG hm)
def row24_of{c:TC0}{L:Nat}{b k d:Int}(R:R24 c b)(hk:0<=k/\k<256)(hd:0<=d/\d<256):F0 c L b k d=some [yB true]:=by
 obtain⟨E,h1,h2,h3⟩:=R.wo;obtain⟨l,h4,⟨h5,h6⟩,h7⟩:=R.lm;obtain⟨ns,h8,h9⟩:=R.nm;obtain⟨x,h10,h11⟩:=at_mod (l:=l) hk.1 hk.2 h5;rw[F0,B0x0,R.aw,aN];simp only[bnT];rw[aC,h1,obL_Et];simp only[];rw[h4,obL_ms];simp only[];rw[decide_eq_false (by omega: ¬(l.length:Int)=0),Bool.not_false,eC,h10,aS]
 have key: ∀q:Int,J0x1 c L q d E x=some [yB true]:=λq=>by
  obtain⟨y1,e1⟩:=R.us x.name;obtain⟨r,e,e2,e3,e4⟩:=h3 y1 x.formula q (h7 x h11);obtain⟨y2,e5⟩:=R.ls [101,113,117,97,108];obtain⟨y3,e6⟩:=R.ls [105,102,102];obtain⟨y4,e7⟩:=R.us [115,97,109,101,45,108,101,110];simp only[J0x1,B0x1];rw[e1,fZ];simp only[];rw[e2,obL_Ri,fZ];simp only[];rw[e3,obL_Ri];simp only[];rw[h8,dG,e5,fZ,e6,fZ,e7,fZ];simp only[];obtain⟨s,e8,_⟩:=at_mod (l:=ns++ [y2,y3,y4]) hd.1 hd.2 (by rw[lnA];simp only[lcS];omega)
  obtain⟨z,e9,e10⟩:=h2 s;rw[show Nat.ble ((ns.length+([y2,y3,y4]:List G.Y).length)*32) 1073741824=true from uF (by simp only[lcS,lnN];omega),eC,
   show decide (((ns++ [y2,y3,y4]).length:Int)=0)=false from decide_eq_false (by rw[lnA];simp only[lcS];omega),Bool.not_false,eC,e8,aS,decide_eq_true trivial,aG,R.sm r e4,aN]
  simp only[];rw[aG,e9,aN,e10,aN];simp only[J0x2,B0x2];cases z<;>rfl
 cases decide (d<(10:Int))with
 |true=>exact key _
 |false=>exact key _
end Go.TV
