import Derived.Test.YtgddcoodncbkoaaGreatDoorKy
import Derived.Test.YtgddcoodncbkoaaGreatDoorKr
import Derived.Test.YtgddcoodncbkoaaGreatDoorKn
import Derived.Test.YtgddcoodncbkoaaGreatDoorKo
import Derived.Test.YtgddcoodncbkoaaGreatDoorKp
set_option linter.unusedVariables false
set_option linter.unusedSimpArgs false
set_option linter.constructorNameAsVariable false
set_option linter.defProp false
namespace Go.TV
open Go.AI Go.PI Go.Proofs
set_option maxRecDepth 20000
def nF{R:G.U}(h:R.stops=[]):jR R []=R:=by cases R;cases h;rfl
def rp_p1{c:TC0}{L:Nat}{n6:Int->List G.Y->List G.I->Int->G.U->Rt}{vs:List G.Y}{s:List G.I}{i:Nat}{x:G.Y}(hi:i<1000000000)(hs:s.length<1000000): ∀(l:List G.I) (k m:Nat) (R:G.U),s.drop k=l->l.length<m->R.stops.length+(st9 x l).length<16000000->
    aA0 c L n6 m (s.length:Int) s (k:Int) (i:Int) (vs.length:Int) vs s R x=n6 (vs.length:Int) vs s ((i+1:Nat):Int) (jR R (R.stops++st9 x l)):=by
 intro l;induction l with
 |nil=>
  intro k m R h1 h3 _;obtain⟨m,rfl⟩:=sK m 1 (by simp at h3;omega)
  have e1:=aH h1;have e3:decide ((k:Int)<(s.length:Int))=false:=by simp;omega
  rw[aA0,B24x7,e3,aC,aX (by omega),st9,apN];rfl
 |cons a l ih=>
  intro k m R h1 h3 h4;obtain⟨m,rfl⟩:=sK m 1 (by simp at h3;omega)
  obtain⟨a1,a2,a3⟩:=aI h1;have e3:decide ((k:Int)<(s.length:Int))=true:=by simp;omega
  have hj:aNX c L (aA0 c L n6 m) n6 false (k:Int) (s.length:Int) s (i:Int) (vs.length:Int) vs s R a x=aA0 c L n6 m (s.length:Int) s ((k+1:Nat):Int) (i:Int) (vs.length:Int) vs s R x:=by
   simp only[aNX,B24x8,J24x9,B24x9];rw[aC,aX (by omega)]
  rw[aA0,B24x7,e3,aG,aD,a1,aS];rw[st9]at h4⊢;by_cases e:a.var=x
  ·rw[decide_eq_true e,aG];by_cases e2:a.term.name=x
   ·rw[decide_eq_true e2,bnT,hj,if_neg λq=>q.2 e2]
    rw[if_neg λq=>q.2 e2]at h4
    exact ih (k+1) m R a3 (by simp at h3;omega) h4
   ·rw[if_pos ⟨e,e2⟩]at h4⊢;simp only[lcS]at h4;rw[decide_eq_false e2,Bool.not_false];simp only[aNX,B24x8,J24x9,B24x9];rw[aG];show chk (Nat.ble ((R.stops.length+1)*64) 1073741824) _=_;rw[ble64 (by omega),eC,aX (by omega)]
    refine(ih (k+1) m (jR R (R.stops++ [⟨x,a.term.name⟩])) a3 (by simp at h3;omega) (by show(R.stops++ [_]).length+_<_;rw[lnA];simp only[lcS,lnN];omega)).trans ?_
    show n6 _ _ _ _ (jR R ((R.stops++ [_])++st9 x l))=_;rw[apA];rfl
  ·rw[decide_eq_false e,aC,hj,if_neg λq=>e q.1]
   rw[if_neg λq=>e q.1]at h4
   exact ih (k+1) m R a3 (by simp at h3;omega) h4
def rp_p2{c:TC0}{L:Nat}{vs:List G.Y}{s:List G.I}(hv:vs.length<1000000)(hs:s.length<1000000)(hL:s.length<L): ∀(l:List G.Y) (k m:Nat) (R:G.U),vs.drop k=l->l.length<m->R.stops.length+(stq l s).length<16000000->
    aCB c L m (vs.length:Int) vs s (k:Int) R=some [yI (0:Int),yR 5 (jR R (R.stops++stq l s))]:=by
 intro l;induction l with
 |nil=>
  intro k m R h1 h3 _;obtain⟨m,rfl⟩:=sK m 1 (by simp at h3;omega)
  have e1:=aH h1;have e3:decide ((k:Int)<(vs.length:Int))=false:=by simp;omega
  rw[aCB,B24x6,e3,aC,stq,apN];rfl
 |cons x l ih=>
  intro k m R h1 h3 h4;obtain⟨m,rfl⟩:=sK m 1 (by simp at h3;omega)
  obtain⟨a1,a2,a3⟩:=aI h1;have e3:decide ((k:Int)<(vs.length:Int))=true:=by simp;omega
  rw[stq,lnA]at h4;rw[aCB,B24x6,e3,aG,aD,a1,aS,stq];have h5:=rp_p1 (c:=c) (L:=L) (n6:=aCB c L m) (vs:=vs) (i:=k) (x:=x) (by omega) hs s 0 L R rfl hL (by omega)
  refine h5.trans ?_;refine(ih (k+1) m (jR R (R.stops++st9 x s)) a3 (by simp at h3;omega) (by show(R.stops++_).length+_<_;rw[lnA];omega)).trans ?_
  show some [_,(yR 5 (jR R ((R.stops++st9 x s)++stq l s)):TV U0.D)]=_;rw[apA]
def rp_ds{c:TC0}{L M:Nat}(E:MkV c M){s:List G.I}{R:G.U}(hR:R.stops=[])(hs:s.length<1000000)(hL:s.length<L)(hsM:s.length<=M)(hv:bM [R.left]<=M)(hl:(bD [] [R.left]).length<1000000)(dj:(bD [] [R.left]).length<L): ∀(l:List G.I) (k m:Nat) (seen:List G.Y),s.drop k=l->l.length<m->seen.length=k->
    aEV c L m (s.length:Int) s seen (k:Int) s R=some [yI (0:Int),yR 5 (jR R (if dst seen l=true then stq (bD [] [R.left]) s else []))]:=by
 intro l;induction l with
 |nil=>
  intro k m seen h1 h3 _;obtain⟨m,rfl⟩:=sK m 1 (by simp at h3;omega)
  have e1:=aH h1;have e3:decide ((k:Int)<(s.length:Int))=false:=by simp;omega
  have h8:=zO (vs:=bD [] [R.left]) (s:=s) (zI List.nodup_nil);rw[aEV,B24x4,e3,aC,E.vP [R.left] hv,dG,dst];have h9:=rp_p2 (c:=c) (L:=L) hl hs hL (bD [] [R.left]) 0 L R rfl dj (by rw[hR];simp only[lnN];omega)
  rw[hR]at h9;exact h9
 |cons a l ih=>
  intro k m seen h1 h3 ge;obtain⟨m,rfl⟩:=sK m 1 (by simp at h3;omega)
  obtain⟨a1,a2,a3⟩:=aI h1;have e3:decide ((k:Int)<(s.length:Int))=true:=by simp;omega
  rw[aEV,B24x4,e3,aG,aD,a1,aS,dst];by_cases hk:a.term.kind=1
  ·rw[decide_eq_true hk,bnT,aC,Bool.true_and,E.ct seen _ (by omega),aN]
   simp only[J24x5,B24x5];by_cases hm:a.term.name∈seen
   ·rw[decide_eq_true hm,aG];show some [_,(yR 5 R:TV U0.D)]=some [_,(yR 5 (jR R []):TV U0.D)];rw[nF hR]
   ·rw[decide_eq_false hm,aC];show chk (Nat.ble ((seen.length+1)*32) 1073741824) _=_;rw[ble32 (by omega),eC,aX (by omega)]
    exact ih (k+1) m (seen++ [a.term.name]) a3 (by simp at h3;omega) (by rw[lnA,ge];rfl)
  ·rw[decide_eq_false hk,Bool.not_false,aG];simp only[J24x5,B24x5];show some [_,(yR 5 R:TV U0.D)]=some [_,(yR 5 (jR R []):TV U0.D)];rw[nF hR]
def uF{a b:Nat}(h:a+b<30000000):Nat.ble ((a+b)*32) 1073741824=true:=by
 apply Nat.ble_eq_true_of_le;omega
def bT(l:List G.T):(bD [] l).length<=bM l:=by
 have:=zJ (l:=l) (λx _=>rU x) []
 simp only[lnN,Nat.zero_add]at this;exact this
def rw_c{c1 c2:TC0}{L M:Nat}(E1:MkV c1 M)(E2:MkV c2 M)(hM:M<200000)(hL:M<L){R:G.U}(hR:R.stops=[])(hl:tsz R.left+bM R.hyps+1<=M)(hr:tsz R.right+1<=M)
    (bw: ∀l r:G.T,tsz l+1<=M->tsz r<=M->c2 47 [yR 3 l,yR 3 r]=some [yS 4 (stO l r)]):
    ∃o,PcR (aNY c1 L R) o/\RcR (J6x8 c2 L (bD [] R.hyps) R zRl) o/\∀Q,o= .ok Q->Q=jR R (stO R.left R.right):=by
 simp only[aNY,B24x2,J6x8,B6x8];by_cases hk:R.left.kind=3
 ·rw[decide_eq_true hk,bnT,aC,aC,E1.lP,fZ,E2.lR,fZ];simp only[];by_cases hn:R.left.name=⟨eB,[105,102]⟩
  ·rw[decide_eq_true hn];exact aAG (r:=R) (e:=40) (by decide) rfl rfl
  ·rw[decide_eq_false hn];simp only[J24x3,B24x3,J6x15,B6x15];have v1:=bT [R.right];have v2:=bT ([R.left]++R.hyps);have v3:=bT R.hyps;have v4:=bT [R.left];have t1:bM [R.right]=tsz R.right+1:=by simp[bM]
   have t2:bM ([R.left]++R.hyps)=tsz R.left+bM R.hyps+1:=by simp only[cnA,nlA,bM]
   have t4:bM [R.left]=tsz R.left+1:=by simp[bM]
   have l1:=bF R.hyps;rw[aC,aC,E1.vP [R.right] (by omega),dG,E2.vR [R.right] (by omega),dG]
   have b1:Nat.ble ((([R.left]:List G.T).length+R.hyps.length)*176) 1073741824=true:=lV (by simp only[lcS,lnN];omega)
   have b2:Nat.ble ((([]:List G.Y).length+(bD [] R.hyps).length)*32) 1073741824=true:=uF (by simp only[lnN];omega)
   have b3:Nat.ble (((([]:List G.Y)++bD [] R.hyps).length+(bD [] [R.left]).length)*32) 1073741824=true:=uF (by simp only[nlA];omega)
   rw[b1,eC,b2,eC,E1.vP _ (by omega),dG,E2.vR [R.left] (by omega),dG]
   simp only[];rw[b3,eC,E1.wP _ _ (by omega) (by omega),aN,E2.wR _ _ (by omega) (by simp only[nlA,lnA];omega),aN]
   have hw:wit (bD [] [R.right]) ((([]:List G.Y)++bD [] R.hyps)++bD [] [R.left])=wit (bD [] [R.right]) (bD [] ([R.left]++R.hyps)):=aI9 λs=>by
    rw[nlA,List.mem_append,jG,jG,jG];simp[or_comm]
   rw[hw];simp only[];cases wit (bD [] [R.right]) (bD [] ([R.left]++R.hyps))with
   |false=>exact aAG (r:=R) (e:=41) (by decide) rfl rfl
   |true=>
    rw[bnT,aC,aC,E1.eP _ _ (by omega),aN]
    refine⟨.ok (jR R (stO R.left R.right)),?_,?_,λQ h=>by cases h;rfl⟩
    ·show cnd (decide (R.left=R.right)) _ _=_;by_cases e:R.left=R.right
     ·have h5:stO R.left R.right=[]:=by
       unfold stO;cases mtT R.left R.right []with
       |none=>rfl
       |some s=>simp only[];rw[if_pos e]
      rw[decide_eq_true e,aG,h5,nF hR]
     ·unfold stO;rw[decide_eq_false e,aC];rcases jQ (E1.mP R.left R.right (by omega) (by omega))with⟨s,e1,e2⟩|⟨e1,s,e2⟩
      ·have h1:=(aBu (B:=tsz R.right) R.left R.right [] s e1 (nlR _) (λx hx=>by cases hx)).2
       simp only[lnN]at h1;rw[e1,e2,gL];simp only[];rw[aG,if_neg e];exact rp_ds E1 hR (by omega) (by omega) (by omega) (by omega) (by omega) (by omega) s 0 L [] rfl (by omega) rfl
      ·rw[e1,e2,gL];simp only[];rw[aC,nF hR]
    ·have h6:c2 47 [yR 3 R.left,yR 3 R.right]=some [yS 4 (stO R.left R.right)]:=bw _ _ (by omega) (by omega)
     show obL [.sl (.rc 4)] (c2 47 [yR 3 R.left,yR 3 R.right]) _=_;rw[h6];rfl
 ·rw[decide_eq_false hk,Bool.not_false,aG,aG];exact aAG (r:=R) (e:=40) (by decide) rfl rfl
def rw_b{c1 c2:TC0}{L M:Nat}(E1:MkV c1 M)(E2:MkV c2 M)(hM:M<200000)(hL:M<L){R:G.U}{d:G.T}(hR:R.stops=[])(hl:tsz d+bM R.hyps+40<=M)
    (bw: ∀l r:G.T,tsz l+1<=M->tsz r<=M->c2 47 [yR 3 l,yR 3 r]=some [yS 4 (stO l r)]) (b:Bool) (hb:b=true->d.args.length=2):
    ∃o,PcR (J24x1 c1 L b R d) o/\RcR (J6x1 c2 L b (bD [] R.hyps) d R zRl) o/\∀Q,o= .ok Q->∃(e:G.Y) (l r:G.T),Q=⟨R.name,R.cls,R.hyps,e,l,r,R.terms,R.tset,stO l r,R.arg,R.inner⟩/\tsz l<=tsz d/\tsz r<=tsz d+20:=by
 have key: ∀(e:G.Y) (l r:G.T),tsz l<=tsz d->tsz r<=tsz d+20->∃o,PcR (aNY c1 L ⟨R.name,R.cls,R.hyps,e,l,r,R.terms,R.tset,R.stops,R.arg,R.inner⟩) o/\RcR (J6x8 c2 L (bD [] R.hyps) ⟨R.name,R.cls,R.hyps,e,l,r,R.terms,R.tset,R.stops,R.arg,R.inner⟩ zRl) o/\
      ∀Q,o= .ok Q->∃(e:G.Y) (l r:G.T),Q=⟨R.name,R.cls,R.hyps,e,l,r,R.terms,R.tset,stO l r,R.arg,R.inner⟩/\tsz l<=tsz d/\tsz r<=tsz d+20:=λe l r h1 h2=>by
  obtain⟨o,g1,g2,g3⟩:=rw_c E1 E2 hM hL (R:=⟨R.name,R.cls,R.hyps,e,l,r,R.terms,R.tset,R.stops,R.arg,R.inner⟩) hR (by show tsz l+bM R.hyps+1<=M;omega) (by show tsz r+1<=M;omega) bw
  exact⟨o,g1,g2,λQ hQ=>⟨e,l,r,g3 Q hQ,h1,h2⟩⟩
 have z1:tsz nlT<=20:=by decide
 have z2:tsz trT<=20:=by decide
 simp only[J24x1,B24x1,J6x1,B6x1];cases b with
 |true=>
  have h2:=hb rfl;obtain⟨x,ex,sx⟩:=eD (t:=d) (k:=0) (by omega)
  obtain⟨y,ey,sy⟩:=eD (t:=d) (k:=1) (by omega)
  have ix:idx d.args (0:Int)=some x:=(aD d.args 0).trans ex;have iy:idx d.args (1:Int)=some y:=(aD d.args 1).trans ey;rw[aG,aG,ix,aS,aS,iy,aS,aS];exact key d.name x y (by omega) (by omega)
 |false=>
  rw[aC,aC,E1.icP,aN,E2.icR,aN];simp only[];cases hi:isA d [110,111,116] 1 with
  |true=>
   obtain⟨_,_,h3⟩:=lU (k:=1) hi;obtain⟨x,ex,sx⟩:=eD (t:=d) (k:=0) (by omega)
   have ix:idx d.args (0:Int)=some x:=(aD d.args 0).trans ex;rw[aG,aG,ix,aS,aS,E1.lP,fZ,E1.nP,aFZ,E1.cP,rI,E2.lR,fZ,E2.nR,rI];exact key ⟨eB,equB⟩ x nlT (by omega) (by omega)
  |false=>
   rw[aC,aC,E1.lP,fZ,E1.tP,aFZ,E1.cP,rI,E2.lR,fZ,E2.tR,aFZ,E2.cR,rI];exact key ⟨eB,iffB⟩ d trT (by omega) (by omega)
def rw_both{c1 c2:TC0}{L M:Nat}(E1:MkV c1 M)(E2:MkV c2 M)(hM:M<200000)(hL:M<L){R:G.U}{d:G.T}{w:List G.E}{rel:G.Y->Bool}(hR:R.stops=[])(hl:tsz d+bM R.hyps+40<=M)
    (bw: ∀l r:G.T,tsz l+1<=M->tsz r<=M->c2 47 [yR 3 l,yR 3 r]=some [yS 4 (stO l r)])
    (h1: ∀s:G.Y,c1 10 [yS 16 w,yR 1 s]=some [yB (rel s)]) (h2: ∀s:G.Y,c2 11 [yS 16 w,yR 1 s]=some [yB (rel s)]):
    ∃o,PcR (F24 c1 L w d R) o/\RcR (cnd (decide (d.kind=(3:Int))) (cnd (decide ((List.length d.args:Int)=(2:Int))) (obL (D:=U0.D) [.bool] (c2 11 [yS 16 w,yR 1 d.name]) λ(r3:Bool×Unit)=>
      J6x1 c2 L r3.1 (bD [] R.hyps) d R zRl) (J6x1 c2 L false (bD [] R.hyps) d R zRl)) (J6x1 c2 L false (bD [] R.hyps) d R zRl)) o/\
      ∀Q,o= .ok Q->∃(e:G.Y) (l r:G.T),Q=⟨R.name,R.cls,R.hyps,e,l,r,R.terms,R.tset,stO l r,R.arg,R.inner⟩/\tsz l<=tsz d/\tsz r<=tsz d+20:=by
 rw[F24,B24x0];by_cases hk:d.kind=3
 ·rw[decide_eq_true hk,aG,aG];by_cases hn:d.args.length=2
  ·rw[show decide ((d.args.length:Int)=2)=true from decide_eq_true (by omega),aG,aG,h1,aN,h2,aN]
   exact rw_b E1 E2 hM hL hR hl bw (rel d.name) λ_=>hn
  ·rw[show decide ((d.args.length:Int)=2)=false from decide_eq_false (by omega),aC,aC]
   exact rw_b E1 E2 hM hL hR hl bw false λh=>by cases h
 ·rw[decide_eq_false hk,aC,aC];exact rw_b E1 E2 hM hL hR hl bw false λh=>by cases h
end Go.TV
namespace Go.TV
open Go.AI Go.PI Go.Proofs
set_option maxRecDepth 20000
noncomputable section
variable(c:TC0)(e:Cu)(L:Nat)
def aH3(c:TC0)(e:Cu):Kt:=xK aDr
def q25x1:Kt:=xT aDr c e (pw 6 47) (aH3 c e)
def q25x2:Kt:=xT aDr c e (pw 9 495) (aH3 c e)
def B25x0(f:Bool->G.U->G.T->Rt)(b:G.T)(a:G.U):Rt:=
 obL [.bool] (c 63 [yR 3 b,yT [110,111,116],yI 1]) λ(d:Bool×Unit)=>
 cnd d.1 (ob (idx b.args 0) λg=>
 f d.1 (G.U.mk a.name a.cls a.hyps a.equiv a.left b a.terms a.tset a.stops a.arg a.inner) g) (f d.1 (G.U.mk a.name a.cls a.hyps a.equiv a.left b a.terms a.tset a.stops a.arg a.inner) b)
def B25x1(b:Bool->Bool->G.U->G.T->Rt)(d:Bool)(f:G.U)(a:G.T):Rt:=
 cnd (!decide (a.kind=3)) (b true d f a) (cnd (!decide ((List.length a.args:Int)=1)) (b true d f a) (obL [.rc 1] (c 51 [yT [110,111,116]]) λ(g:G.Y×Unit)=>
 b (decide (a.name=g.1)) d f a))
def X25x1:=aIM (xD aDr e (pw 5 15) aMd (aH3 c e))
def B25x2(f:Bool->Bool->Int->G.U->G.T->Rt)(i:Bool)(g:Bool)(b:G.U)(h:G.T):Rt:=
 cnd i (some [yI 40,yR 5 b]) (obL [i6,.bool] (c 73 [yR 1 h.name]) λ(d:Int×Bool×Unit)=>
 ob (idx h.args 0) λa=>
 cnd (!d.2.1) (f true g d.1 b a) (cnd (!decide (a.kind=3)) (f true g d.1 b a) (obL [.bool] (c 74 [yR 1 a.name]) λ(j:Bool×Unit)=>
 f (!j.1) g d.1 b a)))
def V25x2(n:Nt):Bool->Bool->G.U->G.T->Rt:=λx0 x1 x2 x3=>n [yB x0,yB x1,yR 5 x2,yR 3 x3]
def X25x2:=V25x2 (xD aDr e (pw 8 79) aMc (q25x1 c e))
def B25x3(c:TC0)(b:Int->G.U->G.T->Rt)(g:Bool)(h:Bool)(d:Int)(a:G.U)(f:G.T):Rt:=
 cnd g (some [yI 40,yR 5 a]) (cnd h (b (IntKind.i64.wrap ((BitVec.ofInt IntKind.i64.bits 2047&&& ~~~ BitVec.ofInt IntKind.i64.bits d).toNat:Int)) a f) (b d a f))
def V25x3(n:Nt):Bool->Bool->Int->G.U->G.T->Rt:=λx0 x1 x2 x3 x4=>n [yB x0,yB x1,yI x2,yR 5 x3,yR 3 x4]
def X25x3:=V25x3 (xD aDr e (pw 11 751) aMb (q25x2 c e))
def B25x4(d:Int)(a:G.U)(b:G.T):Rt:=
 obL [zS 1] (c 68 [yS 3 a.hyps]) λ(f:List G.Y×Unit)=>
 obL [zS 1] (c 68 [yS 3 ([b]:List G.T)]) λ(g:List G.Y×Unit)=>
 obL [.bool] (c 69 [yS 1 f.1,yS 1 g.1]) λ(h:Bool×Unit)=>
 cnd (!h.1) (some [yI 41,yR 5 (G.U.mk a.name a.cls a.hyps a.equiv b a.right ([b]:List G.T) d a.stops a.arg a.inner)]) (some [yI 0,yR 5 (G.U.mk a.name a.cls a.hyps a.equiv b a.right ([b]:List G.T) d a.stops a.arg a.inner)])
def V25x4(n:Nt):Int->G.U->G.T->Rt:=λx0 x1 x2=>n [yI x0,yR 5 x1,yR 3 x2]
def X25x4:=V25x4 (xD aDr e (pw 11 1007) aMa (aH3 c e))
def s25x0:aCN (xF aDr c e)=B25x0 c (X25x1 c e):=by kernel_rfl
def s25x1:aIM (xA aDr c e (pw 5 15) aMd (aH3 c e))=B25x1 c (X25x2 c e):=by kernel_rfl
def s25x2:V25x2 (xA aDr c e (pw 8 79) aMc (q25x1 c e))=B25x2 c (X25x3 c e):=by kernel_rfl
def s25x3:V25x3 (xA aDr c e (pw 11 751) aMb (q25x2 c e))=B25x3 c (X25x4 c e):=by kernel_rfl
def s25x4:V25x4 (xA aDr c e (pw 11 1007) aMa (aH3 c e))=B25x4 c:=by kernel_rfl
def J25x4(L:Nat):Int->G.U->G.T->Rt:=B25x4 c
def j25x4:X25x4 c (cu c L)=J25x4 c L:=by rw[X25x4,aK,s25x4];rfl
def J25x3:Bool->Bool->Int->G.U->G.T->Rt:=B25x3 c (J25x4 c L)
def j25x3:X25x3 c (cu c L)=J25x3 c L:=by rw[X25x3,aK,s25x3];simp only[j25x4];rfl
def J25x2:Bool->Bool->G.U->G.T->Rt:=B25x2 c (J25x3 c L)
def j25x2:X25x2 c (cu c L)=J25x2 c L:=by rw[X25x2,aK,s25x2];simp only[j25x3];rfl
def J25x1:Bool->G.U->G.T->Rt:=B25x1 c (J25x2 c L)
def j25x1:X25x1 c (cu c L)=J25x1 c L:=by rw[X25x1,aK,s25x1];simp only[j25x2];rfl
def F25:G.T->G.U->Rt:=B25x0 c (J25x1 c L)
def e25:aCN (xF aDr c (cu c L))=F25 c L:=by rw[s25x0];simp only[j25x1];rfl
def c25(a:G.T)(b:G.U)(L n:Nat):CTp L (n+1) 25 [yR 3 a,yR 5 b]=F25 (CTp L n) L a b:=by rw[<-e25];exact cg (x:=aDr) (by kernel_rfl) (by kernel_rfl) L n _
def q26x0(c:TC0)(e:Cu):Kt:=xK ii26
def B26x0(d:G.U->G.T->G.T->Rt)(f:G.T)(a:G.U):Rt:=
 cnd (decide ((List.length a.hyps:Int)=0)) (some [yI 40,yR 5 a]) (ob (idx a.hyps 0) λb=>
 obL [.bool] (c 63 [yR 3 b,yT [110,111,116],yI 1]) λ(g:Bool×Unit)=>
 cnd g.1 (ob (idx b.args 0) λh=>
 d a h f) (d a b f))
def B26x1(a:G.U)(b:G.T)(d:G.T):Rt:=
 cnd (!decide (b.kind=3)) (some [yI 40,yR 5 a]) (obL [zS 1] (c 68 [yS 3 ([d]:List G.T)]) λ(f:List G.Y×Unit)=>
 obL [zS 1] (c 68 [yS 3 a.hyps]) λ(g:List G.Y×Unit)=>
 obL [.bool] (c 69 [yS 1 f.1,yS 1 g.1]) λ(h:Bool×Unit)=>
 cnd (!h.1) (some [yI 41,yR 5 (G.U.mk a.name a.cls a.hyps a.equiv a.left d ([b]:List G.T) a.tset a.stops a.arg a.inner)]) (some [yI 0,yR 5 (G.U.mk a.name a.cls a.hyps a.equiv a.left d ([b]:List G.T) a.tset a.stops a.arg a.inner)]))
def X26x1:=V26x1 (xD ii26 e (pw 5 15) aL9 (q26x0 c e))
def s26x0:aCN (xF ii26 c e)=B26x0 c (X26x1 c e):=by kernel_rfl
def s26x1:V26x1 (xA ii26 c e (pw 5 15) aL9 (q26x0 c e))=B26x1 c:=by kernel_rfl
def J26x1(L:Nat):G.U->G.T->G.T->Rt:=B26x1 c
def j26x1:X26x1 c (cu c L)=J26x1 c L:=by rw[X26x1,aK,s26x1];rfl
def F26:G.T->G.U->Rt:=B26x0 c (J26x1 c L)
def e26:aCN (xF ii26 c (cu c L))=F26 c L:=by rw[s26x0];simp only[j26x1];rfl
def c26(a:G.T)(b:G.U)(L n:Nat):CTp L (n+1) 26 [yR 3 a,yR 5 b]=F26 (CTp L n) L a b:=by rw[<-e26];exact cg (x:=ii26) (by kernel_rfl) (by kernel_rfl) L n _
def q27x0(c:TC0)(e:Cu):Kt:=xK xG
def q27x1:Kt:=xT xG c e (pw 8 247) (q27x0 c e)
def q27x2:Kt:=bH U0 0 (q27x1 c e)
def q27x3(n2:Nt):Kt:=lpK U0 yG n2 (q27x2 c e)
def q27x4(n2:Nt):Kt:=xT xG c e (pw 14 14711) (q27x3 c e n2)
def q27x5(n2:Nt):Kt:=bH U0 1 (q27x4 c e n2)
def q27x6(n2:Nt):Kt:=bH U0 2 (q27x5 c e n2)
def q27x7(n3:Nt)(n2:Nt):Kt:=lpK U0 yF n3 (q27x6 c e n2)
def q27x8(n3:Nt)(n2:Nt):Kt:=xT xG c e (pw 22 3774839) (q27x7 c e n3 n2)
def q27x9(n3:Nt)(n2:Nt):Kt:=bH U0 3 (q27x8 c e n3 n2)
def B27x0(b:G.U->G.T->G.T->Rt)(a:G.T)(d:G.U):Rt:=
 obL [.bool] (c 63 [yR 3 a,yT [110,111,116],yI 1]) λ(f:Bool×Unit)=>
 cnd f.1 (ob (idx a.args 0) λg=>
 b d a g) (b d a a)
def B27x1(f:Int->List G.T->List G.Y->Int->G.U->Rt)(a:G.U)(b:G.T)(d:G.T):Rt:=
 obL [.bool] (c 63 [yR 3 d,yT [60],yI 2]) λ(g:Bool×Unit)=>
 cnd (!g.1) (some [yI 40,yR 5 a]) (chk (Nat.ble ((List.length ([b]:List G.T)+List.length a.hyps)*176) 1073741824)<|
 obL [zS 1] (c 68 [yS 3 (([b]:List G.T)++a.hyps)]) λ(h:List G.Y×Unit)=>
 f (List.length d.args:Int) d.args h.1 0 (G.U.mk a.name a.cls a.hyps a.equiv a.left b a.terms a.tset a.stops a.arg a.inner))
def X27x1:=V26x1 (xD xG e (pw 4 7) aL8 (q27x0 c e))
def B27x2(h:Int->List G.T->Int->Int->Int->List G.T->List G.Y->G.U->Rt)(d:Int)(f:List G.T)(i:List G.Y)(b:Int)(a:G.U):Rt:=
 cnd (decide (b<d)) (ob (idx f b) λj=>
 obL [zS 3] (c 75 [yR 3 j]) λ(g:List G.T×Unit)=>
 h (List.length g.1:Int) g.1 0 b d f i a) (cnd (decide ((List.length a.terms:Int)=0)) (some [yI 40,yR 5 a]) (some [yI 0,yR 5 a]))
def aCM(n:Nt):Int->List G.T->List G.Y->Int->G.U->Rt:=λx0 x1 x2 x3 x4=>n [yI x0,yS 3 x1,yS 1 x2,yI x3,yR 5 x4]
def X27x2:=aCM (xE xG e (pw 11 375) yG (q27x2 c e))
def B27x3(m:Bool->Int->Int->List G.T->Int->Int->List G.T->List G.Y->G.U->G.T->Rt)(o:Int->List G.T->List G.Y->Int->G.U->Rt)(g:Int)(h:List G.T)(b:Int)(i:Int)(j:Int)(l:List G.T)(d:List G.Y)(f:G.U):Rt:=
 cnd (decide (b<g)) (ob (idx h b) λa=>
 cnd (decide (a.kind=3)) (obL [.bool] (c 76 [yR 1 a.name]) λ(p:Bool×Unit)=>
 cnd (!p.1) (obL [zS 1] (c 68 [yS 3 ([a]:List G.T)]) λ(q:List G.Y×Unit)=>
 obL [.bool] (c 69 [yS 1 d,yS 1 q.1]) λ(s:Bool×Unit)=>
 cnd s.1 (obL [.bool] (c 77 [yS 3 f.terms,yR 3 a]) λ(t:Bool×Unit)=>
 m (!t.1) b g h i j l d f a) (m false b g h i j l d f a)) (m false b g h i j l d f a)) (m false b g h i j l d f a)) (o j l d (IntKind.i64.wrap (i+1)) f)
def aIK(n:Nt):Int->List G.T->Int->Int->Int->List G.T->List G.Y->G.U->Rt:=λx0 x1 x2 x3 x4 x5 x6 x7=>n [yI x0,yS 3 x1,yI x2,yI x3,yI x4,yS 3 x5,yS 1 x6,yR 5 x7]
def X27x3(n2:Nt):=aIK (xE xG e (pw 19 104823) yF (q27x6 c e n2))
def aOm(c:TC0)(b:Int->Int->List G.T->Int->Int->List G.T->List G.Y->G.U->Rt)(m:Bool)(d:Int)(f:Int)(g:List G.T)(h:Int)(i:Int)(j:List G.T)(l:List G.Y)(a:G.U)(o:G.T):Rt:=
 cnd m (chk (Nat.ble ((List.length a.terms+1)*176) 1073741824&&decide ((List.length a.terms:Int)=(List.length a.terms:Int)))<|
 b d f g h i j l (G.U.mk a.name a.cls a.hyps a.equiv a.left a.right (a.terms++ [o]) a.tset a.stops a.arg a.inner)) (b d f g h i j l a)
def V27x4(n:Nt):Bool->Int->Int->List G.T->Int->Int->List G.T->List G.Y->G.U->G.T->Rt:=λx0 x1 x2 x3 x4 x5 x6 x7 x8 x9=>n [yB x0,yI x1,yI x2,yS 3 x3,yI x4,yI x5,yS 3 x6,yS 1 x7,yR 5 x8,yR 3 x9]
def X27x4(n3:Nt)(n2:Nt):=V27x4 (xD xG e (pw 26 26843511) aL7 (q27x9 c e n3 n2))
def aOl(c:TC0)(a:Int->List G.T->Int->Int->Int->List G.T->List G.Y->G.U->Rt)(b:Int)(d:Int)(f:List G.T)(g:Int)(h:Int)(i:List G.T)(j:List G.Y)(l:G.U):Rt:=
 a d f (IntKind.i64.wrap (b+1)) g h i j l
def V27x5(n:Nt):Int->Int->List G.T->Int->Int->List G.T->List G.Y->G.U->Rt:=λx0 x1 x2 x3 x4 x5 x6 x7=>n [yI x0,yI x1,yS 3 x2,yI x3,yI x4,yS 3 x5,yS 1 x6,yR 5 x7]
def X27x5(n3:Nt)(n2:Nt):=V27x5 (xD xG e (pw 23 3774839) aL6 (q27x7 c e n3 n2))
def s27x0:aCN (xF xG c e)=B27x0 c (X27x1 c e):=by kernel_rfl
def s27x1:V26x1 (xA xG c e (pw 4 7) aL8 (q27x0 c e))=B27x1 c (X27x2 c e):=by kernel_rfl
def s27x2(n2:Nt):aCM (xA xG c e (pw 11 375) yG (lpK U0 yG n2 (q27x2 c e)))=B27x2 c (X27x3 c e n2):=by kernel_rfl
def s27x3(n3:Nt)(n2:Nt):aIK (xA xG c e (pw 19 104823) yF (lpK U0 yF n3 (q27x6 c e n2)))=B27x3 c (X27x4 c e n3 n2) (aCM n2):=by kernel_rfl
def s27x4(n3:Nt)(n2:Nt):V27x4 (xA xG c e (pw 26 26843511) aL7 (q27x9 c e n3 n2))=aOm c (X27x5 c e n3 n2):=by kernel_rfl
def s27x5(n3:Nt)(n2:Nt):V27x5 (xA xG c e (pw 23 3774839) aL6 (q27x7 c e n3 n2))=aOl c (aIK n3):=by kernel_rfl
def aNW(L:Nat)(n3:Int->List G.T->Int->Int->Int->List G.T->List G.Y->G.U->Rt)(n2:Int->List G.T->List G.Y->Int->G.U->Rt):Int->Int->List G.T->Int->Int->List G.T->List G.Y->G.U->Rt:=aOl c n3
def j27x5(n3:Nt)(n2:Nt):X27x5 c (cu c L) n3 n2=aNW c L (aIK n3) (aCM n2):=by rw[X27x5,aK,s27x5];rfl
def aIP(n3:Int->List G.T->Int->Int->Int->List G.T->List G.Y->G.U->Rt)(n2:Int->List G.T->List G.Y->Int->G.U->Rt):Bool->Int->Int->List G.T->Int->Int->List G.T->List G.Y->G.U->G.T->Rt:=aOm c (aNW c L n3 n2)
def j27x4(n3:Nt)(n2:Nt):X27x4 c (cu c L) n3 n2=aIP c L (aIK n3) (aCM n2):=by rw[X27x4,aK,s27x4];simp only[j27x5];rfl
def aCz(c:TC0)(L:Nat)(n2:Int->List G.T->List G.Y->Int->G.U->Rt):Nat->Int->List G.T->Int->Int->Int->List G.T->List G.Y->G.U->Rt
 |0=>λ_ _ _ _ _ _ _ _=>none
 |n+1=>B27x3 c (aIP c L (aCz c L n2 n) n2) n2
def u27x3(n2:Nt)(n:Nat):aIK (xL xG c L (pw 19 104823) yF (q27x6 c (cu c L) n2) n)=aCz c L (aCM n2) n:=by
 induction n with
 |zero=>rfl
 |succ n ih=>rw[dD,s27x3];simp only[j27x4,ih];rfl
def w27x3(n2:Nt):X27x3 c (cu c L) n2=aCz c L (aCM n2) L:=u27x3 c L n2 L
def aCA(c:TC0)(L:Nat):Nat->Int->List G.T->List G.Y->Int->G.U->Rt
 |0=>λ_ _ _ _ _=>none
 |n+1=>B27x2 c (aCz c L (aCA c L n) L)
def u27x2(n:Nat):aCM (xL xG c L (pw 11 375) yG (q27x2 c (cu c L)) n)=aCA c L n:=by
 induction n with
 |zero=>rfl
 |succ n ih=>rw[dD,s27x2];simp only[w27x3,ih];rfl
def w27x2:X27x2 c (cu c L)=aCA c L L:=u27x2 c L L
def J27x1:G.U->G.T->G.T->Rt:=B27x1 c (aCA c L L)
def j27x1:X27x1 c (cu c L)=J27x1 c L:=by rw[X27x1,aK,s27x1];simp only[w27x2];rfl
def F27:G.T->G.U->Rt:=B27x0 c (J27x1 c L)
def e27:aCN (xF xG c (cu c L))=F27 c L:=by rw[s27x0];simp only[j27x1];rfl
def c27(a:G.T)(b:G.U)(L n:Nat):CTp L (n+1) 27 [yR 3 a,yR 5 b]=F27 (CTp L n) L a b:=by rw[<-e27];exact cg (x:=xG) (by kernel_rfl) (by kernel_rfl) L n _
def q28x0(c:TC0)(e:Cu):Kt:=xK aDq
def q28x1:Kt:=xT aDq c e [1,1] (q28x0 c e)
def q28x2:Kt:=xT aDq c e (pw 4 15) (q28x0 c e)
def q28x3:Kt:=bH U0 0 (q28x2 c e)
def q28x4(n2:Nt):Kt:=lpK U0 yE n2 (q28x3 c e)
def q28x5(n2:Nt):Kt:=xT aDq c e (pw 10 919) (q28x4 c e n2)
def q28x6(n2:Nt):Kt:=bH U0 1 (q28x5 c e n2)
def B28x0(b:Bool->G.U->G.T->Rt)(a:G.T)(d:G.U):Rt:=
 obL [.bool] (c 63 [yR 3 a,yT [101,113,117,97,108],yI 2]) λ(f:Bool×Unit)=>
 cnd (!f.1) (b true d a) (ob (idx a.args 0) λg=>
 cnd (!decide (g.kind=3)) (b true d a) (ob (idx a.args 1) λh=>
 cnd (!decide (h.kind=1)) (b true d a) (ob (idx a.args 0) λi=>
 b (decide ((List.length i.args:Int)=0)) d a)))
def B28x1(c:TC0)(f:Int->List G.T->Int->G.U->G.T->G.T->Rt)(g:Bool)(b:G.U)(d:G.T):Rt:=
 cnd g (some [yI 40,yR 5 b]) (ob (idx d.args 0) λa=>
 ob (idx d.args 1) λh=>
 f (List.length a.args:Int) a.args 0 b a h)
def X28x1:=aIM (xD aDq e (pw 4 5) aL5 (q28x1 c e))
def B28x2(i:Bool->Int->Int->List G.T->G.U->G.T->G.T->Rt)(g:Int)(h:List G.T)(f:Int)(a:G.U)(b:G.T)(d:G.T):Rt:=
 cnd (decide (f<g)) (ob (idx h f) λj=>
 obL [zS 1] (c 68 [yS 3 ([j]:List G.T)]) λ(l:List G.Y×Unit)=>
 cnd (!decide (j.kind=3)) (i true f g h a b d) (cnd (!decide ((List.length l.1:Int)=1)) (i true f g h a b d) (ob (idx l.1 0) λm=>
 cnd (!decide (m=d.name)) (i true f g h a b d) (ob (slc b.args 0 f) λo=>
 obL [.bool] (c 77 [yS 3 o,yR 3 j]) λ(p:Bool×Unit)=>
 i p.1 f g h a b d)))) (chk (Nat.ble ((List.length ([]:List G.T)+List.length b.args)*176) 1073741824)<|
 obL [zS 1] (c 68 [yS 3 a.hyps]) λ(q:List G.Y×Unit)=>
 obL [.bool] (c 69 [yS 1 q.1,yS 1 ([d.name]:List G.Y)]) λ(s:Bool×Unit)=>
 cnd (!s.1) (some [yI 41,yR 5 (G.U.mk a.name a.cls a.hyps a.equiv b d (([]:List G.T)++b.args) a.tset a.stops a.arg a.inner)]) (some [yI 0,yR 5 (G.U.mk a.name a.cls a.hyps a.equiv b d (([]:List G.T)++b.args) a.tset a.stops a.arg a.inner)]))
def aNM(n:Nt):Int->List G.T->Int->G.U->G.T->G.T->Rt:=λx0 x1 x2 x3 x4 x5=>n [yI x0,yS 3 x1,yI x2,yR 5 x3,yR 3 x4,yR 3 x5]
def X28x2:=aNM (xE aDq e (pw 7 23) yE (q28x3 c e))
def B28x3(c:TC0)(b:Int->List G.T->Int->G.U->G.T->G.T->Rt)(d:Bool)(f:Int)(g:Int)(h:List G.T)(a:G.U)(i:G.T)(j:G.T):Rt:=
 cnd d (some [yI 40,yR 5 a]) (b g h (IntKind.i64.wrap (f+1)) a i j)
def V28x3(n:Nt):Bool->Int->Int->List G.T->G.U->G.T->G.T->Rt:=λx0 x1 x2 x3 x4 x5 x6=>n [yB x0,yI x1,yI x2,yS 3 x3,yR 5 x4,yR 3 x5,yR 3 x6]
def X28x3(n2:Nt):=V28x3 (xD aDq e (pw 15 14743) aL4 (q28x6 c e n2))
def s28x0:aCN (xF aDq c e)=B28x0 c (X28x1 c e):=by kernel_rfl
def s28x1:aIM (xA aDq c e (pw 4 5) aL5 (q28x1 c e))=B28x1 c (X28x2 c e):=by kernel_rfl
def s28x2(n2:Nt):aNM (xA aDq c e (pw 7 23) yE (lpK U0 yE n2 (q28x3 c e)))=B28x2 c (X28x3 c e n2):=by kernel_rfl
def s28x3(n2:Nt):V28x3 (xA aDq c e (pw 15 14743) aL4 (q28x6 c e n2))=B28x3 c (aNM n2):=by kernel_rfl
def J28x3(L:Nat)(n2:Int->List G.T->Int->G.U->G.T->G.T->Rt):Bool->Int->Int->List G.T->G.U->G.T->G.T->Rt:=B28x3 c n2
def j28x3(n2:Nt):X28x3 c (cu c L) n2=J28x3 c L (aNM n2):=by rw[X28x3,aK,s28x3];rfl
def aCy(c:TC0)(L:Nat):Nat->Int->List G.T->Int->G.U->G.T->G.T->Rt
 |0=>λ_ _ _ _ _ _=>none
 |n+1=>B28x2 c (J28x3 c L (aCy c L n))
def u28x2(n:Nat):aNM (xL aDq c L (pw 7 23) yE (q28x3 c (cu c L)) n)=aCy c L n:=by
 induction n with
 |zero=>rfl
 |succ n ih=>rw[dD,s28x2];simp only[j28x3,ih];rfl
def w28x2:X28x2 c (cu c L)=aCy c L L:=u28x2 c L L
def J28x1:Bool->G.U->G.T->Rt:=B28x1 c (aCy c L L)
def j28x1:X28x1 c (cu c L)=J28x1 c L:=by rw[X28x1,aK,s28x1];simp only[w28x2];rfl
def F28:G.T->G.U->Rt:=B28x0 c (J28x1 c L)
def e28:aCN (xF aDq c (cu c L))=F28 c L:=by rw[s28x0];simp only[j28x1];rfl
def c28(a:G.T)(b:G.U)(L n:Nat):CTp L (n+1) 28 [yR 3 a,yR 5 b]=F28 (CTp L n) L a b:=by rw[<-e28];exact cg (x:=aDq) (by kernel_rfl) (by kernel_rfl) L n _
def q29x0(c:TC0)(e:Cu):Kt:=xK aKW
def q29x1:Kt:=xT aKW c e [1,1] (q29x0 c e)
def q29x2:Kt:=xT aKW c e (pw 4 15) (q29x0 c e)
def B29x0(b:Bool->List G.E->G.U->G.T->Rt)(d:List G.E)(a:G.T)(f:G.U):Rt:=
 obL [.bool] (c 63 [yR 3 a,yT [105,102],yI 3]) λ(g:Bool×Unit)=>
 cnd (!g.1) (b true d f a) (ob (idx a.args 0) λh=>
 obL [.bool] (c 63 [yR 3 h,yT [98,111,111,108,101,97,110,112],yI 1]) λ(i:Bool×Unit)=>
 cnd (!i.1) (b true d f a) (ob (idx a.args 0) λj=>
 ob (idx j.args 0) λl=>
 b (!decide (l.kind=3)) d f a))
def B29x1(d:Bool->G.U->G.Y->Rt)(g:Bool)(h:List G.E)(b:G.U)(f:G.T):Rt:=
 cnd g (some [yI 40,yR 5 b]) (ob (idx f.args 0) λi=>
 ob (idx i.args 0) λa=>
 obL [.rc 8,.bool] (c 78 [yS 16 h,yR 1 a.name]) λ(j:G.F×Bool×Unit)=>
 cnd (!j.2.1) (d true b a.name) (obL [.rc 3] (c 79 [yR 1 a.name]) λ(l:G.T×Unit)=>
 obL [.bool] (c 70 [yR 3 f,yR 3 l.1]) λ(m:Bool×Unit)=>
 d (!m.1) b a.name))
def V29x1(n:Nt):Bool->List G.E->G.U->G.T->Rt:=λx0 x1 x2 x3=>n [yB x0,yS 16 x1,yR 5 x2,yR 3 x3]
def X29x1:=V29x1 (xD aKW e (pw 4 5) aL3 (q29x1 c e))
def B29x2(c:TC0)(b:Bool)(a:G.U)(d:G.Y):Rt:=
 cnd b (some [yI 40,yR 5 a]) (some [yI 0,yR 5 (G.U.mk a.name a.cls a.hyps d a.left a.right a.terms a.tset a.stops a.arg a.inner)])
def V29x2(n:Nt):Bool->G.U->G.Y->Rt:=λx0 x1 x2=>n [yB x0,yR 5 x1,yR 1 x2]
def X29x2:=V29x2 (xD aKW e (pw 7 55) aL2 (q29x2 c e))
def s29x0:aIN (xF aKW c e)=B29x0 c (X29x1 c e):=by kernel_rfl
def s29x1:V29x1 (xA aKW c e (pw 4 5) aL3 (q29x1 c e))=B29x1 c (X29x2 c e):=by kernel_rfl
def s29x2:V29x2 (xA aKW c e (pw 7 55) aL2 (q29x2 c e))=B29x2 c:=by kernel_rfl
def J29x2(L:Nat):Bool->G.U->G.Y->Rt:=B29x2 c
def j29x2:X29x2 c (cu c L)=J29x2 c L:=by rw[X29x2,aK,s29x2];rfl
def J29x1:Bool->List G.E->G.U->G.T->Rt:=B29x1 c (J29x2 c L)
def j29x1:X29x1 c (cu c L)=J29x1 c L:=by rw[X29x1,aK,s29x1];simp only[j29x2];rfl
def F29:List G.E->G.T->G.U->Rt:=B29x0 c (J29x1 c L)
def e29:aIN (xF aKW c (cu c L))=F29 c L:=by rw[s29x0];simp only[j29x1];rfl
def c29(a:List G.E)(b:G.T)(d:G.U)(L n:Nat):CTp L (n+1) 29 [yS 16 a,yR 3 b,yR 5 d]=F29 (CTp L n) L a b d:=by rw[<-e29];exact cg (x:=aKW) (by kernel_rfl) (by kernel_rfl) L n _
def q30x0(c:TC0)(e:Cu):Kt:=xK rX
def q30x1:Kt:=xT rX c e (pw 4 15) (q30x0 c e)
def q30x2:Kt:=xT rX c e (pw 6 63) (q30x0 c e)
def q30x3:Kt:=xT rX c e (pw 8 255) (q30x0 c e)
def q30x4:Kt:=bH U0 0 (q30x3 c e)
def q30x5(n3:Nt):Kt:=lpK U0 yD n3 (q30x4 c e)
def q30x6(n3:Nt):Kt:=xT rX c e (pw 14 14719) (q30x5 c e n3)
def q30x7(n3:Nt):Kt:=bH U0 1 (q30x6 c e n3)
def q30x8(n3:Nt):Kt:=xT rX c e (pw 17 104831) (q30x7 c e n3)
def q30x9:Kt:=xT rX c e (pw 9 511) (q30x0 c e)
def B30x0(f:Bool->G.U->G.T->G.T->Rt)(h:List G.E)(g:G.T)(d:G.U):Rt:=
 obL [.bool] (c 63 [yR 3 g,yT [105,109,112,108,105,101,115],yI 2]) λ(i:Bool×Unit)=>
 cnd (!i.1) (some [yI 40,yR 5 d]) (ob (idx g.args 0) λa=>
 ob (idx g.args 1) λb=>
 cnd (!decide (a.kind=3)) (f true d a b) (cnd (!decide ((List.length a.args:Int)=2)) (f true d a b) (cnd (!decide (b.kind=3)) (f true d a b) (cnd (!decide ((List.length b.args:Int)=2)) (f true d a b) (obL [.bool] (c 10 [yS 16 h,yR 1 a.name]) λ(j:Bool×Unit)=>
 cnd (!j.1) (f true d a b) (obL [.bool] (c 10 [yS 16 h,yR 1 b.name]) λ(l:Bool×Unit)=>
 f (!l.1) d a b))))))
def B30x1(i:Bool->G.U->G.T->G.T->G.T->G.T->G.T->G.T->Rt)(l:Bool)(h:G.U)(a:G.T)(b:G.T):Rt:=
 cnd l (some [yI 40,yR 5 h]) (ob (idx a.args 0) λd=>
 ob (idx a.args 1) λf=>
 ob (idx b.args 0) λg=>
 ob (idx b.args 1) λj=>
 cnd (!decide (d.kind=1)) (i true h j d f g a b) (cnd (!decide (f.kind=1)) (i true h j d f g a b) (cnd (decide (d.name=f.name)) (i true h j d f g a b) (cnd (!decide (g.kind=3)) (i true h j d f g a b) (obL [.rc 1] (c 51 [yT [105,102]]) λ(m:G.Y×Unit)=>
 i (decide (g.name=m.1)) h j d f g a b)))))
def V30x1(n:Nt):Bool->G.U->G.T->G.T->Rt:=λx0 x1 x2 x3=>n [yB x0,yR 5 x1,yR 3 x2,yR 3 x3]
def X30x1:=V30x1 (xD rX e (pw 6 23) aL0 (q30x1 c e))
def B30x2(c:TC0)(d:Int->List G.T->Int->Int->G.U->G.T->G.T->G.T->G.T->G.T->G.T->Rt)(f:Bool)(b:G.U)(g:G.T)(h:G.T)(i:G.T)(a:G.T)(j:G.T)(l:G.T):Rt:=
 cnd f (some [yI 40,yR 5 b]) (d (List.length a.args:Int) a.args 0 (-1) b g h i a j l)
def V30x2(n:Nt):Bool->G.U->G.T->G.T->G.T->G.T->G.T->G.T->Rt:=λx0 x1 x2 x3 x4 x5 x6 x7=>n [yB x0,yR 5 x1,yR 3 x2,yR 3 x3,yR 3 x4,yR 3 x5,yR 3 x6,yR 3 x7]
def X30x2:=V30x2 (xD rX e (pw 8 95) aLZ (q30x2 c e))
def B30x3(q:Bool->Int->Int->Int->List G.T->Int->G.U->G.T->G.T->G.T->G.T->G.T->G.T->G.T->Rt)(s:Bool->Int->G.U->G.T->G.T->G.T->Rt)(l:Int)(m:List G.T)(a:Int)(d:Int)(g:G.U)(o:G.T)(p:G.T)(h:G.T)(b:G.T)(i:G.T)(j:G.T):Rt:=
 cnd (decide (a<l)) (ob (idx m a) λf=>
 cnd (!decide (f.kind=1)) (q true a a l m d g f o p h b i j) (cnd (decide (f.name=h.name)) (q true a a l m d g f o p h b i j) (ob (slc b.args 0 a) λt=>
 obL [.bool] (c 77 [yS 3 t,yR 3 f]) λ(u:Bool×Unit)=>
 q u.1 a a l m d g f o p h b i j))) (cnd (decide (d<0)) (s true d g b i j) (obL [.rc 3] (c 80 [yR 3 b,yR 3 p,yR 3 h]) λ(v:G.T×Unit)=>
 obL [.bool] (c 70 [yR 3 o,yR 3 v.1]) λ(w:Bool×Unit)=>
 s (!w.1) d g b i j))
def aIJ(n:Nt):Int->List G.T->Int->Int->G.U->G.T->G.T->G.T->G.T->G.T->G.T->Rt:=λx0 x1 x2 x3 x4 x5 x6 x7 x8 x9 x10=>n [yI x0,yS 3 x1,yI x2,yI x3,yR 5 x4,yR 3 x5,yR 3 x6,yR 3 x7,yR 3 x8,yR 3 x9,yR 3 x10]
def X30x3:=aIJ (xE rX e (pw 11 383) yD (q30x4 c e))
def B30x4(c:TC0)(d:Int->Int->List G.T->Int->G.U->G.T->G.T->G.T->G.T->G.T->G.T->Rt)(p:Bool)(q:Int)(f:Int)(g:Int)(h:List G.T)(s:Int)(a:G.U)(t:G.T)(i:G.T)(b:G.T)(j:G.T)(l:G.T)(m:G.T)(o:G.T):Rt:=
 cnd p (some [yI 40,yR 5 a]) (cnd (decide (t.name=b.name)) (d f g h q a i b j l m o) (d f g h s a i b j l m o))
def V30x4(n:Nt):Bool->Int->Int->Int->List G.T->Int->G.U->G.T->G.T->G.T->G.T->G.T->G.T->G.T->Rt:=λx0 x1 x2 x3 x4 x5 x6 x7 x8 x9 x10 x11 x12 x13=>n [yB x0,yI x1,yI x2,yI x3,yS 3 x4,yI x5,yR 5 x6,yR 3 x7,yR 3 x8,yR 3 x9,yR 3 x10,yR 3 x11,yR 3 x12,yR 3 x13]
def X30x4(n3:Nt):=V30x4 (xD rX e (pw 19 170367) aLY (q30x8 c e n3))
def B30x5(c:TC0)(b:Bool)(d:Int)(a:G.U)(f:G.T)(g:G.T)(h:G.T):Rt:=
 cnd b (some [yI 40,yR 5 a]) (some [yI 0,yR 5 (G.U.mk a.name a.cls a.hyps h.name f a.right a.terms a.tset a.stops d g.name)])
def V30x5(n:Nt):Bool->Int->G.U->G.T->G.T->G.T->Rt:=λx0 x1 x2 x3 x4 x5=>n [yB x0,yI x1,yR 5 x2,yR 3 x3,yR 3 x4,yR 3 x5]
def X30x5:=V30x5 (xD rX e (pw 11 767) aLX (q30x9 c e))
def B30x6(c:TC0)(a:Int->List G.T->Int->Int->G.U->G.T->G.T->G.T->G.T->G.T->G.T->Rt)(b:Int)(d:Int)(f:List G.T)(g:Int)(h:G.U)(i:G.T)(j:G.T)(l:G.T)(m:G.T)(o:G.T)(p:G.T):Rt:=
 a d f (IntKind.i64.wrap (b+1)) g h i j l m o p
def V30x6(n:Nt):Int->Int->List G.T->Int->G.U->G.T->G.T->G.T->G.T->G.T->G.T->Rt:=λx0 x1 x2 x3 x4 x5 x6 x7 x8 x9 x10=>n [yI x0,yI x1,yS 3 x2,yI x3,yR 5 x4,yR 3 x5,yR 3 x6,yR 3 x7,yR 3 x8,yR 3 x9,yR 3 x10]
def X30x6(n3:Nt):=V30x6 (xD rX e (pw 15 14719) aLW (q30x5 c e n3))
def s30x0:aIN (xF rX c e)=B30x0 c (X30x1 c e):=by kernel_rfl
def s30x1:V30x1 (xA rX c e (pw 6 23) aL0 (q30x1 c e))=B30x1 c (X30x2 c e):=by kernel_rfl
def s30x2:V30x2 (xA rX c e (pw 8 95) aLZ (q30x2 c e))=B30x2 c (X30x3 c e):=by kernel_rfl
def s30x3(n3:Nt):aIJ (xA rX c e (pw 11 383) yD (lpK U0 yD n3 (q30x4 c e)))=B30x3 c (X30x4 c e n3) (X30x5 c e):=by kernel_rfl
def s30x4(n3:Nt):V30x4 (xA rX c e (pw 19 170367) aLY (q30x8 c e n3))=B30x4 c (X30x6 c e n3):=by kernel_rfl
def s30x5:V30x5 (xA rX c e (pw 11 767) aLX (q30x9 c e))=B30x5 c:=by kernel_rfl
def s30x6(n3:Nt):V30x6 (xA rX c e (pw 15 14719) aLW (q30x5 c e n3))=B30x6 c (aIJ n3):=by kernel_rfl
def J30x5(L:Nat):Bool->Int->G.U->G.T->G.T->G.T->Rt:=B30x5 c
def j30x5:X30x5 c (cu c L)=J30x5 c L:=by rw[X30x5,aK,s30x5];rfl
def J30x6(L:Nat)(n3:Int->List G.T->Int->Int->G.U->G.T->G.T->G.T->G.T->G.T->G.T->Rt):Int->Int->List G.T->Int->G.U->G.T->G.T->G.T->G.T->G.T->G.T->Rt:=B30x6 c n3
def j30x6(n3:Nt):X30x6 c (cu c L) n3=J30x6 c L (aIJ n3):=by rw[X30x6,aK,s30x6];rfl
def J30x4(n3:Int->List G.T->Int->Int->G.U->G.T->G.T->G.T->G.T->G.T->G.T->Rt):Bool->Int->Int->Int->List G.T->Int->G.U->G.T->G.T->G.T->G.T->G.T->G.T->G.T->Rt:=B30x4 c (J30x6 c L n3)
def j30x4(n3:Nt):X30x4 c (cu c L) n3=J30x4 c L (aIJ n3):=by rw[X30x4,aK,s30x4];simp only[j30x6];rfl
def aAZ(c:TC0)(L:Nat):Nat->Int->List G.T->Int->Int->G.U->G.T->G.T->G.T->G.T->G.T->G.T->Rt
 |0=>λ_ _ _ _ _ _ _ _ _ _ _=>none
 |n+1=>B30x3 c (J30x4 c L (aAZ c L n)) (J30x5 c L)
def u30x3(n:Nat):aIJ (xL rX c L (pw 11 383) yD (q30x4 c (cu c L)) n)=aAZ c L n:=by
 induction n with
 |zero=>rfl
 |succ n ih=>rw[dD,s30x3];simp only[j30x4,j30x5,ih];rfl
def w30x3:X30x3 c (cu c L)=aAZ c L L:=u30x3 c L L
def J30x2:Bool->G.U->G.T->G.T->G.T->G.T->G.T->G.T->Rt:=B30x2 c (aAZ c L L)
def j30x2:X30x2 c (cu c L)=J30x2 c L:=by rw[X30x2,aK,s30x2];simp only[w30x3];rfl
def aNV:Bool->G.U->G.T->G.T->Rt:=B30x1 c (J30x2 c L)
def j30x1:X30x1 c (cu c L)=aNV c L:=by rw[X30x1,aK,s30x1];simp only[j30x2];rfl
def F30:List G.E->G.T->G.U->Rt:=B30x0 c (aNV c L)
def e30:aIN (xF rX c (cu c L))=F30 c L:=by rw[s30x0];simp only[j30x1];rfl
def c30(a:List G.E)(b:G.T)(d:G.U)(L n:Nat):CTp L (n+1) 30 [yS 16 a,yR 3 b,yR 5 d]=F30 (CTp L n) L a b d:=by rw[<-e30];exact cg (x:=rX) (by kernel_rfl) (by kernel_rfl) L n _
def q31x0(c:TC0)(e:Cu):Kt:=xK aI2
def q31x1:Kt:=xT aI2 c e [1,1,1] (q31x0 c e)
def q31x2:Kt:=bH U0 0 (q31x1 c e)
def q31x3(n1:Nt):Kt:=lpK U0 yC n1 (q31x2 c e)
def q31x4(n1:Nt):Kt:=xT aI2 c e (pw 9 459) (q31x3 c e n1)
def q31x5(n1:Nt):Kt:=bH U0 1 (q31x4 c e n1)
def B31x0(f:Int->List G.T->List G.Y->Int->G.U->G.T->G.T->Rt)(g:G.T)(b:List G.T)(a:G.T)(h:G.U):Rt:=
 chk (Nat.ble ((List.length ([a]:List G.T)+List.length b)*176) 1073741824)<|
 obL [zS 1] (c 68 [yS 3 (([a]:List G.T)++b)]) λ(i:List G.Y×Unit)=>
 obL [zS 3] (c 75 [yR 3 a]) λ(d:List G.T×Unit)=>
 f (List.length d.1:Int) d.1 i.1 0 h a g
def V31x0(n:Nt):G.T->List G.T->G.T->G.U->Rt:=λx0 x1 x2 x3=>n [yR 3 x0,yS 3 x1,yR 3 x2,yR 5 x3]
def aOk(j:Bool->Int->Int->List G.T->List G.Y->G.U->G.T->G.T->G.T->Rt)(d:Int)(f:List G.T)(g:List G.Y)(b:Int)(h:G.U)(i:G.T)(l:G.T):Rt:=
 cnd (decide (b<d)) (ob (idx f b) λa=>
 cnd (decide ((0:Int)<b)) (cnd (decide (a.kind=3)) (obL [.bool] (c 74 [yR 1 a.name]) λ(m:Bool×Unit)=>
 cnd m.1 (obL [.bool] (c 70 [yR 3 a,yR 3 i]) λ(o:Bool×Unit)=>
 cnd (!o.1) (obL [zS 1] (c 68 [yS 3 ([a]:List G.T)]) λ(p:List G.Y×Unit)=>
 obL [.bool] (c 69 [yS 1 g,yS 1 p.1]) λ(q:Bool×Unit)=>
 j q.1 b d f g h a i l) (j false b d f g h a i l)) (j false b d f g h a i l)) (j false b d f g h a i l)) (j false b d f g h a i l)) (some [yI 40,yR 5 h])
def aNL(n:Nt):Int->List G.T->List G.Y->Int->G.U->G.T->G.T->Rt:=λx0 x1 x2 x3 x4 x5 x6=>n [yI x0,yS 3 x1,yS 1 x2,yI x3,yR 5 x4,yR 3 x5,yR 3 x6]
def X31x1:=aNL (xE aI2 e (pw 6 11) yC (q31x2 c e))
def B31x2(c:TC0)(d:Int->List G.T->List G.Y->Int->G.U->G.T->G.T->Rt)(f:Bool)(g:Int)(h:Int)(i:List G.T)(j:List G.Y)(a:G.U)(l:G.T)(m:G.T)(b:G.T):Rt:=
 cnd f (some [yI 0,yR 5 (G.U.mk a.name a.cls a.hyps a.equiv a.left b ([l]:List G.T) a.tset a.stops a.arg a.inner)]) (d h i j (IntKind.i64.wrap (g+1)) a m b)
def V31x2(n:Nt):Bool->Int->Int->List G.T->List G.Y->G.U->G.T->G.T->G.T->Rt:=λx0 x1 x2 x3 x4 x5 x6 x7 x8=>n [yB x0,yI x1,yI x2,yS 3 x3,yS 1 x4,yR 5 x5,yR 3 x6,yR 3 x7,yR 3 x8]
def X31x2(n1:Nt):=V31x2 (xD aI2 e (pw 13 3275) aLV (q31x5 c e n1))
def s31x0:V31x0 (xF aI2 c e)=B31x0 c (X31x1 c e):=by kernel_rfl
def s31x1(n1:Nt):aNL (xA aI2 c e (pw 6 11) yC (lpK U0 yC n1 (q31x2 c e)))=aOk c (X31x2 c e n1):=by kernel_rfl
def s31x2(n1:Nt):V31x2 (xA aI2 c e (pw 13 3275) aLV (q31x5 c e n1))=B31x2 c (aNL n1):=by kernel_rfl
def J31x2(L:Nat)(n1:Int->List G.T->List G.Y->Int->G.U->G.T->G.T->Rt):Bool->Int->Int->List G.T->List G.Y->G.U->G.T->G.T->G.T->Rt:=B31x2 c n1
def j31x2(n1:Nt):X31x2 c (cu c L) n1=J31x2 c L (aNL n1):=by rw[X31x2,aK,s31x2];rfl
def uN(c:TC0)(L:Nat):Nat->Int->List G.T->List G.Y->Int->G.U->G.T->G.T->Rt
 |0=>λ_ _ _ _ _ _ _=>none
 |n+1=>aOk c (J31x2 c L (uN c L n))
def u31x1(n:Nat):aNL (xL aI2 c L (pw 6 11) yC (q31x2 c (cu c L)) n)=uN c L n:=by
 induction n with
 |zero=>rfl
 |succ n ih=>rw[dD,s31x1];simp only[j31x2,ih];rfl
def w31x1:X31x1 c (cu c L)=uN c L L:=u31x1 c L L
def F31:G.T->List G.T->G.T->G.U->Rt:=B31x0 c (uN c L L)
def e31:V31x0 (xF aI2 c (cu c L))=F31 c L:=by rw[s31x0];simp only[w31x1];rfl
def c31(a:G.T)(b:List G.T)(d:G.T)(f:G.U)(L n:Nat):CTp L (n+1) 31 [yR 3 a,yS 3 b,yR 3 d,yR 5 f]=F31 (CTp L n) L a b d f:=by rw[<-e31];exact cg (x:=aI2) (by kernel_rfl) (by kernel_rfl) L n _
end
end Go.TV
namespace Go.TV
open Go.AI Go.PI Go.Proofs
set_option maxRecDepth 20000
def obL_bi{W:Type}{i:Int}{b:Bool}{K:Int×Bool×Unit->Option W}:obL (D:=U0.D) [.int .i64,.bool] (some [yI i,yB b]) K=K (i,b,()):=rfl
structure RuB(B:Nat)(Q:G.U):Prop where
 hy: ∀t∈Q.hyps,tsz t<=B
 hl:Q.hyps.length<=B
 tm: ∀t∈Q.terms,tsz t<=B
 tl:Q.terms.length<=B
 lf:Q.left=ozT∨tsz Q.left<=B
 rt:Q.right=ozT∨tsz Q.right<=B
 st:Q.stops.length<=B
def RuB.le{B B':Nat}{Q:G.U}(h:RuB B Q)(hb:B<=B'):RuB B' Q:=
 ⟨λt ht=>Nat.le_trans (h.hy t ht) hb,Nat.le_trans h.hl hb,λt ht=>Nat.le_trans (h.tm t ht) hb,Nat.le_trans h.tl hb,h.lf.imp id λx=>Nat.le_trans x hb,h.rt.imp id λx=>Nat.le_trans x hb,Nat.le_trans h.st hb⟩
def Bo(B:Nat)(x y:Rt):Prop:= ∃o,PcR x o/\RcR y o/\∀Q,o= .ok Q->RuB B Q
def Bo.er{B:Nat}{x y:Rt}{e:Int}{r:G.U}(he:e≠0)(h1:x=some [yI e,yR 5 r])(h2:y=some [yR 5 zRl,yI e]):Bo B x y:=aAG he h1 h2
def Bo.ok{B:Nat}{x y:Rt}{Q:G.U}(h1:x=some [yI (0:Int),yR 5 Q])(h2:y=some [yR 5 Q,yI (0:Int)])(h:RuB B Q):Bo B x y:=⟨.ok Q,h1,h2,λQ' e=>by cases e;exact h⟩
def Bo.cn{B:Nat}{x y x' y':Rt}(b:Bool)(h1:b=true->Bo B x y)(h2:b=false->Bo B x' y'):Bo B (cnd b x x') (cnd b y y'):=by
 cases b
 ·exact h2 rfl
 ·exact h1 rfl
structure MkX(c:TC0)(M:Nat):Prop where
 rg: ∀f:G.Y,c 73 [yR 1 f]=F45 c 0 f
 rr: ∀f:G.Y,c 45 [yR 1 f]=F45 c 0 f
 df: ∀f:G.Y,c 74 [yR 1 f]=some [yB (!pln f)]
 pl: ∀f:G.Y,c 44 [yR 1 f]=some [yB (pln f)]
 pp: ∀f:G.Y,c 76 [yR 1 f]=some [yB (prm f)]
 pr: ∀f:G.Y,c 46 [yR 1 f]=some [yB (prm f)]
 sp: ∀t:G.T,tsz t<=M->c 75 [yR 3 t]=some [yS 3 (sbT t)]
 sr: ∀l:List G.T,bM l<=M->c 36 [yS 3 l]=some [yS 3 (aCV [] l)]
 hs: ∀(l:List G.T) (t:G.T),(∀x∈l,tsz x<=M)->l.length<=M->c 77 [yS 3 l,yR 3 t]=some [yB (decide (t∈l))]
def Pib(x:Rt):Prop:= ∃(i:Int) (b:Bool),x=some [yI i,yB b]
def Pib.cn{b:Bool}{x y:Rt}(h1:Pib x)(h2:Pib y):Pib (cnd b x y):=by cases b;exact h2;exact h1
def Pib.m(i:Int)(b:Bool):Pib (some [yI i,yB b]):=⟨i,b,rfl⟩
def rg_pib(c:TC0)(f:G.Y):Pib (F45 c 0 f):= .cn (.m _ _) (.cn (.m _ _) (.cn (.m _ _) (.cn (.m _ _) (.cn (.m _ _) (.cn (.m _ _) (.cn (.m _ _) (.m _ _)))))))
def MkX.both{c1 c2:TC0}{M:Nat}(X1:MkX c1 M)(X2:MkX c2 M)(f:G.Y): ∃(i:Int) (b:Bool),c1 73 [yR 1 f]=some [yI i,yB b]/\c2 45 [yR 1 f]=some [yI i,yB b]:=by
 obtain⟨i,b,h⟩:=rg_pib c1 f;exact⟨i,b,(X1.rg f).trans h,(X2.rr f).trans h⟩
def rV(t:G.T):bM [t]=tsz t+1:=by simp[bM]
def aBK{l:List G.T}{M:Nat}(h:bM l<=M): ∀t∈l,tsz t<=M:=λt ht=>by have:=aP ht;omega
def ty_both{c1 c2:TC0}{L M:Nat}(E1:MkV c1 M)(E2:MkV c2 M)(X1:MkX c1 M)(X2:MkX c2 M)(hM:M<200000){nm:G.Y}{k:Int}{hy:List G.T}{d:G.T}(hl:tsz d+bM hy+40<=M):
    Bo M (F25 c1 L d ⟨nm,k,hy,ySy,ozT,ozT,[],0,[],0,ySy⟩) (obL (D:=U0.D) [.bool] (c2 34 [yR 3 d,yT ([110,111,116]:List UInt8),yI (1:Int)]) λ(r4:Bool×Unit)=>
      cnd r4.1 (ob (idx d.args (0:Int)) λv5=>J6x2 c2 L false (bD [] hy) v5 d ⟨nm,k,hy,ySy,ozT,ozT,[],0,[],0,ySy⟩ zRl) (J6x2 c2 L true (bD [] hy) d d ⟨nm,k,hy,ySy,ozT,ozT,[],0,[],0,ySy⟩ zRl)):=by
 have hh:=bF hy;have v0:=bT hy;have fin: ∀(set:Int) (u:G.T),tsz u<=tsz d->Bo M (J25x4 c1 L set ⟨nm,k,hy,ySy,ozT,d,[],0,[],0,ySy⟩ u) (J6x19 c2 L (bD [] hy) set d u ⟨nm,k,hy,ySy,ozT,ozT,[],0,[],0,ySy⟩ zRl):=λset u hu=>by
  have v1:=bT [u];rw[rV]at v1;simp only[J25x4,B25x4,J6x19,B6x19];rw[E1.vP hy (by omega),dG,E1.vP [u] (by rw[rV];omega),dG,E2.vR [u] (by rw[rV];omega),dG]
  simp only[];rw[E1.wP _ _ (by omega) (by omega),aN,E2.wR _ _ (by omega) (by omega),aN]
  simp only[];refine .cn _ (λ_=> .er (e:=41) (by decide) rfl rfl) λ_=> .ok rfl rfl ⟨aBK (by show bM hy<=M;omega),by show hy.length<=M;omega,?_,by show 1<=M;omega,Or.inr (by show tsz u<=M;omega),Or.inr (by show tsz d<=M;omega),Nat.zero_le _⟩
  intro t ht;rw[List.mem_singleton]at ht;subst ht;omega
 have mid: ∀(neg:Bool) (a:G.T),tsz a<=tsz d->Bo M (J25x1 c1 L neg ⟨nm,k,hy,ySy,ozT,d,[],0,[],0,ySy⟩ a) (J6x2 c2 L (!neg) (bD [] hy) a d ⟨nm,k,hy,ySy,ozT,ozT,[],0,[],0,ySy⟩ zRl):=λneg a ha=>by
  have er:Bo M (J25x2 c1 L true neg ⟨nm,k,hy,ySy,ozT,d,[],0,[],0,ySy⟩ a) (J6x9 c2 L true (!neg) (bD [] hy) a d ⟨nm,k,hy,ySy,ozT,ozT,[],0,[],0,ySy⟩ zRl):= .er (e:=40) (by decide) rfl rfl
  simp only[J25x1,B25x1,J6x2,B6x2];refine .cn _ (λ_=>er) λ_=> .cn _ (λ_=>er) λhn=>?_
  have hn:(a.args.length:Int)=1:=by simpa using hn
  rw[E1.lP,fZ,E2.lR,fZ];simp only[];cases decide (a.name=⟨eB,[110,111,116]⟩)with
  |true=>exact er
  |false=>
   obtain⟨u,eu,su⟩:=eD (t:=a) (k:=0) (by omega)
   have iu:idx a.args (0:Int)=some u:=(aD a.args 0).trans eu;obtain⟨i,b,r1,r2⟩:=X1.both X2 a.name;have er2: ∀s,Bo M (J25x3 c1 L true neg s ⟨nm,k,hy,ySy,ozT,d,[],0,[],0,ySy⟩ u) (J6x16 c2 L true (!neg) (bD [] hy) s d u ⟨nm,k,hy,ySy,ozT,ozT,[],0,[],0,ySy⟩ zRl):=λs=> .er (e:=40) (by decide) rfl rfl
   simp only[J25x2,B25x2,J6x9,B6x9];rw[aC,aC,r1,obL_bi,iu,aS,r2,obL_bi,aS];simp only[];refine .cn _ (λ_=>er2 i) λ_=> .cn _ (λ_=>er2 i) λ_=>?_
   rw[X1.df,aN,X2.pl,aN];simp only[Bool.not_not];cases pln u.name with
   |true=>exact er2 i
   |false=>
    simp only[J25x3,B25x3,J6x16,B6x16];rw[aC,aC,Bool.not_not];exact .cn _ (λ_=>fin _ u (by omega)) λ_=>fin _ u (by omega)
 rw[F25,B25x0,E1.icP,aN,E2.icR,aN];simp only[];refine .cn _ (λhi=>?_) λhi=>?_
 ·obtain⟨_,_,h3⟩:=lU (k:=1) hi;obtain⟨u,eu,su⟩:=eD (t:=d) (k:=0) (by omega)
  have iu:idx d.args (0:Int)=some u:=(aD d.args 0).trans eu;rw[iu,aS,aS,hi];exact mid true u (by omega)
 ·rw[hi];exact mid false d (nlR _)
def fw_both{c1 c2:TC0}{L M:Nat}(E1:MkV c1 M)(E2:MkV c2 M)(hM:M<200000){nm:G.Y}{k:Int}{hy:List G.T}{d:G.T}(hl:tsz d+bM hy+40<=M):
    Bo M (F26 c1 L d ⟨nm,k,hy,ySy,ozT,ozT,[],0,[],0,ySy⟩) (cnd (decide ((hy.length:Int)=(0:Int))) (some [yR 5 zRl,yI (40:Int)]) (ob (idx hy (0:Int)) λv6=>
      obL (D:=U0.D) [.bool] (c2 34 [yR 3 v6,yT ([110,111,116]:List UInt8),yI (1:Int)]) λ(r7:Bool×Unit)=>
      cnd r7.1 (ob (idx v6.args (0:Int)) λv8=>J6x3 c2 L (bD [] [d]) (bD [] hy) d v8 ⟨nm,k,hy,ySy,ozT,ozT,[],0,[],0,ySy⟩ zRl) (J6x3 c2 L (bD [] [d]) (bD [] hy) d v6 ⟨nm,k,hy,ySy,ozT,ozT,[],0,[],0,ySy⟩ zRl))):=by
 have hh:=bF hy;have v0:=bT hy;have v1:=bT [d];rw[rV]at v1;have fin: ∀u:G.T,tsz u<=M->Bo M (J26x1 c1 L ⟨nm,k,hy,ySy,ozT,ozT,[],0,[],0,ySy⟩ u d) (J6x3 c2 L (bD [] [d]) (bD [] hy) d u ⟨nm,k,hy,ySy,ozT,ozT,[],0,[],0,ySy⟩ zRl):=λu hu=>by
  simp only[J26x1,B26x1,J6x3,B6x3];refine .cn _ (λ_=> .er (e:=40) (by decide) rfl rfl) λ_=>?_
  rw[E1.vP [d] (by rw[rV];omega),dG,E1.vP hy (by omega),dG]
  simp only[];rw[E1.wP _ _ (by omega) (by omega),aN,E2.wR _ _ (by omega) (by omega),aN]
  simp only[];refine .cn _ (λ_=> .er (e:=41) (by decide) rfl rfl) λ_=> .ok rfl rfl ⟨aBK (by show bM hy<=M;omega),by show hy.length<=M;omega,?_,by show 1<=M;omega,Or.inl rfl,Or.inr (by show tsz d<=M;omega),Nat.zero_le _⟩
  intro t ht;rw[List.mem_singleton]at ht;subst ht;omega
 rw[F26,B26x0];refine .cn _ (λ_=> .er (e:=40) (by decide) rfl rfl) λhn=>?_
 have hn: ¬(hy.length:Int)=0:=by simpa using hn
 have h0:hy[0]?=some hy[0]:=geG (by omega)
 have i0:idx hy (0:Int)=some hy[0]:=(aD hy 0).trans h0;have s0:=aP (List.getElem_mem (l:=hy) (n:=0) (by omega))
 rw[show(G.U.mk nm k hy ySy ozT ozT [] 0 [] 0 ySy).hyps=hy from rfl,i0,aS,aS,E1.icP,aN,E2.icR,aN]
 simp only[];refine .cn _ (λhi=>?_) λhi=>fin _ (by omega)
 obtain⟨_,_,h3⟩:=lU (k:=1) hi;obtain⟨u,eu,su⟩:=eD (t:=hy[0]) (k:=0) (by omega)
 have iu:idx hy[0].args (0:Int)=some u:=(aD hy[0].args 0).trans eu;rw[iu,aS,aS];exact fin u (by omega)
end Go.TV
namespace Go.TV
open Go.AI Go.PI Go.Proofs
set_option maxRecDepth 20000
def sD(R:G.U)(ts:List G.T):G.U:=⟨R.name,R.cls,R.hyps,R.equiv,R.left,R.right,ts,R.tset,R.stops,R.arg,R.inner⟩
def PL(all:List G.Y)(u:G.T):Bool:=decide (u.kind=3)&&(!prm u.name&&wit all (bD [] [u]))
def ble176'{a:Nat}(h:a<5000000):(Nat.ble ((a+1)*176) 1073741824&&decide True)=true:=by
 rw[decide_eq_true trivial,bnA];exact lV (by omega)
def li_in{c:TC0}{L M:Nat}(E:MkV c M)(X:MkX c M)(hM:M<200000){n2:Int->List G.T->List G.Y->Int->G.U->Rt}{all:List G.Y}(ch:all.length<=M){a:List G.T}{i2 l2:Int}{ar:List G.T}(ha:a.length<1000000):
    ∀(l:List G.T) (k m:Nat) (R:G.U),a.drop k=l->l.length<m->(∀u∈l,tsz u+1<=M)->(∀t∈R.terms,tsz t<=M)->R.terms.length+l.length<=M->
    aCz c L n2 m (a.length:Int) a (k:Int) i2 l2 ar all R=n2 l2 ar all (IntKind.i64.wrap (i2+(1:Int))) (sD R (cS R.terms (l.filter (PL all)))):=by
 intro l;induction l with
 |nil=>
  intro k m R h1 h3 _ _ _;obtain⟨m,rfl⟩:=sK m 1 (by simp at h3;omega)
  have e1:=aH h1;rw[aCz,B27x3,dF (by omega: ¬k<a.length),aC];rfl
 |cons x l ih=>
  intro k m R h1 h3 h4 h5 h6;obtain⟨m,rfl⟩:=sK m 1 (by simp at h3;omega)
  obtain⟨a1,a2,a3⟩:=aI h1;simp only[lcS]at h3 h6;have hx:=h4 x (mhE ..);have h4': ∀u∈l,tsz u+1<=M:=λu hu=>h4 u (mtE _ hu)
  have v1:=bT [x];rw[rV]at v1;have no:PL all x=false->aIP c L (aCz c L n2 m) n2 false (k:Int) (a.length:Int) a i2 l2 ar all R x=n2 l2 ar all (IntKind.i64.wrap (i2+(1:Int))) (sD R (cS R.terms ((x::l).filter (PL all)))):=λhp=>by
   simp only[aIP,aOm,aNW,aOl];rw[aC,aX (by omega),List.filter_cons_of_neg (by simp[hp])]
   exact ih (k+1) m R a3 (by omega) h4' h5 (by omega)
  rw[aCz,B27x3,dT (by omega:k<a.length),aG,aD,a1,aS]
  cases hk:decide (x.kind=3)with
  |false=>rw[aC];exact no (by unfold PL;rw[hk];rfl)
  |true=>
   rw[aG,X.pp,aN];simp only[];cases hp:prm x.name with
   |true=>rw[bnT,aC];exact no (by unfold PL;rw[hk,hp];rfl)
   |false=>
    rw[Bool.not_false,aG,E.vP [x] (by rw[rV];omega),dG]
    simp only[];rw[E.wP _ _ ch (by omega),aN]
    simp only[];cases hw:wit all (bD [] [x])with
    |false=>rw[aC];exact no (by unfold PL;rw[hk,hp,hw];rfl)
    |true=>
     have hP:PL all x=true:=by unfold PL;rw[hk,hp,hw];rfl
     rw[aG,X.hs _ _ h5 (by omega),aN]
     simp only[];rw[List.filter_cons_of_pos hP,cS];by_cases hm:x∈R.terms
     ·rw[decide_eq_true hm,bnT,vE,if_pos hm];simp only[aIP,aOm,aNW,aOl];rw[aC,aX (by omega)]
      exact ih (k+1) m R a3 (by omega) h4' h5 (by omega)
     ·rw[decide_eq_false hm,Bool.not_false,vE,if_neg hm];simp only[aIP,aOm,aNW,aOl];rw[aG,ble176' (by omega),eC,aX (by omega)]
      refine(ih (k+1) m (sD R (R.terms++ [x])) a3 (by omega) h4' (λt ht=>?_) (by show(R.terms++ [x]).length+_<=_;rw[lnA];simp only[lcS,lnN];omega)).trans rfl
      rcases List.mem_append.1 ht with ht|ht
      ·exact h5 t ht
      ·rw[List.mem_singleton]at ht;subst ht;omega
def sbL_cons(x:G.T)(l:List G.T):sbL (x::l)=sbT x++sbL l:=rfl
def sbL_ln(l:List G.T):(sbL l).length<=bM l:=aJE λx _=>zQ x
def oO: ∀(l acc:List G.T),(cS acc l).length<=acc.length+l.length
 |[],acc=>by rw[cS];simp
 |x::l,acc=>by have:=oO l (vE acc x);have:=aAU acc x;rw[cS,lcS];omega
def oC{t:G.T}: ∀{l acc:List G.T},t∈cS acc l->t∈acc∨t∈l
 |[],acc,h=> .inl h
 |x::l,acc,h=>by
  rcases oC (l:=l) h with h|h
  ·rcases mem_addT.1 h with h|rfl
   ·exact .inl h
   ·exact .inr (mhE ..)
  ·exact .inr (mtE _ h)
def liE(R:G.U):Rt:=cnd (decide ((R.terms.length:Int)=(0:Int))) (some [yI (40:Int),yR 5 R]) (some [yI (0:Int),yR 5 R])
def li_out{c:TC0}{L M:Nat}(E:MkV c M)(X:MkX c M)(hM:M<200000)(hL:M<L){all:List G.Y}(ch:all.length<=M){a:List G.T}(ha:a.length<1000000):
    ∀(l:List G.T) (k m:Nat) (R:G.U),a.drop k=l->l.length<m->(∀u∈l,tsz u+1<=M)->(∀t∈R.terms,tsz t<=M)->R.terms.length+bM l<=M->
    aCA c L m (a.length:Int) a all (k:Int) R=liE (sD R (cS R.terms ((sbL l).filter (PL all)))):=by
 intro l;induction l with
 |nil=>
  intro k m R h1 h3 _ _ _;obtain⟨m,rfl⟩:=sK m 1 (by simp at h3;omega)
  have e1:=aH h1;rw[aCA,B27x2,dF (by omega: ¬k<a.length),aC];rfl
 |cons x l ih=>
  intro k m R h1 h3 h4 h5 h6;obtain⟨m,rfl⟩:=sK m 1 (by simp at h3;omega)
  obtain⟨a1,a2,a3⟩:=aI h1;simp only[lcS]at h3;simp only[bM]at h6;have hx:=h4 x (mhE ..);have s1:=zQ x;have s2: ∀u∈sbT x,tsz u+1<=M:=λu hu=>by have:=aJD x u hu;omega
  have s3:=List.length_filter_le (PL all) (sbT x);have s4:=oO ((sbT x).filter (PL all)) R.terms;rw[aCA,B27x2,dT (by omega:k<a.length),aG,aD,a1,aS,X.sp x (by omega),oB]
  simp only[];refine(li_in E X hM (n2:=aCA c L m) ch (a:=sbT x) (by omega) (sbT x) 0 L R rfl (by omega) s2 h5 (by omega)).trans ?_
  rw[aX (by omega),sbL_cons,List.filter_append,aAT]
  refine(ih (k+1) m (sD R (cS R.terms ((sbT x).filter (PL all)))) a3 (by omega) (λu hu=>h4 u (mtE _ hu)) (λt ht=>?_) (by show(cS _ _).length+_<=_;omega)).trans rfl
  rcases oC ht with ht|ht
  ·exact h5 t ht
  ·have:=s2 t ((List.mem_filter.1 ht).1);omega
def lr_loop{c:TC0}{L M:Nat}(E:MkV c M)(X:MkX c M)(hM:M<200000){all:List G.Y}(ch:all.length<=M){a:List G.T}{d:G.T}(ha:a.length<1000000):
    ∀(l:List G.T) (k m:Nat) (R:G.U),a.drop k=l->l.length<m->(∀u∈l,tsz u+1<=M)->R.terms.length+l.length<=M->
    aCt c L m all a (k:Int) d R zRl=cnd (decide (((R.terms++l.filter (PL all)).length:Int)=(0:Int))) (some [yR 5 zRl,yI (40:Int)]) (some [yR 5 (⟨R.name,R.cls,R.hyps,R.equiv,R.left,d,R.terms++l.filter (PL all),R.tset,R.stops,R.arg,R.inner⟩:G.U),yI (0:Int)]):=by
 intro l;induction l with
 |nil=>
  intro k m R h1 h3 _ _;obtain⟨m,rfl⟩:=sK m 1 (by simp at h3;omega)
  have e1:=aH h1;rw[aCt,B6x11,dF (by omega: ¬k<a.length),aC,List.filter_nil,apN];rfl
 |cons x l ih=>
  intro k m R h1 h3 h4 h6;obtain⟨m,rfl⟩:=sK m 1 (by simp at h3;omega)
  obtain⟨a1,a2,a3⟩:=aI h1;simp only[lcS]at h3 h6;have hx:=h4 x (mhE ..);have h4': ∀u∈l,tsz u+1<=M:=λu hu=>h4 u (mtE _ hu)
  have v1:=bT [x];rw[rV]at v1;have i1:idx a (k:Int)=some x:=(aD a k).trans a1;have no:PL all x=false->aNR c L (aCt c L m) false (k:Int) all a d R zRl=cnd (decide (((R.terms++(x::l).filter (PL all)).length:Int)=(0:Int))) (some [yR 5 zRl,yI (40:Int)]) (some [yR 5 (⟨R.name,R.cls,R.hyps,R.equiv,R.left,d,R.terms++(x::l).filter (PL all),R.tset,R.stops,R.arg,R.inner⟩:G.U),yI (0:Int)]):=λhp=>by
   simp only[aNR,B6x17,J6x20,B6x20];rw[aC,aX (by omega),List.filter_cons_of_neg (by simp[hp])]
   exact ih (k+1) m R a3 (by omega) h4' (by omega)
  rw[aCt,B6x11,dT (by omega:k<a.length),aG,i1,aS]
  cases hk:decide (x.kind=3)with
  |false=>rw[aC];exact no (by unfold PL;rw[hk];rfl)
  |true=>
   rw[aG,aS,X.pr,aN];simp only[];cases hp:prm x.name with
   |true=>rw[bnT,aC];exact no (by unfold PL;rw[hk,hp];rfl)
   |false=>
    rw[Bool.not_false,aG,aS,E.vR [x] (by rw[rV];omega),dG]
    simp only[];rw[E.wR _ _ ch (by omega),aN]
    simp only[];cases hw:wit all (bD [] [x])with
    |false=>exact no (by unfold PL;rw[hk,hp,hw];rfl)
    |true=>
     have hP:PL all x=true:=by unfold PL;rw[hk,hp,hw];rfl
     simp only[aNR,B6x17,J6x20,B6x20];rw[aG,i1,aS,List.filter_cons_of_pos hP,show Nat.ble ((R.terms.length+([x]:List G.T).length)*176) 1073741824=true from lV (by simp only[lcS,lnN];omega),eC,aX (by omega)]
     refine(ih (k+1) m (sD R (R.terms++ [x])) a3 (by omega) h4' (by show(R.terms++ [x]).length+_<=_;rw[lnA];simp only[lcS,lnN];omega)).trans ?_
     show cnd (decide ((((R.terms++ [x])++l.filter (PL all)).length:Int)=0)) _ (some [(yR 5 (⟨R.name,R.cls,R.hyps,R.equiv,R.left,d,(R.terms++ [x])++l.filter (PL all),R.tset,R.stops,R.arg,R.inner⟩:G.U):TV U0.D),_])=_;rw[apA];rfl
def PL_congr{a b:List G.Y}(h: ∀s,s∈a↔s∈b):PL a=PL b:=by
 funext u;unfold PL;rw[wC h]
def aMO(d:G.T)(hy:List G.T)(s:G.Y):s∈bD [] ([d]++hy)↔s∈(([]:List G.Y)++bD [] hy)++bD [] [d]:=by
 rw[nlA,List.mem_append,jG,jG,jG];simp[or_comm]
def li_both{c1 c2:TC0}{L M:Nat}(E1:MkV c1 M)(E2:MkV c2 M)(X1:MkX c1 M)(X2:MkX c2 M)(hM:M<200000)(hL:M<L){nm:G.Y}{k:Int}{hy:List G.T}{d:G.T}(hl:tsz d+bM hy+40<=M):
    Bo M (F27 c1 L d ⟨nm,k,hy,ySy,ozT,ozT,[],0,[],0,ySy⟩) (obL (D:=U0.D) [.bool] (c2 34 [yR 3 d,yT ([110,111,116]:List UInt8),yI (1:Int)]) λ(r9:Bool×Unit)=>
      cnd r9.1 (ob (idx d.args (0:Int)) λv10=>J6x4 c2 L (bD [] hy) (bD [] [d]) v10 d ⟨nm,k,hy,ySy,ozT,ozT,[],0,[],0,ySy⟩ zRl) (J6x4 c2 L (bD [] hy) (bD [] [d]) d d ⟨nm,k,hy,ySy,ozT,ozT,[],0,[],0,ySy⟩ zRl)):=by
 have hh:=bF hy;have v0:=bT hy;have v1:=bT [d];rw[rV]at v1;have v2:=bT ([d]++hy);rw[tsz'_ap,rV]at v2;have fin: ∀a:G.T,tsz a<=tsz d->Bo M (J27x1 c1 L ⟨nm,k,hy,ySy,ozT,ozT,[],0,[],0,ySy⟩ d a) (J6x4 c2 L (bD [] hy) (bD [] [d]) a d ⟨nm,k,hy,ySy,ozT,ozT,[],0,[],0,ySy⟩ zRl):=λa ha=>by
  have m1:=fJ (t:=a);have m2:=bF a.args;have m3:=sbL_ln a.args;have m4:=oO (sbL a.args) [];simp only[lnN,Nat.zero_add]at m4;simp only[J27x1,B27x1,J6x4,B6x4];rw[E1.icP,aN,E2.icR,aN];simp only[];refine .cn _ (λ_=> .er (e:=40) (by decide) rfl rfl) λ_=>?_
  have b0:Nat.ble ((([d]:List G.T).length+hy.length)*176) 1073741824=true:=lV (by simp only[lcS,lnN];omega)
  have b2:Nat.ble ((([]:List G.Y).length+(bD [] hy).length)*32) 1073741824=true:=uF (by simp only[lnN];omega)
  have b3:Nat.ble (((([]:List G.Y)++bD [] hy).length+(bD [] [d]).length)*32) 1073741824=true:=uF (by simp only[nlA];omega)
  rw[b0,eC,b2,eC,b3,eC,E1.vP _ (by rw[tsz'_ap,rV];omega),dG,X2.sr _ (by omega),oB]
  simp only[];have q1:=li_out E1 X1 hM hL (all:=bD [] ([d]++hy)) (by omega) (a:=a.args) (by omega) a.args 0 L ⟨nm,k,hy,ySy,ozT,d,[],0,[],0,ySy⟩ rfl (by omega) (λu hu=>by have:=aP hu;omega) (λt ht=>by cases ht) (by simp only[lnN];omega)
  have cw: ∀u∈cS [] (sbL a.args),tsz u+1<=M:=λu hu=>by
   rcases oC hu with hu|hu
   ·cases hu
   ·have:=sbL_sz (B:=bM a.args) (l:=a.args) (λx hx u hu=>by have:=aJD x u hu;have:=aP hx;omega) u hu
    omega
  have q2:=lr_loop (L:=L) E2 X2 hM (all:=(([]:List G.Y)++bD [] hy)++bD [] [d]) (by simp only[nlA,lnA];omega) (a:=cS [] (sbL a.args)) (d:=d) (by omega) (cS [] (sbL a.args)) 0 L ⟨nm,k,hy,ySy,ozT,ozT,[],0,[],0,ySy⟩ rfl (by omega) cw (by simp only[lnN];omega)
  rw[sub'_all'];have e9:cS [] ((sbL a.args).filter (PL (bD [] ([d]++hy))))=(cS [] (sbL a.args)).filter (PL ((([]:List G.Y)++bD [] hy)++bD [] [d])):=by
   rw[PL_congr (aMO d hy)];exact rA _ _ []
  simp only[nlA]at q2 e9;refine Eq.mpr (congr (congrArg (Bo M) q1) q2) ?_;unfold liE;simp only[sD];rw[e9];refine .cn _ (λ_=> .er (e:=40) (by decide) rfl rfl) λ_=> .ok rfl rfl ⟨aBK (by show bM hy<=M;omega),by show hy.length<=M;omega,λt ht=>?_,?_,Or.inl rfl,Or.inr (by show tsz d<=M;omega),Nat.zero_le _⟩
  ·have:=cw t ((List.mem_filter.1 ht).1);omega
  ·show(List.filter _ _).length<=M;have:=List.length_filter_le (PL (bD [] hy++bD [] [d])) (cS [] (sbL a.args));omega
 rw[F27,B27x0,E1.icP,aN,E2.icR,aN];simp only[];refine .cn _ (λhi=>?_) λhi=>fin d (nlR _)
 obtain⟨_,_,h3⟩:=lU (k:=1) hi;obtain⟨u,eu,su⟩:=eD (t:=d) (k:=0) (by omega)
 have iu:idx d.args (0:Int)=some u:=(aD d.args 0).trans eu;rw[iu,aS,aS];exact fin u (by omega)
end Go.TV
namespace Go.TV
open Go.AI Go.PI Go.Proofs
set_option maxRecDepth 20000
abbrev erR(e:Int):Rt:=some [yR 5 zRl,yI e]
def aFf{N:Type}{l:List N}{k:Nat}(h:k<=l.length):slc l (0:Int) (k:Int)=some (l.take k):=by
 unfold slc;rw[decide_eq_true (Int.le_refl _),decide_eq_true (by omega:(0:Int)<=(k:Int)),decide_eq_true (by omega:(k:Int)<=(l.length:Int))]
 rfl
def eq_in{c:TC0}{L M:Nat}(E:MkV c M){n:Int->List G.Y->G.T->G.T->G.U->G.U->Rt}{hv:List G.Y}{x l:G.T}{R:G.U}{i:Nat}{a:G.T}(ha:l.args[i]?=some a)(hi:i<1000000)(hl: ∀u∈l.args,tsz u<=M): ∀(q j m:Nat),j+q=i->q<m->
    aEP c L n m (j:Int) (i:Int) hv x l R zRl=bif decide (a∈(l.args.take i).drop j)then erR 40 else n ((i+1:Nat):Int) hv x l R zRl
 |0,j,m,h,hm=>by
  obtain⟨m,rfl⟩:=sK m 1 (by omega)
  obtain rfl:j=i:=by omega
  have e0:(l.args.take j).drop j=[]:=by rw[List.drop_eq_nil_iff,List.length_take];omega
  rw[aEP,B6x21,dF (by omega: ¬j<j),aC,e0,aX (by omega)]
  rfl
 |q+1,j,m,h,hm=>by
  obtain⟨m,rfl⟩:=sK m 1 (by omega)
  have hil:i<l.args.length:=(List.getElem?_eq_some_iff.1 ha).1;have hj:l.args[j]?=some l.args[j]:=geG (by omega)
  have e0:(l.args.take i).drop j=l.args[j]::(l.args.take i).drop (j+1):=by
   rw[List.drop_eq_getElem_cons (by rw[List.length_take];omega),List.getElem_take]
  rw[aEP,B6x21,dT (by omega:j<i),aG,aD,hj,aS,aD,ha,aS,E.eR _ _ (hl _ (List.getElem_mem _)),aN,e0,aX (by omega)]
  simp only[];by_cases e:l.args[j]=a
  ·rw[decide_eq_true e,aG,decide_eq_true (by rw[e];exact mhE ..)];rfl
  ·rw[decide_eq_false e,aC,eq_in E ha hi hl q (j+1) m (by omega) (by omega)]
   congr 1;exact decide_eq_decide.2 ⟨λh=>mtE _ h,λh=>(List.mem_cons.1 h).resolve_left λq=>e q.symm⟩
def el_loop{c1 c2:TC0}{L M:Nat}(E1:MkV c1 M)(E2:MkV c2 M)(X1:MkX c1 M)(hM:M<200000)(hL:M<L){nm:G.Y}{k:Int}{hy:List G.T}{l x:G.T}(hl:tsz l+tsz x+bM hy+40<=M):
    ∀(r:List G.T) (i m m':Nat),l.args.drop i=r->r.length<m->r.length<m'->
    Bo M (aCy c1 L m (l.args.length:Int) l.args (i:Int) ⟨nm,k,hy,ySy,ozT,ozT,[],0,[],0,ySy⟩ l x) (aAW c2 L m' (i:Int) (bD [] hy) x l ⟨nm,k,hy,ySy,ozT,ozT,[],0,[],0,ySy⟩ zRl):=by
 intro r;have a1:=fJ (t:=l);have a2:=bF l.args;have jr: ∀u∈l.args,tsz u<=M:=λu hu=>by have:=kE hu;omega
 have v0:=bT hy;have hh:=bF hy;induction r with
 |nil=>
  intro i m m' h1 h3 h4;obtain⟨m,rfl⟩:=sK m 1 (by simp at h3;omega)
  obtain⟨m',rfl⟩: ∃q,m'=q+1:=⟨m'-1,by simp at h4;omega⟩
  have e1:=aH h1;have b0:Nat.ble ((([]:List G.T).length+l.args.length)*176) 1073741824=true:=lV (by simp only[lnN];omega)
  rw[aCy,B28x2,aAW,B6x12,dF (by omega: ¬i<l.args.length),aC,aC,b0,eC,E1.vP hy (by omega),dG]
  simp only[];rw[E1.wP _ _ (by omega) (by simp only[lcS,lnN];omega),aN,E2.wR _ _ (by omega) (by simp only[lcS,lnN];omega),aN]
  simp only[];refine .cn _ (λ_=> .er (e:=41) (by decide) rfl rfl) λ_=> .ok rfl rfl ⟨aBK (by show bM hy<=M;omega),by show hy.length<=M;omega,jr,by show l.args.length<=M;omega,Or.inr (by show tsz l<=M;omega),Or.inr (by show tsz x<=M;omega),Nat.zero_le _⟩
 |cons a r ih=>
  intro i m m' h1 h3 h4;obtain⟨m,rfl⟩:=sK m 1 (by simp at h3;omega)
  obtain⟨m',rfl⟩: ∃q,m'=q+1:=⟨m'-1,by simp at h4;omega⟩
  obtain⟨c1',c2',c3⟩:=aI h1;simp only[lcS]at h3 h4;have ha:=jr a (List.mem_of_getElem? c1');have hat:=kE (List.mem_of_getElem? c1');have i1:idx l.args (i:Int)=some a:=(aD l.args i).trans c1';have v1:=bT [a];rw[rV]at v1;have er:Bo M (J28x3 c1 L (aCy c1 L m) true (i:Int) (l.args.length:Int) l.args ⟨nm,k,hy,ySy,ozT,ozT,[],0,[],0,ySy⟩ l x) (J6x18 c2 L (aAW c2 L m') true (i:Int) (bD [] hy) x l ⟨nm,k,hy,ySy,ozT,ozT,[],0,[],0,ySy⟩ zRl):= .er (e:=40) (by decide) rfl rfl
  rw[aCy,B28x2,aAW,B6x12,dT (by omega:i<l.args.length),aG,aG,i1,aS,aS,E1.vP [a] (by rw[rV];omega),dG,E2.vR [a] (by rw[rV];omega),dG]
  simp only[];rw[aS];refine .cn _ (λ_=>er) λ_=> .cn _ (λ_=>er) λhn=>?_
  have hn:((bD [] [a]).length:Int)=1:=by simpa using hn
  have h0:(bD [] [a])[0]?=some (bD [] [a])[0]:=geG (by omega)
  have i0:idx (bD [] [a]) (0:Int)=some (bD [] [a])[0]:=(aD _ 0).trans h0;rw[i0,aS,aS];cases decide ((bD [] [a])[0]=x.name)with
  |false=>exact er
  |true=>
   rw[bnT,aC,aFf (by omega),aS,X1.hs _ _ (λu hu=>jr u (List.mem_of_mem_take hu)) (by rw[List.length_take];omega),aN]
   simp only[];have e7:=eq_in (L:=L) E2 (n:=aAW c2 L m') (hv:=bD [] hy) (x:=x) (R:=⟨nm,k,hy,ySy,ozT,ozT,[],0,[],0,ySy⟩) c1' (by omega) jr i 0 L (by omega) (by omega)
   rw[List.drop_zero]at e7;simp only[J28x3,B28x3,J6x18,B6x18];rw[aC];refine Eq.mpr (congrArg (Bo M _) e7) ?_;cases decide (a∈l.args.take i)with
   |true=>exact .er (e:=40) (by decide) rfl rfl
   |false=>
    rw[aC,cdf,aX (by omega)]
    exact ih (i+1) m m' c3 (by omega) (by omega)
def el_both{c1 c2:TC0}{L M:Nat}(E1:MkV c1 M)(E2:MkV c2 M)(X1:MkX c1 M)(hM:M<200000)(hL:M<L){nm:G.Y}{k:Int}{hy:List G.T}{d:G.T}(hl:tsz d+bM hy+40<=M):
    Bo M (F28 c1 L d ⟨nm,k,hy,ySy,ozT,ozT,[],0,[],0,ySy⟩) (obL (D:=U0.D) [.bool] (c2 34 [yR 3 d,yT ([101,113,117,97,108]:List UInt8),yI (2:Int)]) λ(r11:Bool×Unit)=>
      cnd (!r11.1) (J6x5 c2 L true (bD [] hy) d ⟨nm,k,hy,ySy,ozT,ozT,[],0,[],0,ySy⟩ zRl) (ob (idx d.args (1:Int)) λv12=>
      cnd (!decide (v12.kind=(1:Int))) (J6x5 c2 L true (bD [] hy) d ⟨nm,k,hy,ySy,ozT,ozT,[],0,[],0,ySy⟩ zRl) (ob (idx d.args (0:Int)) λv13=>
      cnd (!decide (v13.kind=(3:Int))) (J6x5 c2 L true (bD [] hy) d ⟨nm,k,hy,ySy,ozT,ozT,[],0,[],0,ySy⟩ zRl) (ob (idx d.args (0:Int)) λv14=>
      J6x5 c2 L (decide ((List.length v14.args:Int)=(0:Int))) (bD [] hy) d ⟨nm,k,hy,ySy,ozT,ozT,[],0,[],0,ySy⟩ zRl)))):=by
 have er:Bo M (J28x1 c1 L true ⟨nm,k,hy,ySy,ozT,ozT,[],0,[],0,ySy⟩ d) (J6x5 c2 L true (bD [] hy) d ⟨nm,k,hy,ySy,ozT,ozT,[],0,[],0,ySy⟩ zRl):= .er (e:=40) (by decide) rfl rfl
 rw[F28,B28x0,E1.icP,aN,E2.icR,aN];simp only[];refine .cn _ (λ_=>er) λhi=>?_
 have hi:isA d [101,113,117,97,108] 2=true:=by simpa using hi
 obtain⟨_,_,h3⟩:=lU (k:=2) hi;obtain⟨l,el,sl⟩:=eD (t:=d) (k:=0) (by omega)
 obtain⟨x,ex,sx⟩:=eD (t:=d) (k:=1) (by omega)
 obtain⟨_,hab⟩:=aFa h3 el ex;have il:idx d.args (0:Int)=some l:=(aD d.args 0).trans el;have ix:idx d.args (1:Int)=some x:=(aD d.args 1).trans ex;have a1:=fJ (t:=l);have a2:=bF l.args;rw[il,aS,ix,aS,aS];simp only[aS];cases h1:decide (l.kind=3)with
 |false=>
  rw[Bool.not_false,aG,aG];cases decide (x.kind=1)with
  |false=>exact er
  |true=>exact er
 |true=>
  rw[bnT,aC,aC];refine .cn _ (λ_=>er) λ_=>?_
  simp only[J28x1,B28x1,J6x5,B6x5];refine .cn _ (λ_=> .er (e:=40) (by decide) rfl rfl) λ_=>?_
  rw[il,aS,aS,ix,aS,aS];exact el_loop E1 E2 X1 hM hL (by omega) l.args 0 L L rfl (by omega) (by omega)
def PG(all:List G.Y)(u:G.T):Bool:=decide (u.kind=3)&&(!pln u.name&&wit all (bD [] [u]))
def fdP(R:G.U)(f:G.T):Option G.T->Rt
 |some u=>some [yI (0:Int),yR 5 (⟨R.name,R.cls,R.hyps,R.equiv,R.left,f,[u],R.tset,R.stops,R.arg,R.inner⟩:G.U)]
 |none=>some [yI (40:Int),yR 5 R]
def fdR(R:G.U)(f:G.T):Option G.T->Rt
 |some u=>some [yR 5 (⟨R.name,R.cls,[],R.equiv,R.left,f,[u],R.tset,R.stops,R.arg,R.inner⟩:G.U),yI (0:Int)]
 |none=>erR 40
def gp_loop{c:TC0}{L M:Nat}(E:MkV c M)(X:MkX c M){all:List G.Y}(ch:all.length<=M){a:List G.T}{d f:G.T}{R:G.U}(ha:a.length<1000000):
    ∀(l:List G.T) (k m:Nat),a.drop k=l->l.length<m->0<k->(∀u∈l,tsz u+1<=M)->
    uN c L m (a.length:Int) a all (k:Int) R d f=fdP R f (l.find? λu=>PG all u&& !decide (u=d)):=by
 intro l;induction l with
 |nil=>
  intro k m h1 h3 _ _;obtain⟨m,rfl⟩:=sK m 1 (by simp at h3;omega)
  have e1:=aH h1;rw[uN,aOk,dF (by omega: ¬k<a.length),aC];rfl
 |cons x l ih=>
  intro k m h1 h3 h0 h4;obtain⟨m,rfl⟩:=sK m 1 (by simp at h3;omega)
  obtain⟨a1,a2,a3⟩:=aI h1;simp only[lcS]at h3;have hx:=h4 x (mhE ..);have h4': ∀u∈l,tsz u+1<=M:=λu hu=>h4 u (mtE _ hu)
  have v1:=bT [x];rw[rV]at v1;have no:(PG all x&& !decide (x=d))=false->J31x2 c L (uN c L m) false (k:Int) (a.length:Int) a all R x d f=fdP R f ((x::l).find? λu=>PG all u&& !decide (u=d)):=λhp=>by
   simp only[J31x2,B31x2];rw[aC,aX (by omega),List.find?_cons_of_neg (by simp only[hp];decide)]
   exact ih (k+1) m a3 (by omega) (by omega) h4'
  rw[uN,aOk,dT (by omega:k<a.length),aG,aD,a1,aS,decide_eq_true (by omega:(0:Int)<(k:Int)),aG]
  cases hk:decide (x.kind=3)with
  |false=>rw[aC];exact no (by unfold PG;rw[hk];rfl)
  |true=>
   rw[aG,X.df,aN];simp only[];cases hp:pln x.name with
   |true=>rw[bnT,aC];exact no (by unfold PG;rw[hk,hp];rfl)
   |false=>
    rw[Bool.not_false,aG,E.eP _ _ (by omega),aN]
    simp only[];cases hd:decide (x=d)with
    |true=>rw[bnT,aC];exact no (by rw[hd,bnT,Bool.and_false])
    |false=>
     rw[Bool.not_false,aG,E.vP [x] (by rw[rV];omega),dG]
     simp only[];rw[E.wP _ _ ch (by omega),aN]
     simp only[];cases hw:wit all (bD [] [x])with
     |false=>exact no (by unfold PG;rw[hk,hp,hw];rfl)
     |true=>
      rw[List.find?_cons_of_pos (by unfold PG;rw[hk,hp,hw,hd];rfl)]
      rfl
def gr_loop{c:TC0}{L M:Nat}(E:MkV c M)(X:MkX c M){all:List G.Y}(ch:all.length<=M){a:List G.T}{f:G.T}{R:G.U}(ha:a.length<1000000):
    ∀(l:List G.T) (k m:Nat),a.drop k=l->l.length<m->(∀u∈l,tsz u+1<=M)->
    W6x7 c L m all a (k:Int) f R zRl=fdR R f (l.find? (PG all)):=by
 intro l;induction l with
 |nil=>
  intro k m h1 h3 _;obtain⟨m,rfl⟩:=sK m 1 (by simp at h3;omega)
  have e1:=aH h1;rw[W6x7,B6x7,dF (by omega: ¬k<a.length),aC];rfl
 |cons x l ih=>
  intro k m h1 h3 h4;obtain⟨m,rfl⟩:=sK m 1 (by simp at h3;omega)
  obtain⟨a1,a2,a3⟩:=aI h1;simp only[lcS]at h3;have hx:=h4 x (mhE ..);have h4': ∀u∈l,tsz u+1<=M:=λu hu=>h4 u (mtE _ hu)
  have v1:=bT [x];rw[rV]at v1;have i1:idx a (k:Int)=some x:=(aD a k).trans a1;have no:PG all x=false->aNS c L (W6x7 c L m) false (k:Int) all a f R zRl=fdR R f ((x::l).find? (PG all)):=λhp=>by
   simp only[aNS,B6x14];rw[aC,aX (by omega),List.find?_cons_of_neg (by simp only[hp];decide)]
   exact ih (k+1) m a3 (by omega) h4'
  rw[W6x7,B6x7,dT (by omega:k<a.length),aG,i1,aS]
  cases hk:decide (x.kind=3)with
  |false=>rw[aC];exact no (by unfold PG;rw[hk];rfl)
  |true=>
   rw[aG,aS,X.pl,aN];simp only[];cases hp:pln x.name with
   |true=>rw[bnT,aC];exact no (by unfold PG;rw[hk,hp];rfl)
   |false=>
    rw[Bool.not_false,aG,aS,E.vR [x] (by rw[rV];omega),dG]
    simp only[];rw[E.wR _ _ ch (by omega),aN]
    simp only[];cases hw:wit all (bD [] [x])with
    |false=>exact no (by unfold PG;rw[hk,hp,hw];rfl)
    |true=>
     rw[List.find?_cons_of_pos (by unfold PG;rw[hk,hp,hw];rfl)]
     simp only[aNS,B6x14];rw[aG,i1];rfl
def PG_congr{a b:List G.Y}(h: ∀s,s∈a↔s∈b):PG a=PG b:=by
 funext u;unfold PG;rw[wC h]
def sbT_hd(d:G.T):sbT d=d::(sbT d).tail:=by cases d;rw[sbT];rfl
def ge_both{c1 c2:TC0}{L M:Nat}(E1:MkV c1 M)(E2:MkV c2 M)(X1:MkX c1 M)(X2:MkX c2 M)(hM:M<200000)(hL:M<L){nm:G.Y}{k:Int}{hy:List G.T}{f d:G.T}(hl:tsz d+bM hy+40<=M)(hf:tsz f<=M):
    Bo M (F31 c1 L f hy d ⟨nm,k,[],ySy,ozT,ozT,[],0,[],0,ySy⟩) (chk (Nat.ble ((List.length ([]:List G.Y)+List.length (bD [] hy))*32) 1073741824)<|
      chk (Nat.ble ((List.length (([]:List G.Y)++bD [] hy)+List.length (bD [] [d]))*32) 1073741824)<|
      obL (D:=U0.D) [.sl (.rc 3)] (c2 36 [yS 3 ([d]:List G.T)]) λ(r21:List G.T×Unit)=>
      W6x7 c2 L L ((([]:List G.Y)++bD [] hy)++bD [] [d]) r21.1 (1:Int) f ⟨nm,k,hy,ySy,ozT,ozT,[],0,[],0,ySy⟩ zRl):=by
 have hh:=bF hy;have v0:=bT hy;have v1:=bT [d];rw[rV]at v1;have v2:=bT ([d]++hy);rw[tsz'_ap,rV]at v2;have b0:Nat.ble ((([d]:List G.T).length+hy.length)*176) 1073741824=true:=lV (by simp only[lcS,lnN];omega)
 have b2:Nat.ble ((([]:List G.Y).length+(bD [] hy).length)*32) 1073741824=true:=uF (by simp only[lnN];omega)
 have b3:Nat.ble (((([]:List G.Y)++bD [] hy).length+(bD [] [d]).length)*32) 1073741824=true:=uF (by simp only[nlA];omega)
 have s1:=zQ d;have s2: ∀u∈sbT d,tsz u+1<=M:=λu hu=>by have:=aJD d u hu;omega
 have hd0:=sbT_hd d;have hsd:aCV [] [d]=cS [] (sbT d):=by rw[sub'_all',sbL,sbL,apN]
 have hs3:cS [] (sbT d)=cS [d] (sbT d).tail:=by
  conv=>lhs;rw[hd0]
  rw[cS,vE,if_neg (by simp)];rfl
 have m4:=oO (sbT d) [];simp only[lnN,Nat.zero_add]at m4;rw[F31,B31x0,b0,eC,b2,eC,b3,eC,E1.vP _ (by rw[tsz'_ap,rV];omega),dG,X1.sp d (by omega),oB,X2.sr _ (by rw[rV];omega),oB,hsd]
 simp only[];have hl1:(sbT d).length=(sbT d).tail.length+1:=by have h:=congrArg List.length hd0;rwa [lcS]at h
 have st:uN c1 L L ((sbT d).length:Int) (sbT d) (bD [] ([d]++hy)) (0:Int) ⟨nm,k,[],ySy,ozT,ozT,[],0,[],0,ySy⟩ d f=uN c1 L (L-1) ((sbT d).length:Int) (sbT d) (bD [] ([d]++hy)) ((1:Nat):Int) ⟨nm,k,[],ySy,ozT,ozT,[],0,[],0,ySy⟩ d f:=by
  obtain⟨q,rfl⟩: ∃q,L=q+1:=⟨L-1,by omega⟩
  rw[show q+1-1=q by omega]
  rw[uN,aOk,decide_eq_true (by omega:(0:Int)<((sbT d).length:Int)),aG,show idx (sbT d) (0:Int)=some d by rw[hd0];rfl,aS,decide_eq_false (by omega: ¬(0:Int)<(0:Int)),aC]
  rfl
 have kg: ∀u∈cS [d] (sbT d).tail,tsz u+1<=M:=λu hu=>by
  rw[<-hs3]at hu;rcases oC hu with hu|hu
  ·cases hu
  ·exact s2 u hu
 obtain⟨r,hr⟩:=uL (sbT d).tail [d];have q1:=gp_loop (L:=L) E1 X1 (all:=bD [] ([d]++hy)) (by omega) (a:=sbT d) (d:=d) (f:=f) (R:=⟨nm,k,[],ySy,ozT,ozT,[],0,[],0,ySy⟩) (by omega) (sbT d).tail 1 (L-1) (List.drop_one ..) (by omega) (by omega) λu hu=>s2 u (List.mem_of_mem_tail hu)
 have q2:=gr_loop (L:=L) E2 X2 (all:=(([]:List G.Y)++bD [] hy)++bD [] [d]) (by simp only[nlA,lnA];omega) (a:=cS [] (sbT d)) (f:=f) (R:=⟨nm,k,hy,ySy,ozT,ozT,[],0,[],0,ySy⟩) (by omega) (cS [d] (sbT d).tail).tail 1 L (by rw[hs3,hr];rfl) (by rw[<-hs3,List.length_tail];omega) λu hu=>kg u (List.mem_of_mem_tail hu)
 have q3:=qJ (PG (([]++bD [] hy)++bD [] [d])) d (sbT d).tail [] rfl;rw[PG_congr (aMO d hy)]at q1;refine Eq.mpr (congr (congrArg (Bo M) (st.trans q1)) (q2.trans (congrArg (fdR _ f) q3))) ?_;cases hz:(sbT d).tail.find? λu=>PG (([]++bD [] hy)++bD [] [d]) u&& !decide (u=d)with
 |none=>exact .er (e:=40) (by decide) rfl rfl
 |some u=>
  have hu:=s2 u (List.mem_of_mem_tail (List.mem_of_find?_eq_some hz));refine .ok rfl rfl ⟨λt ht=>(by cases ht),Nat.zero_le _,λt ht=>?_,by show 1<=M;omega,Or.inl rfl,Or.inr hf,Nat.zero_le _⟩
  rw[List.mem_singleton]at ht;subst ht;omega
end Go.TV
