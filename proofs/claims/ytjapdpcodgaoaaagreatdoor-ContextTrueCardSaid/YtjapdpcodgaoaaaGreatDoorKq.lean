import Derived.Test.YtjapdpcodgaoaaaGreatDoorKp
open Option renaming some->aa,none->ae
open Bool renaming true->ah,false->aj,or_eq_true->d7
open Decidable renaming decide->ak
open Go.IntKind renaming i64->ez
open Go.TV.G renaming T->f5,O->f6,E->f8
open List renaming mem_singleton->ig,mem_cons->ik
set_option linter.all false
namespace Go.TV
open Go.AI Go.PI Go.Proofs
set_option maxRecDepth 20000
noncomputable section
def Ml{E:f5->Int->aDV}(h: ∀t l,0<=l->0<=(E t l).2.2): ∀(ts:au f5) (l:Int) (acc:au f6),0<=l->0<=(oE E ts l acc).2.2
 |[],l,acc,h0=>h0
 |t::ts,l,acc,h0=>by
  rw[oE];split
  .exact Ml h ts _ _ (h t l h0)
  .exact h t l h0
def Gg(w:au f8): ∀(k:Nat) (t:f5) (env:kU) (l:Int),0<=l->0<=(ev w k t env l).2.2:=by
 intro k;induction k with
 |zero=>
  intro t env l h0;by_cases e1:t.kind=1
  .rw[D3 e1];cases EA env t.name<;>exact h0
  .by_cases e2:t.kind=2
   .rw[D2 e1 e2];exact h0
   .by_cases e3:l<1
    .rw[D1 e1 e2 e3];exact h0
    .rw[a36 e1 e2 e3];exact h0
 |succ k ih=>
  intro t env l h0;by_cases e1:t.kind=1
  .rw[D3 e1];cases EA env t.name<;>exact h0
  .by_cases e2:t.kind=2
   .rw[D2 e1 e2];exact h0
   .by_cases e3:l<1
    .rw[D1 e1 e2 e3];exact h0
    .rw[Mk e1 e2 e3];have hc:0<=(Qu w k t env (l-1)).2.2:=by
      have hl:=Ml (E:=λt l=>ev w k t env l) (λt l=>ih t env l) t.args (l-1) [] (by omega)
      have i0:=ih (t.args.getD 0 wE) env (l-1) (by omega)
      unfold Qu;split
      .split
       .exact i0
       .split
        .exact ih _ _ _ i0
        .exact ih _ _ _ i0
      .split
       .exact hl
       .cases arity t.name with
        |some _=>exact hl
        |none=>exact ih _ _ _ hl
     cases aD9 w t.name with
     |none=>show 0<=l-1;omega
     |some n=>
      dsimp only
      split
      .show 0<=l-1;omega
      .split
       .show 0<=l-1;omega
       .exact hc
def bBt{w:au f8}{t:f5}{env:kU}{x:f6}(h1:t.kind=1)(h:Pp w t env x):EA env t.name=aa x:=by
 obtain⟨k,l,_,_,a3,a4⟩:=h;rw[D3 h1]at a3 a4;cases e:EA env t.name with
 |none=>rw[e]at a4;cases a4
 |some o=>rw[e]at a3;rw[<-a3]
def a3R{A B C:f5->Bool}: ∀{t:f5},bEb A B C t=ah->isA t Ap 3=ah/\∃a b c,t.args=[a,b,c]/\A a=ah/\B b=ah/\C c=ah
 |⟨k,⟨p,m⟩,v,[a,b,c]⟩,h=>by
  unfold bEb at h;simp only[aC]at h;have h1:=bL h.1;have h2:=bL h.2.1;have h3:=bL h.2.2.1;subst h1 h2 h3;exact⟨rfl,a,b,c,rfl,h.2.2.2⟩
 |⟨_,⟨_,_⟩,_,[]⟩,h=>by cases h
 |⟨_,⟨_,_⟩,_,[_]⟩,h=>by cases h
 |⟨_,⟨_,_⟩,_,[_,_]⟩,h=>by cases h
 |⟨_,⟨_,_⟩,_,_::_::_::_::_⟩,h=>by cases h
def aWs{n:eT}: ∀{t:f5},a7F n t=ah->t.kind=1/\t.name=⟨cV,n⟩
 |⟨k,⟨p,m⟩,v,l⟩,h=>by
  unfold a7F at h;simp only[aC]at h;have h1:=bL h.1;have h2:=bL h.2.1;have h3:=bL h.2.2;subst h1 h2 h3;exact⟨rfl,rfl⟩
def aIA{s:eT}: ∀{t:f5},a4Q s t=ah->t.kind=2/\Eg t.value=ak (s=([110,105,108]:eT))
 |⟨k,nm,⟨o,n,d,⟨p,m⟩,x,l⟩,q⟩,h=>by
  unfold a4Q at h;simp only[aC]at h;have h1:=bL h.1;have h2:=bL h.2.1;have h3:=bL h.2.2.2.2.1;have h4:=bL h.2.2.2.2.2.1;subst h1 h2 h3 h4;exact⟨rfl,rfl⟩
def aCD(w:au f8)(t:f5)(env:kU):aDV:=ev w 2000 t env 2000
def aDd(w:au f8)(t:f5)(env:kU):Bool:=ak ((aCD w t env).2.1=0)
def aSC(w:au f8)(t:f5)(env:kU):f6:=if(aCD w t env).2.1=0 then(aCD w t env).1 else Av
def YW(w:au f8)(t:f5)(env:kU):Bool:= !decide (aSC w t env=aGX)
section
variable{w:au f8}(hw:aT1 w){env:kU}(he: ∀b∈env,vO b.value)(hl:env.length<=1000)
include hw he hl
def aEC{t:f5}(ht:tO t=ah):Rn 63 [⟨.rc 3,t⟩,⟨.sl (.rc 17),env⟩,⟨.rc 18,(⟨w,2000⟩:G.W)⟩] (aSH w (aCD w t env))/\vO (aCD w t env).1:=by
 have h:=Kb rZ hw 2000 (by omega) t env 2000 (by omega) (by omega) ht he hl
 exact⟨h.1,h.2.1⟩
def aEv{t:f5}(ht:tO t=ah)(ho:aDd w t env=ah):YW w t env=tr (aCD w t env).1:=by
 have hv:=(aEC hw he hl ht).2;have h0:(aCD w t env).2.1=0:=bL ho;unfold YW aSC tr;rw[bJ h0];cases e:Eg (aCD w t env).1 with
 |true=>rw[bG ((aAQ hv).1 e)]
 |false=>rw[bH (λh=>by rw[(aAQ hv).2 h]at e;cases e)]
def aAb{t:f5}(ht:tO t=ah):Rn 8 [⟨.sl (.rc 15),w⟩,⟨.rc 3,t⟩,⟨.sl (.rc 17),env⟩] [⟨.bool,YW w t env⟩,⟨.bool,aDd w t env⟩]:=by
 have h:=aEC hw he hl ht;have hT: ∃s:Int,Rn 24 [⟨.sl (.rc 15),w⟩,⟨.rc 3,t⟩,⟨.sl (.rc 17),env⟩,⟨.int .i64,(2000:Int)⟩] [⟨.rc 2,aSC w t env⟩,⟨.int .i64,s⟩,⟨.int .i64,(aCD w t env).2.1⟩]:=by
  by_cases e:(aCD w t env).2.1=0
  .refine⟨ez.wrap (2000-(aCD w t env).2.2),eC (λL n=>bM4 w t env 2000 L n) ?_⟩
   simp only[bGs,aMk,bH (by omega: ¬(2000:Int)<0),aJ]
   refine lc h.1 rfl ?_;simp only[bG e,bE,bS];exact lr (by unfold aSC;rw[bJ e,e])
  .refine⟨0,eC (λL n=>bM4 w t env 2000 L n) ?_⟩
   simp only[bGs,aMk,bH (by omega: ¬(2000:Int)<0),aJ]
   refine lc h.1 rfl ?_;simp only[bH e,Bool.not_false,bV];exact lr (by unfold aSC;rw[bI e];rfl)
 obtain⟨s,hs⟩:=hT;have wo:wO (aSC w t env):=by
  unfold aSC;split
  .exact aEw h.2
  .rfl
 refine eC (λL n=>c8 w t env L n) ?_
 simp only[F8,bGz];exact lc hs rfl (lc Cv rfl (lc (aAe (aSC w t env) wo aGX) rfl (lr rfl)))
def aD6(w:au f8)(env:kU):au f5->Bool->Bool×Bool
 |[],a=>(a,ah)
 |t::l,a=>if aDd w t env=ah then aD6 w env l (a&&YW w t env)else(aj,aj)
def aPt{p:au f5}(hp:p.length<1000000): ∀(l:au f5) (k:Nat) (a:Bool),p.drop k=l->(∀t∈l,tO t=ah)->
    ∃α,∀L n m,α<=L->α<=n->α<=m->OL (cA L n) L m w p env (k:Int) a=aa [⟨.bool,(aD6 w env l a).1⟩,⟨.bool,(aD6 w env l a).2⟩]:=by
 intro l;induction l with
 |nil=>
  intro k a h1 _;have e1:=cX h1;refine⟨1,λL n m _ _ g3=>?_⟩
  obtain⟨m,rfl⟩: ∃m',m=m'+1:=⟨m-1,by omega⟩
  rw[OL,aSi,bH (by omega: ¬(k:Int)<(p.length:Int)),bS];rfl
 |cons x l ih=>
  intro k a h1 fe;obtain⟨a1,a2,a3⟩:=cZ h1;have i1:dK p (k:Int)=aa x:=(cH _ k).trans a1;obtain⟨N1,hN1⟩:=aAb hw he hl (fe x (aH ..));obtain⟨N2,hN2⟩:=ih (k+1) (a&&YW w x env) a3 λt ht=>fe t (aG _ ht)
  refine⟨max N1 N2+1,λL n m g1 g2 g3=>?_⟩
  obtain⟨m,rfl⟩: ∃m',m=m'+1:=⟨m-1,by omega⟩
  have c1:cA L n 8 [⟨.sl (.rc 15),w⟩,⟨.rc 3,x⟩,⟨.sl (.rc 17),env⟩]=aa [⟨.bool,YW w x env⟩,⟨.bool,aDd w x env⟩]:=hN1 L n (by omega) (by omega)
  have c2:=hN2 L n m (by omega) (by omega) (by omega)
  rw[OL,aSi,bG (by omega:(k:Int)<(p.length:Int)),bV,i1,cR,c1,aD6]
  show bW (!aDd w x env) _ (bW a (aK7 (cA L n) L (OL (cA L n) L m) (k:Int) w p env (YW w x env)) (aK7 (cA L n) L (OL (cA L n) L m) (k:Int) w p env aj))=_;cases e:aDd w x env with
  |false=>rfl
  |true=>
   rw[bE,bS,bJ rfl,aK7,aSh,aSh,eV (by omega)]
   cases a with
   |true=>rw[bV];exact c2
   |false=>rw[bS];exact c2
def aE9{p:au f5}(hp:p.length<1000000)(ht: ∀t∈p,tO t=ah):Rn 5 [⟨.sl (.rc 15),w⟩,⟨.sl (.rc 3),p⟩,⟨.sl (.rc 17),env⟩] [⟨.bool,(aD6 w env p ah).1⟩,⟨.bool,(aD6 w env p ah).2⟩]:=by
 obtain⟨α,hN⟩:=aPt hw he hl hp p 0 ah rfl ht;refine eC (λL n=>c5 w p env L n) ⟨α,λL n g1 g2=>?_⟩
 exact hN L n L g1 g2 g1
def aHK: ∀{p:au f5} {a:Bool},(∀t∈p,tO t=ah)->(aD6 w env p a).2=ah->(∀u∈p,aDd w u env=ah)/\(aD6 w env p a).1=(a&&p.all λu=>tr (aCD w u env).1)
 |[],a,_,_=>⟨λu hu=>(by cases hu),by simp[aD6]⟩
 |t::p,a,ht,h=>by
  rw[aD6]at h⊢;by_cases e:aDd w t env=ah
  .rw[bJ e]at h⊢;have i:=aHK (p:=p) (a:=a&&YW w t env) (λu hu=>ht u (aG _ hu)) h
   refine⟨λu hu=>?_,?_⟩
   .rcases ik.1 hu with rfl|hu
    .exact e
    .exact i.1 u hu
   .rw[i.2,aEv hw he hl (ht t (aH ..)) e,aP,Bool.and_assoc]
  .rw[bI e]at h;cases h
end
def aDZ(w:au f8)(env:kU):au f5->au f6->Prop
 |[],[]=>True
 |t::ts,x::xs=>Pp w t env x/\aDZ w env ts xs
 |_,_=>False
def aSe(w:au f8)(f:G.Y)(xs:au f6)(v:f6):Prop:=(∃n,arity f=aa n)/\mI f xs=(v,0)∨arity f=ae/\Pp w (uZ w f).body (bnd (uZ w f).params xs) v
def aBi{w:au f8}{k:Nat}{env:kU}: ∀(ts:au f5) (l:Int) (acc:au f6),0<=l->l<=(k:Int)->(oE (λt l=>ev w k t env l) ts l acc).2.1=0->∃xs,(oE (λt l=>ev w k t env l) ts l acc).1=acc++xs/\aDZ w env ts xs
 |[],l,acc,_,_,_=>⟨[],by rw[oE];simp,trivial⟩
 |t::ts,l,acc,h0,h1,h=>by
  rw[oE]at h⊢;by_cases e:(ev w k t env l).2.1=0
  .rw[bJ e]at h⊢;have le:=AE w k t env l;obtain⟨xs,q1,q2⟩:=aBi ts (ev w k t env l).2.2 (acc++ [(ev w k t env l).1]) (Gg w k t env l h0) (by omega) h
   exact⟨(ev w k t env l).1::xs,by rw[q1];simp,LI h0 h1 e,q2⟩
  .rw[bI e]at h;exact absurd h e
def BH{w:au f8}{t:f5}{env:kU}{v:f6}(h1: ¬t.kind=1)(h2: ¬t.kind=2)(ni: ¬isA t Ap 3=ah)(h:Pp w t env v): ∃xs,aDZ w env t.args xs/\aSe w t.name xs v:=by
 obtain⟨k,l,a1,a2,a3,a4⟩:=h;by_cases e3:l<1
 .rw[D1 h1 h2 e3]at a4;cases a4
 .obtain⟨k,rfl⟩: ∃j,k=j+1:=⟨k-1,by omega⟩
  rw[Mk h1 h2 e3]at a3 a4;cases e4:aD9 w t.name with
  |none=>rw[e4]at a4;cases a4
  |some n=>
   rw[e4]at a3 a4
   dsimp only at a3 a4
   by_cases e5:n≠(t.args.length:Int)
   .rw[bJ e5]at a4;cases a4
   .rw[bI e5]at a3 a4;by_cases e6:arity t.name=ae/\(uZ w t.name).cls≠1
    .rw[bJ e6]at a4;cases a4
    .rw[bI e6]at a3 a4;unfold Qu at a3 a4;rw[bI ni]at a3 a4;by_cases e7:(oE (λt l=>ev w k t env l) t.args (l-1) []).2.1=0
     .rw[bI (λh=>h e7)]at a3 a4
      obtain⟨xs,q1,q2⟩:=aBi t.args (l-1) [] (by omega) (by omega) e7
      rw[aW]at q1;have le:=Gh (E:=λt l=>ev w k t env l) (λt l=>AE w k t env l) t.args (l-1) []
      have nn:=Ml (E:=λt l=>ev w k t env l) (λt l=>Gg w k t env l) t.args (l-1) [] (by omega)
      rw[q1]at a3 a4;refine⟨xs,q2,?_⟩;cases e8:arity t.name with
      |some m=>
       rw[e8]at a3 a4;exact .inl ⟨⟨m,e8⟩,Prod.ext a3 a4⟩
      |none=>
       rw[e8]at a3 a4;exact .inr ⟨e8,k,_,nn,by omega,a3,a4⟩
     .rw[bJ e7]at a4;exact absurd a4 e7
def Gi:eT:=[101,113,117,97,108]
def vB(r:Rt):Bool:=match r with|some [⟨.bool,b⟩]=>b|_=>aj
def bHL(L M:Nat):vB (cF L M 60 116 [⟨.rc 2,bHX⟩])=ah:=by kernel_rfl
def bHM(L M:Nat):vB (cF L M 60 116 [⟨.rc 2,aGX⟩])=ah:=by kernel_rfl
def aSw{r:Rt}(h:vB r=ah):r=aa [⟨.bool,ah⟩]:=by
 unfold vB at h;split at h
 .rw[h]
 .cases h
def K9(b:Bool):Rn 116 (oV (qU b)) (bb ah):=by
 have h: ∀L M,cF L M 60 116 [⟨.rc 2,qU b⟩]=aa [⟨.bool,ah⟩]:=λL M=>by
  cases b with
  |true=>exact aSw (bHL L M)
  |false=>exact aSw (bHM L M)
 refine⟨7060,λL n h1 h2=>?_⟩
 obtain⟨L,rfl⟩: ∃q,L=q+7000:=⟨L-7000,by omega⟩
 obtain⟨n,rfl⟩: ∃q,n=q+60:=⟨n-60,by omega⟩
 have:=h L n;rw[Su]at this;exact this
def aZx{x y:f6}(hx:vO x)(hy:vO y):Rn 89 [⟨.rc 1,(⟨cV,Gi⟩:G.Y)⟩,⟨.sl (.rc 2),[x,y]⟩] (pr (qU (ak (x=y)),0)):=by
 have r2:Rn 115 [⟨.str,Gi⟩,⟨.rc 2,x⟩,⟨.rc 2,y⟩] (oV (qU (ak (x=y)))):=by
  refine eC (λL m=>aQP Gi x y L m) ?_
  simp only[aDW,HR,show ak (Gi=([101,113,117,97,108]:au UInt8))=ah from rfl,bV]
  exact lc (aAe x (aEw hx) y) rfl (lc (Bx _) rfl (lr rfl))
 have ra:=QR ⟨cV,Gi⟩;rw[show arity ⟨cV,Gi⟩=aa 2 by decide+kernel]at ra
 refine eC (λL m=>bE7 ⟨cV,Gi⟩ [x,y] L m) ?_
 simp only[a5S,KI];refine lc ra rfl ?_;have e0:dK [x,y] (0:Int)=aa x:=rfl;have e1:dK [x,y] (1:Int)=aa y:=rfl;simp only[bE,bS,show ak ((List.length [x,y]:Int)=2)=ah from rfl,show ak ((2:Int)=1)=aj from rfl,show ak ((2:Int)=2)=ah from rfl,bV,e0,e1,cR]
 refine lc r2 rfl ?_;simp only[G6,KH];refine lc (K9 _) rfl ?_;simp only[bE,bS];exact lr rfl
def aOp{x y:f6}(hx:vO x)(hy:vO y):mI ⟨cV,Gi⟩ [x,y]=(qU (ak (x=y)),0):=by
 have h:=BB rZ (f:=⟨cV,Gi⟩) (l:=[x,y]) (λo ho=>by
  rcases ik.1 ho with rfl|ho
  .exact hx
  .rw[ig]at ho;subst ho;exact hy)
 have u:=BL h.1 (aZx hx hy);injection u with u1 u2;injection u1 with _ u1;injection u2 with u2 _;injection u2 with _ u2;exact Prod.ext u1 u2
structure a5N(w:List f8):Prop where
 f: ∃g,UC w ⟨cV,Ue⟩=aa g/\g.params=[⟨cV,[112]⟩]/\a1F g.body=ah
def JU{t:f5}{s:eT}{n:Int}(h:isA t s n=ah):t.name=⟨cV,s⟩:=by
 unfold isA at h;rw[aC,aC]at h;exact bL h.1.2
def a3j{t:f5}{s s':eT}{n m:Int}(h:isA t s n=ah)(bi: ¬s=s'): ¬isA t s' m=ah:=λh'=>by
 have a:=JU h;have b:=JU h';rw[a]at b;injection b with _ b;exact bi b
def aGT{w:au f8}{B:f5}{x v:f6}(h:a1F B=ah)(hv:Pp w B (bnd [⟨cV,[112]⟩] [x]) v):Eg v= !Eg x:=by
 obtain⟨h1,a,b,c,e,ha,hb,hc⟩:=a3R h;obtain⟨y0,q1,q2,q3⟩:=a1n h1 e hv (λk t l=>Gg w k t _ l)
 have va:=aWs ha;have e0:=bBt va.1 q1;rw[va.2]at e0;have ex:y0=x:=by
  have:EA (bnd [⟨cV,[112]⟩] [x]) ⟨cV,[112]⟩=aa x:=by simp[bnd,EA]
  rw[this]at e0;exact(Option.some.inj e0).symm
 subst ex;cases hx:Eg y0 with
 |true=>
  have cc:=aIA hc;rw[Dk cc.1 (q2 hx),cc.2];rfl
 |false=>
  have cc:=aIA hb;rw[Dk cc.1 (q3 hx),cc.2];rfl
def aI1{w:au f8}{env:kU}{a:f5}{xs:au f6}(h:aDZ w env [a] xs): ∃x,xs=[x]/\Pp w a env x:=by
 match xs,h with
 |[x],h=>exact⟨x,rfl,h.1⟩
 |[],h=>exact h.elim
 |_::_::_,h=>exact h.2.elim
def a5r{w:au f8}{env:kU}{a b:f5}{xs:au f6}(h:aDZ w env [a,b] xs): ∃x y,xs=[x,y]/\Pp w a env x/\Pp w b env y:=by
 match xs,h with
 |[x,y],h=>exact⟨x,y,rfl,h.1,h.2.1⟩
 |[],h=>exact h.elim
 |[_],h=>exact h.2.elim
 |_::_::_::_,h=>exact h.2.2.elim
def aOB{w:au f8}(hw:a5N w){t a:f5}{env:kU}{v:f6}(hi:isA t Ue 1=ah)(e:t.args=[a])(h:Pp w t env v): ∃x,Pp w a env x/\Eg v= !Eg x:=by
 obtain⟨g,g1,g2,g3⟩:=hw.f;have hk:=aA1 hi;obtain⟨xs,q1,q2⟩:=BH (by omega) (by omega) (a3j hi (by decide)) h
 rw[e]at q1;obtain⟨x,rfl,q3⟩:=aI1 q1;refine⟨x,q3,?_⟩;rw[JU hi]at q2;have ar:arity ⟨cV,Ue⟩=ae:=by decide+kernel
 have fo:uZ w ⟨cV,Ue⟩=g:=by unfold uZ;rw[g1];rfl
 rcases q2 with⟨⟨n,h1⟩,_⟩|⟨_,h2⟩
 .rw[ar]at h1;cases h1
 .rw[fo,g2]at h2;exact aGT g3 h2
def a1o{w:au f8}(hw:aT1 w){t:f5}{env:kU}{x:f6}(ht:tO t=ah)(he: ∀b∈env,vO b.value)(hl:env.length<=1000)(hk: ∃k:Nat,k<=1000000/\∃l:Int,0<=l/\l<=(k:Int)/\(ev w k t env l).1=x):vO x:=by
 obtain⟨k,h0,l,h1,h2,h3⟩:=hk;rw[<-h3];exact(Kb rZ hw k h0 t env l h2 h1 ht he hl).2.1
def aTa(hF:AP){f:G.Y}{l:au f6}(hl: ∀o∈l,vO o/\cO o)(h0:(mI f l).2=0):cO (mI f l).1/\(¬f.name=Ap->jK (mI f l).1 (Q5 f.name)):=by
 obtain⟨p,h1,h2⟩:=JF hF (f:=f) λo ho=>(hl o ho).1
 have e:=(BB hF (f:=f) (l:=l) λo ho=>(hl o ho).1).1
 have u:=BL e h1;have u0:mI f l=p:=by
  injection u with u1 u2;injection u1 with _ u1;injection u2 with u2 _;injection u2 with _ u2;exact Prod.ext u1 u2
 rw[u0]at h0⊢;exact h2.2 h0 λo ho=>(hl o ho).2
def aOH{n d:eT}(h:a1r n d=ah):bNw n d:=by
 unfold a1r at h;rw[List.any_eq_true]at h;obtain⟨p,hp,h⟩:=h;simp only[aC,aD]at h;have all:numL.all (λp=>decide (DO p.1 p.2=(p.1,p.2)))=ah:=by decide+kernel
 have:=bK.1 all p hp;rw[h.1,h.2];exact aG7 (bL this)
def Vs{o:f6}(h:a4P o=ah):cO o:=by
 unfold a4P at h;simp only[d7,aC,aD,List.isEmpty_iff]at h;rcases h with h|h|h|h
 .exact .inl ⟨h.1,aOH h.2.1,h.2.2.1,h.2.2.2.1,h.2.2.2.2⟩
 .exact .inr (.inl ⟨h.1,h.2.1,h.2.2.1,h.2.2.2.1,h.2.2.2.2⟩)
 .exact .inr (.inr (.inl h))
 .refine .inr (.inr (.inr ⟨h.1,?_⟩))
  match o.pair,h.2 with
  |[a,b],_=>exact⟨a,b,rfl⟩
def vA{t:f5}:Te t=ah↔(t.kind=2->t=⟨2,aNn,t.value,[]⟩/\a4P t.value=ah)/\NU t.args=ah:=by
 cases t with|mk k n v l=>
 cases n with|mk p m=>
 rw[Te,aC,d7,Bool.not_eq_true',bD];show(¬k=2∨_)/\_↔(k=2->_)/\_;have key:(p.isEmpty&&m.isEmpty&&l.isEmpty&&a4P v)=ah↔((⟨2,⟨p,m⟩,v,l⟩:f5)=⟨2,aNn,v,[]⟩/\a4P v=ah):=by
  simp only[aC,List.isEmpty_iff];constructor
  .rintro⟨⟨⟨rfl,rfl⟩,rfl⟩,h⟩;exact⟨rfl,h⟩
  .rintro⟨h,h2⟩;injection h with _ h3 _ h4;injection h3 with h5 h6;exact⟨⟨⟨h5,h6⟩,h4⟩,h2⟩
 by_cases e:k=2
 .subst e;simp only[not_true_eq_false,false_or,forall_const];exact and_congr key Iff.rfl
 .exact⟨λh=>⟨λh2=>absurd h2 e,h.2⟩,λh=>⟨.inl e,h.2⟩⟩
def cnT'_mem: ∀{l:au f5} {t:f5},NU l=ah->t∈l->Te t=ah
 |x::l,t,h,ht=>by
  simp only[NU,aC]at h;rcases ik.1 ht with rfl|ht
  .exact h.1
  .exact cnT'_mem h.2 ht
structure aT2(w:List f8):Prop where
 v:aT1 w
 c: ∀f g,UC w f=aa g->Te g.body=ah
def bEK{w:au f8}(hw:aT2 w)(f:G.Y):Te (uZ w f).body=ah:=by
 unfold uZ;cases h:UC w f with
 |none=>rfl
 |some g=>exact hw.c f g h
structure aSc(env:kU):Prop where
 v: ∀b∈env,vO b.value
 c: ∀b∈env,cO b.value
 l:env.length<=1000
def aEs{v:G.Y}{o:f6}: ∀{env:kU},(∀b∈env,cO b.value)->EA env v=aa o->cO o
 |b::l,h,e=>by
  rw[EA]at e;split at e
  .cases e;exact h b (aH ..)
  .exact aEs (λz hz=>h z (aG _ hz)) e
def aTG: ∀{a:au G.Y} {b:au f6},(∀o∈b,cO o)->∀x∈bnd a b,cO x.value
 |[],b,_,x,hx=>by cases b<;>cases hx
 |_::_,[],_,x,hx=>by cases hx
 |p::a,o::b,h,x,hx=>by
  rcases ik.1 hx with rfl|hx
  .exact h o (aH ..)
  .exact aTG (λz hz=>h z (aG _ hz)) x hx
section
variable{w:au f8}(hw:aT2 w)
include hw
def bOX(w:au f8)(k:Nat):Prop:= ∀(t:f5) (env:kU) (l:Int),0<=l->l<=(k:Int)->tO t=ah->Te t=ah->aSc env->(ev w k t env l).2.1=0->cO (ev w k t env l).1
def bEN{k:Nat}(hk:k<=1000000){t:f5}{env:kU}{l:Int}(h0:0<=l)(h1:l<=(k:Int))(ht:tO t=ah)(he:aSc env):vO (ev w k t env l).1:=(Kb rZ hw.v k hk t env l h1 h0 ht he.v he.l).2.1
def aBh{k:Nat}(hk:k<=1000000)(h:bOX w k){env:kU}(he:aSc env): ∀(ts:au f5) (l:Int) (acc:au f6),0<=l->l<=(k:Int)->aEJ ts=ah->NU ts=ah->(∀o∈acc,vO o/\cO o)->(oE (λt l=>ev w k t env l) ts l acc).2.1=0->∀o∈(oE (λt l=>ev w k t env l) ts l acc).1,vO o/\cO o
 |[],l,acc,_,_,_,_,ha,_=>ha
 |t::ts,l,acc,h0,h1,ho,hc,ha,h2=>by
  simp only[aEJ,NU,aC]at ho hc;rw[oE]at h2⊢;by_cases e:(ev w k t env l).2.1=0
  .rw[bJ e]at h2⊢;have le:=AE w k t env l;refine aBh hk h he ts _ _ (Gg w k t env l h0) (by omega) ho.2 hc.2 (λo hm=>?_) h2
   rcases List.mem_append.1 hm with hm|hm
   .exact ha o hm
   .rw[ig]at hm;subst hm;exact⟨bEN hw hk h0 h1 ho.1 he,h t env l h0 h1 ho.1 hc.1 he e⟩
  .rw[bI e]at h2;exact absurd h2 e
def a35: ∀k:Nat,k<=1000000->bOX w k:=by
 intro k;induction k with
 |zero=>
  intro hk t env l h0 h1 ho hc he h;by_cases e1:t.kind=1
  .rw[D3 e1]at h⊢;cases e:EA env t.name with
   |none=>rw[e]at h;cases h
   |some o=>exact aEs he.c e
  .by_cases e2:t.kind=2
   .rw[D2 e1 e2];exact Vs ((vA.1 hc).1 e2).2
   .rw[D1 e1 e2 (by simp at h1;omega)]at h;cases h
 |succ k ih=>
  intro hk t env l h0 h1 ho hc he h;by_cases e1:t.kind=1
  .rw[D3 e1]at h⊢;cases e:EA env t.name with
   |none=>rw[e]at h;cases h
   |some o=>exact aEs he.c e
  .by_cases e2:t.kind=2
   .rw[D2 e1 e2];exact Vs ((vA.1 hc).1 e2).2
   .by_cases e3:l<1
    .rw[D1 e1 e2 e3]at h;cases h
    .rw[Mk e1 e2 e3]at h⊢;have toA:=(EH.1 ho).2.2;have tcA:=(vA.1 hc).2;cases e4:aD9 w t.name with
     |none=>rw[e4]at h;cases h
     |some n=>
      rw[e4]at h
      dsimp only at h⊢
      by_cases e5:n≠(t.args.length:Int)
      .rw[bJ e5]at h;cases h
      .rw[bI e5]at h⊢;by_cases e6:arity t.name=ae/\(uZ w t.name).cls≠1
       .rw[bJ e6]at h;cases h
       .rw[bI e6]at h⊢;unfold Qu at h⊢;have γ:=ih (by omega)
        by_cases e7:isA t Ap 3=ah
        .obtain⟨a,b,c,e⟩:=aA2 e7;have g0:t.args.getD 0 wE=a:=by rw[e];rfl
         have g1:t.args.getD 1 wE=b:=by rw[e];rfl
         have g2:t.args.getD 2 wE=c:=by rw[e];rfl
         have ma: ∀x∈ [a,b,c],tO x=ah/\Te x=ah:=λx hx=>by rw[<-e]at hx;exact⟨tO'_mem toA hx,cnT'_mem tcA hx⟩
         rw[bJ e7,g0,g1,g2]at h⊢;have le:=AE w k a env (l-1);have nn:=Gg w k a env (l-1) (by omega)
         by_cases e8:(ev w k a env (l-1)).2.1=0
         .rw[bI (λh=>h e8)]at h⊢
          have mb:=ma b (by simp)
          have mc:=ma c (by simp)
          split at h
          .rename_i hy;rw[bJ hy];exact γ c env _ nn (by omega) mc.1 mc.2 he h
          .rename_i hy;rw[bI hy];exact γ b env _ nn (by omega) mb.1 mb.2 he h
         .rw[bJ e8]at h;exact absurd h e8
        .rw[bI e7]at h⊢;by_cases e8:(oE (λt l=>ev w k t env l) t.args (l-1) []).2.1=0
         .rw[bI (λh=>h e8)]at h⊢
          have A:=aBh hw (by omega) γ he t.args (l-1) [] (by omega) (by omega) toA tcA (λo ho=>by cases ho) e8
          have le:=Gh (E:=λt l=>ev w k t env l) (λt l=>AE w k t env l) t.args (l-1) []
          have nn:=Ml (E:=λt l=>ev w k t env l) (λt l=>Gg w k t env l) t.args (l-1) [] (by omega)
          cases e9:arity t.name with
          |some m=>
           rw[e9]at h;exact(aTa rZ A h).1
          |none=>
           rw[e9]at h;have fb:=aTx hw.v t.name;exact γ _ _ _ nn (by omega) fb.1 (bEK hw t.name) ⟨aIN λo ho=>(A o ho).1,aTG λo ho=>(A o ho).2,Nat.le_trans (NZ _ _) fb.2⟩ h
         .rw[bJ e8]at h;exact absurd h e8
end
def OkB(w:au f8)(t:f5)(env:kU)(x:f6):Prop:= ∃(k:Nat) (l:Int),k<=1000000/\0<=l/\l<=(k:Int)/\(ev w k t env l).1=x/\(ev w k t env l).2.1=0
def OkB.v{w:au f8}{t:f5}{env:kU}{x:f6}(h:OkB w t env x):Pp w t env x:=by
 obtain⟨k,l,_,h1,h2,h3,h4⟩:=h;exact⟨k,l,h1,h2,h3,h4⟩
def aTd{w:au f8}{t:f5}{env:kU}(h:aDd w t env=ah):OkB w t env (aCD w t env).1:=⟨2000,2000,by omega,by omega,by omega,rfl,bL h⟩
def aSo(w:au f8)(env:kU):au f5->Prop
 |[]=>True
 |t::ts=>(∃x,OkB w t env x)/\aSo w env ts
def R9{w:au f8}{k:Nat}(hk:k<=1000000){env:kU}: ∀(ts:au f5) (l:Int) (acc:au f6),0<=l->l<=(k:Int)->(oE (λt l=>ev w k t env l) ts l acc).2.1=0->aSo w env ts
 |[],l,acc,_,_,_=>trivial
 |t::ts,l,acc,h0,h1,h=>by
  rw[oE]at h;by_cases e:(ev w k t env l).2.1=0
  .rw[bJ e]at h;have le:=AE w k t env l;exact⟨⟨_,k,l,hk,h0,h1,rfl,e⟩,R9 hk ts (ev w k t env l).2.2 (acc++ [(ev w k t env l).1]) (Gg w k t env l h0) (by omega) h⟩
  .rw[bI e]at h;exact absurd h e
def FA{w:au f8}{t:f5}{env:kU}{v:f6}(h1: ¬t.kind=1)(h2: ¬t.kind=2)(ni: ¬isA t Ap 3=ah)(h:OkB w t env v):aSo w env t.args:=by
 obtain⟨k,l,a0,a1,a2,a3,a4⟩:=h;by_cases e3:l<1
 .rw[D1 h1 h2 e3]at a4;cases a4
 .obtain⟨k,rfl⟩: ∃j,k=j+1:=⟨k-1,by omega⟩
  rw[Mk h1 h2 e3]at a4;cases e4:aD9 w t.name with
  |none=>rw[e4]at a4;cases a4
  |some n=>
   rw[e4]at a4
   dsimp only at a4
   by_cases e5:n≠(t.args.length:Int)
   .rw[bJ e5]at a4;cases a4
   .rw[bI e5]at a4;by_cases e6:arity t.name=ae/\(uZ w t.name).cls≠1
    .rw[bJ e6]at a4;cases a4
    .rw[bI e6]at a4;unfold Qu at a4;rw[bI ni]at a4;by_cases e7:(oE (λt l=>ev w k t env l) t.args (l-1) []).2.1=0
     .exact R9 (by omega) t.args (l-1) [] (by omega) (by omega) e7
     .rw[bJ e7]at a4;exact absurd a4 e7
def aXb{t u:f5}(h:tO t=ah)(hu:u∈t.args):tO u=ah:=tO'_mem (EH.1 h).2.2 hu
def nr{nm w:eT}{s:Int}{P:Prop}(h:wR nm=aa s)(h0:ak (nm=w)=ah)(hw:wR w=ae):P:=by
 rw[bL h0,hw]at h;cases h
def rb{nm w:eT}{x:f6}{b:Bool}(h0:ak (nm=w)=ah)(e:QV w x=b):b=QV nm x:=by rw[bL h0,e]
def Ka{b c:Bool}(h:b=c):EX oV (λL m=>eE (cA L m 144 [⟨.bool,b⟩]) λ(r4:f6×Unit)=>aa [⟨.rc 2,r4.1⟩]) (· =qU c):=eQ (Bx b) rfl ⟨qU b,gG,by rw[h]⟩
def aN2{nm:eT}{s:Int}(hr:wR nm=aa s)(x:f6):XR oV 114 [⟨.str,nm⟩,⟨.rc 2,x⟩] (· =qU (QV nm x)):=by
 refine pQ (λL m=>a4Y nm x L m) ?_
 have ν:EX oV (λL m=>De (cA L m) L aj nm nm (dQ x) x Av) (· =qU (QV nm x)):=by
  simp only[De,Qe,bS];refine cQ (λh=>Ka (rb h rfl)) λn1=>cQ (λh=>Ka (rb h rfl)) λn2=>cQ (λh=>Ka (rb h rfl)) λn3=>cQ (λh=>Ka (rb h rfl)) λn4=>cQ (λh=>?_) λn5=>cQ (λh=>nr hr h rfl) λ_=>cQ (λh=>nr hr h rfl) λ_=>cQ (λh=>nr hr h rfl) λ_=>cQ (λh=>nr hr h rfl) λ_=>cQ (λh=>nr hr h rfl) λ_=>cQ (λh=>nr hr h rfl) λ_=>cQ (λh=>nr hr h rfl) λ_=>cQ (λh=>nr hr h rfl) λ_=>cQ (λh=>nr hr h rfl) λ_=>?_
  .exact eQ (Bz x) rfl (Ka (rb h rfl))
  .exfalso;unfold wR at hr;rw[bI (bM n1),bI (bM n2),bI (bM n3),bI (bM n4),bI (bM n5)]at hr;cases hr
 simp only[aLw,Qf];exact eQ (rT rZ x) rfl (cQ (λh=>nr hr h rfl) λ_=>cQ (λh=>nr hr h rfl) λ_=>ν)
def aZv{x y:f6}(hx:vO x)(hy:vO y):XR oV 115 [⟨.str,([60]:eT)⟩,⟨.rc 2,x⟩,⟨.rc 2,y⟩] (· =qU (FI x y)):=by
 refine pQ (λL m=>aQP [60] x y L m) ?_
 simp only[aDW,HR];refine cQ (λh=>absurd h (by decide)) λ_=>cQ (λh=>absurd h (by decide)) λ_=>cQ (λh=>absurd h (by decide)) λ_=>cQ (λh=>absurd h (by decide)) λ_=>cQ (λh=>?_) λh=>absurd h (by decide)
 exact eQ (aAd rZ hx hy) rfl (Ka rfl)
def bBh{nm:eT}{x:f6}{b:Bool}(hx:vO x)(ha:arity ⟨cV,nm⟩=aa 1)(h:XR oV 114 [⟨.str,nm⟩,⟨.rc 2,x⟩] (· =qU b)):mI ⟨cV,nm⟩ [x]=(qU b,0):=by
 obtain⟨_,r1,rfl⟩:=h;have r:Rn 89 [⟨.rc 1,(⟨cV,nm⟩:G.Y)⟩,⟨.sl (.rc 2),[x]⟩] (pr (qU b,0)):=by
  have ra:=QR ⟨cV,nm⟩;rw[ha]at ra;refine eC (λL m=>bE7 ⟨cV,nm⟩ [x] L m) ?_
  simp only[a5S,KI];refine lc ra rfl ?_;have e0:dK [x] (0:Int)=aa x:=rfl;simp only[bE,bS,show ak ((List.length [x]:Int)=1)=ah from rfl,show ak ((1:Int)=1)=ah from rfl,bV,e0,cR]
  refine lc r1 rfl ?_;simp only[G6,KH];refine lc (K9 _) rfl ?_;simp only[bE,bS];exact lr rfl
 have h:=BB rZ (f:=⟨cV,nm⟩) (l:=[x]) (λo ho=>by rw[ig]at ho;subst ho;exact hx)
 have u:=BL h.1 r;injection u with u1 u2;injection u1 with _ u1;injection u2 with u2 _;injection u2 with _ u2;exact Prod.ext u1 u2
def bBg{nm:eT}{x y:f6}{b:Bool}(hx:vO x)(hy:vO y)(ha:arity ⟨cV,nm⟩=aa 2)(h:XR oV 115 [⟨.str,nm⟩,⟨.rc 2,x⟩,⟨.rc 2,y⟩] (· =qU b)):mI ⟨cV,nm⟩ [x,y]=(qU b,0):=by
 obtain⟨_,r1,rfl⟩:=h;have r:Rn 89 [⟨.rc 1,(⟨cV,nm⟩:G.Y)⟩,⟨.sl (.rc 2),[x,y]⟩] (pr (qU b,0)):=by
  have ra:=QR ⟨cV,nm⟩;rw[ha]at ra;refine eC (λL m=>bE7 ⟨cV,nm⟩ [x,y] L m) ?_
  simp only[a5S,KI];refine lc ra rfl ?_;have e0:dK [x,y] (0:Int)=aa x:=rfl;have e1:dK [x,y] (1:Int)=aa y:=rfl;simp only[bE,bS,show ak ((List.length [x,y]:Int)=2)=ah from rfl,show ak ((2:Int)=1)=aj from rfl,show ak ((2:Int)=2)=ah from rfl,bV,e0,e1,cR]
  refine lc r1 rfl ?_;simp only[G6,KH];refine lc (K9 _) rfl ?_;simp only[bE,bS];exact lr rfl
 have h:=BB rZ (f:=⟨cV,nm⟩) (l:=[x,y]) (λo ho=>by
  rcases ik.1 ho with rfl|ho
  .exact hx
  .rw[ig]at ho;subst ho;exact hy)
 have u:=BL h.1 r;injection u with u1 u2;injection u1 with _ u1;injection u2 with u2 _;injection u2 with _ u2;exact Prod.ext u1 u2
def aFm{w:eT}{s:Int}(h:wR w=aa s):arity ⟨cV,w⟩=aa 1:=by
 unfold wR at h;by_cases e1:w=[99,111,110,115,112]
 .subst e1;decide+kernel
 rw[bI e1]at h;by_cases e2:w=[115,121,109,98,111,108,112]
 .subst e2;decide+kernel
 rw[bI e2]at h;by_cases e3:w=[115,116,114,105,110,103,112]
 .subst e3;decide+kernel
 rw[bI e3]at h;by_cases e4:w=[114,97,116,105,111,110,97,108,112]
 .subst e4;decide+kernel
 rw[bI e4]at h;by_cases e5:w=[105,110,116,101,103,101,114,112]
 .subst e5;decide+kernel
 rw[bI e5]at h;cases h
def a9Y{f:G.Y}{s:Int}(h:DP f=aa s):f=⟨cV,f.name⟩/\wR f.name=aa s:=by
 unfold DP at h;split at h
 .rename_i hp;exact⟨by cases f with|mk p q=>exact congrArg (λz=>G.Y.mk z q) hp,h⟩
 .cases h
structure Dc(w:List f8)(t:f5)(env:kU)(x:f6):Prop where
 b:OkB w t env x
 v:vO x
 c:cO x
section
variable{w:au f8}(hw:aT2 w)(hn:a5N w){env:kU}(he:aSc env)
include hw he
def Fy{t:f5}{x:f6}(h:OkB w t env x)(ht:tO t=ah)(hc:Te t=ah):Dc w t env x:=by
 refine⟨h,?_,?_⟩
 .obtain⟨k,l,h0,h1,h2,h3,h4⟩:=h;exact a1o hw.v ht he.v he.l ⟨k,h0,l,h1,h2,h3⟩
 .obtain⟨k,l,h0,h1,h2,h3,h4⟩:=h;rw[<-h3];exact a35 hw k h0 t env l h1 h2 ht hc he h4
def Bp(t:f5):Prop:=tO t=ah/\Te t=ah
omit hw he in
def rO{t u:f5}(h:Bp t)(hu:u∈t.args):Bp u:=⟨aXb h.1 hu,cnT'_mem (vA.1 h.2).2 hu⟩
def aIE{t p:f5}(ht:Bp t)(h3:t.kind=3)(e:t.args=[p]){v:f6}(h:OkB w t env v): ∃x,Dc w p env x/\aSe w t.name [x] v:=by
 have ni: ¬isA t Ap 3=ah:=λh=>by
  obtain⟨a,b,c,e'⟩:=aA2 h;rw[e]at e';cases e'
 have b:=FA (by omega) (by omega) ni h
 rw[e]at b;obtain⟨x,hx⟩:=b.1;obtain⟨xs,q1,q2⟩:=BH (by omega) (by omega) ni h.v
 rw[e]at q1;obtain⟨y,rfl,q3⟩:=aI1 q1;have:=gL hx.v q3;subst this;have tp:=rO ht (u:=p) (by rw[e];simp)
 exact⟨x,Fy hw he hx tp.1 tp.2,q2⟩
def aID{t p q:f5}(ht:Bp t)(h3:t.kind=3)(e:t.args=[p,q]){v:f6}(h:OkB w t env v): ∃x y,Dc w p env x/\Dc w q env y/\aSe w t.name [x,y] v:=by
 have ni: ¬isA t Ap 3=ah:=λh=>by
  obtain⟨a,b,c,e'⟩:=aA2 h;rw[e]at e';cases e'
 have b:=FA (by omega) (by omega) ni h
 rw[e]at b;obtain⟨x,hx⟩:=b.1;obtain⟨y,hy⟩:=b.2.1;obtain⟨xs,q1,q2⟩:=BH (by omega) (by omega) ni h.v
 rw[e]at q1;obtain⟨x',y',rfl,q3,q4⟩:=a5r q1;have e1:=gL hx.v q3;subst e1;have e2:=gL hy.v q4;subst e2;have tp:=rO ht (u:=p) (by rw[e];simp)
 have tq:=rO ht (u:=q) (by rw[e];simp)
 exact⟨x,y,Fy hw he hx tp.1 tp.2,Fy hw he hy tq.1 tq.2,q2⟩
omit hw he in
def Em{f:G.Y}{xs:au f6}{v:f6}{n:Int}(h:aSe w f xs v)(ha:arity f=aa n):mI f xs=(v,0):=by
 rcases h with⟨_,h⟩|⟨h,_⟩
 .exact h
 .rw[ha]at h;cases h
def KR{t p:f5}(ht:Bp t)(h3:t.kind=3)(e:t.args=[p]){s:Int}(hr:DP t.name=aa s){v:f6}(h:OkB w t env v): ∃x,Dc w p env x/\(jK x s↔tr v=ah):=by
 obtain⟨x,q1,q2⟩:=aIE hw he ht h3 e h;obtain⟨f1,f2⟩:=a9Y hr;have:=Em q2 (n:=1) (by rw[f1];exact aFm f2)
 rw[f1,bBh q1.v (aFm f2) (aN2 f2 x)]at this;have hv:v=qU (QV t.name.name x):=(congrArg Prod.fst this).symm;refine⟨x,q1,(aOf f2 q1.c).trans ?_⟩;rw[hv];cases QV t.name.name x<;>decide
def KS{t p q:f5}(ht:Bp t)(h3:t.kind=3)(hn:t.name=⟨cV,Gi⟩)(e:t.args=[p,q]){v:f6}(h:OkB w t env v): ∃x y,Dc w p env x/\Dc w q env y/\(x=y↔tr v=ah):=by
 obtain⟨x,y,q1,q2,q3⟩:=aID hw he ht h3 e h;have:=Em q3 (n:=2) (by rw[hn];decide+kernel)
 rw[hn,aOp q1.v q2.v]at this;have hv:v=qU (ak (x=y)):=(congrArg Prod.fst this).symm;refine⟨x,y,q1,q2,?_⟩;rw[hv];by_cases e:x=y
 .rw[bG e];exact⟨λ_=>by decide,λ_=>e⟩
 .rw[bH e];exact⟨λh=>absurd h e,λh=>absurd h (by decide)⟩
def aNA{t p q:f5}(ht:Bp t)(h3:t.kind=3)(hn:t.name=⟨cV,[60]⟩)(e:t.args=[p,q]){v:f6}(h:OkB w t env v): ∃x y,Dc w p env x/\Dc w q env y/\(FI x y=ah↔tr v=ah):=by
 obtain⟨x,y,q1,q2,q3⟩:=aID hw he ht h3 e h;have:=Em q3 (n:=2) (by rw[hn];decide+kernel)
 rw[hn,bBg q1.v q2.v (by decide+kernel) (aZv q1.v q2.v)]at this
 have hv:v=qU (FI x y):=(congrArg Prod.fst this).symm;refine⟨x,y,q1,q2,?_⟩;rw[hv];cases FI x y<;>decide
end
def mV:au UInt8:=[110,111,116]
def Td:au UInt8:=[101,113,117,97,108]
def sM(x:f5):fA x.args+4<=hJ x:=by cases x;simp only[G.T.args,hJ];omega
def BO{x:f5}{s:au UInt8}{k:Nat}(h:isA x s (k:Int)=ah):x.args.length=k:=by
 simp only[isA,aC,aD]at h;omega
def aDh{l:au f5}(h:l.length=1): ∃p,l=[p]:=by
 match l,h with
 |[p],_=>exact⟨p,rfl⟩
def bCq{l:au f5}(h:l.length=2): ∃p q,l=[p,q]:=by
 match l,h with
 |[p,q],_=>exact⟨p,q,rfl⟩
def zOb:f6:=⟨0,[],[],⟨[],[]⟩,[],[]⟩
def LU(f:au UInt8)(l:au f5):f5:=⟨3,⟨cV,f⟩,zOb,l⟩
def neg(t:f5):f5:=if isA t mV 1 then t.args.headD t else LU mV [t]
def aER(t:f5):Bool:=ak (t.kind=2)&&(mX t.value||ak (t.value=aNK)||ak (t.value=Er))
def a6y(w:au UInt8)(x y u:f5):f9 Int:=
 if w=[60]then(if x=u/\y=aSq then aa 20 else if x=aSq/\y=u then aa 10 else ae)
 else if w=[101,113,117,97,108]then(if x=u/\aER y=ah then aa (S8 y.value)else if y=u/\aER x=ah then aa (S8 x.value)else ae)else ae
def TI(a u:f5):f9 Int:=
 if a.kind=3/\a.name.package=[108,105,115,112]then
  (match a.args with
   |[x]=>(match wR a.name.name with
    |some s=>if x=u then aa s else ae
    |none=>ae)
   |[x,y]=>a6y a.name.name x y u
   |_=>ae)
 else ae
def a5v(a u:f5):f9 Int:=
 if a=u then aa 2015 else match TI a u with
  |some s=>aa s
  |none=>if isA a mV 1=ah then(match a.args with
   |[x]=>if x=u then aa 32 else(TI x u).map λs=>ez.wrap ((BitVec.ofInt ez.bits (2047:Int)&&& ~~~ BitVec.ofInt ez.bits s).toNat:Int)
   |_=>ae)else ae
def Uq{o:f6}{r:Int}{j:Nat}(h: ∀i:Nat,i<=10->((oN r).getLsbD i=ah↔i=j)):jK o r↔gQ o=j:=h _ (uC o)
def i1(o:f6):jK o 1↔gQ o=0:=Uq (j:=0) λi hi=>by rcases aDi hi with rfl|rfl|rfl|rfl|rfl|rfl|rfl|rfl|rfl|rfl|rfl<;>decide
def i32(o:f6):jK o 32↔gQ o=5:=Uq (j:=5) λi hi=>by rcases aDi hi with rfl|rfl|rfl|rfl|rfl|rfl|rfl|rfl|rfl|rfl|rfl<;>decide
def i64(o:f6):jK o 64↔gQ o=6:=Uq (j:=6) λi hi=>by rcases aDi hi with rfl|rfl|rfl|rfl|rfl|rfl|rfl|rfl|rfl|rfl|rfl<;>decide
def aTF{o:f6}(h:cO o)(hk:o.kind=2):o=⟨2,[],[],o.sym,[],[]⟩:=by
 rcases h with h|h|h|h
 .omega
 .cases o with|mk k n d s t l=>
  obtain⟨h1,h2,h3,h4,h5⟩:=h
  try simp only at h1 h2 h3 h4 h5
  subst h1 h2 h3 h4 h5;rfl
 .omega
 .omega
def bE6{o:f6}(h:cO o)(hk:o.kind=1)(hn:o.num=[48]):o=Er:=by
 rcases h with h|h|h|h
 .cases o with|mk k n d s t l=>
  obtain⟨h1,h2,h3,h4,h5⟩:=h
  try simp only at h1 h2 h3 h4 h5 hn
  have:=h2.z hn;subst h1 hn this h3 h4 h5;rfl
 .omega
 .omega
 .omega
def aW7{o:f6}(h:cO o)(e:gQ o=0):o=Er:=by
 have k:=rN h;have hk:o.kind=1:=by omega
 refine bE6 h hk ?_;unfold gQ at e;rw[bJ hk]at e;by_cases hn:o.num=[48]
 .exact hn
 .rw[bI hn]at e;split at e
  .split at e<;>omega
  .split at e<;>omega
def aW6{o:f6}(h:cO o)(e:gQ o=5):mX o=ah:=by
 have k:=rN h;have hk:o.kind=2:=by omega
 unfold gQ at e;rw[bI (by omega),bJ hk]at e
 cases hi:mX o with
 |true=>rfl
 |false=>
  rw[hi]at e;simp only[Bool.false_eq_true,bP]at e;split at e<;>omega
def aW5{o:f6}(h:cO o)(e:gQ o=6):o=aNK:=by
 have k:=rN h;have hk:o.kind=2:=by omega
 unfold gQ at e;rw[bI (by omega),bJ hk]at e
 cases hi:mX o with
 |true=>rw[hi]at e;simp at e
 |false=>
  rw[hi]at e;simp only[Bool.false_eq_true,bP]at e;split at e
  .rename_i hs;have:=aTF h hk;rw[hs]at this;exact this
  .omega
def aA0{o:f6}(h:cO o)(e:mX o=ah):o=aGX:=by
 unfold mX at e;rw[aC]at e;have:=aTF h (bL e.1);rw[bL e.2]at this;exact this
def ZS{x o:f6}(hx:cO x)(ho:cO o)(h:(mX o||ak (o=aNK)||ak (o=Er))=ah):jK x (S8 o)↔x=o:=by
 rw[d7,d7]at h;rcases h with(h|h)|h
 .have:=aA0 ho h;subst this;rw[show S8 aGX=32 by decide+kernel,i32]
  refine⟨λe=>aA0 hx (aW6 hx e),λe=>by subst e;decide+kernel⟩
 .have:=bL h;subst this;rw[show S8 aNK=64 by decide+kernel,i64]
  refine⟨λe=>aW5 hx e,λe=>by subst e;decide+kernel⟩
 .have:=bL h;subst this;rw[show S8 Er=1 by decide+kernel,i1]
  refine⟨λe=>aW7 hx e,λe=>by subst e;decide+kernel⟩
def aHm{o:f6}:jK o 32↔Eg o=ah:=by
 have e:Eg o=mX o:=by
  unfold Eg mX;cases o with|mk k n d s t l=>
  cases s with|mk p m=>
  show(ak (k=2)&&(ak (p=[108,105,115,112])&&ak (m=[110,105,108])))=(ak (k=2)&&ak ((⟨p,m⟩:G.Y)=⟨[108,105,115,112],[110,105,108]⟩));congr 1;by_cases h1:p=[108,105,115,112]<;>by_cases h2:m=[110,105,108]<;>simp[h1,h2]
 rw[e];unfold jK;constructor
 .intro h;have hl:=aDi (uC o);have h5:gQ o=5:=by
   generalize gQ o=i at h hl;rcases hl with rfl|rfl|rfl|rfl|rfl|rfl|rfl|rfl|rfl|rfl|rfl<;>first|rfl|(exact absurd h (by decide))
  unfold gQ at h5;split at h5
  .repeat' split at h5
   all_goals omega
  .split at h5
   .split at h5
    .assumption
    .split at h5<;>omega
   .repeat' split at h5
    all_goals omega
 .intro h;have hk:o.kind=2:=by
   unfold mX at h;rw[aC]at h;exact bL h.1
  have k1: ¬o.kind=1:=by omega
  unfold gQ;rw[bI k1,bJ hk,bJ h];decide
def KW{o:f6}:jK o 32↔tr o=aj:=by
 rw[aHm];unfold tr;cases Eg o<;>simp
def a8i{t:f5}(h:aER t=ah):t.kind=2/\(mX t.value||ak (t.value=aNK)||ak (t.value=Er))=ah:=by
 unfold aER at h;rw[aC]at h;exact⟨bL h.1,h.2⟩
section
variable{w:au f8}(hw:aT2 w)(hn:a5N w){env:kU}(he:aSc env)
include hw he
def aAi{a u:f5}{s:Int}(ta:Bp a)(h:TI a u=aa s){x v:f6}(hx:Dc w u env x)(hv:OkB w a env v):jK x s↔tr v=ah:=by
 unfold TI at h;by_cases hk:a.kind=3/\a.name.package=[108,105,115,112]
 .rw[bJ hk]at h;have same: ∀{p:f5} {y:f6},Dc w p env y->p=u->y=x:=λ{p y} hy e=>by subst e;exact gL hy.b.v hx.b.v
  split at h
  .rename_i p ep;split at h
   .rename_i r er;split at h
    .rename_i e;cases h;obtain⟨y,q1,q2⟩:=KR hw he ta hk.1 ep (by unfold DP;rw[bJ hk.2];exact er) hv
     rw[<-same q1 e];exact q2
    .cases h
   .cases h
  .rename_i p q ep;unfold a6y at h;split at h
   .rename_i ew;have nm:a.name=⟨cV,[60]⟩:=by
     cases kw:a.name with|mk m n=>
     rw[kw]at ew hk;exact congr (congrArg G.Y.mk hk.2) ew
    obtain⟨y,z,q1,q2,q3⟩:=aNA hw he ta hk.1 nm ep hv;have zv: ∀{t:f5} {o:f6},Dc w t env o->t=aSq->o=Er:=λ{t o} ho e=>by
     subst e;exact Dk rfl ho.b.v
    split at h
    .rename_i e;cases h;rw[<-same q1 e.1,<-aO9 q1.c,<-q3,zv q2 e.2]
    .split at h
     .rename_i e;cases h;rw[<-same q2 e.2,<-a6T q2.c,<-q3,zv q1 e.1]
     .cases h
   .split at h
    .rename_i ew;have nm:a.name=⟨cV,Gi⟩:=by
      cases kw:a.name with|mk m n=>
      rw[kw]at ew hk;exact congr (congrArg G.Y.mk hk.2) ew
     obtain⟨y,z,q1,q2,q3⟩:=KS hw he ta hk.1 nm ep hv;have cv: ∀{t:f5} {o:f6},Dc w t env o->aER t=ah->o=t.value/\(mX o||ak (o=aNK)||ak (o=Er))=ah:=λ{t o} ho e=>by
      have k:=a8i e;have:=Dk k.1 ho.b.v;exact⟨this,by rw[this];exact k.2⟩
     split at h
     .rename_i e;cases h;have c:=cv q2 e.2;rw[<-c.1,<-q3,<-same q1 e.1];exact ZS q1.c q2.c c.2
     .split at h
      .rename_i e;cases h;have c:=cv q1 e.2;rw[<-c.1,<-q3,<-same q2 e.1];exact(ZS q2.c q1.c c.2).trans ⟨λe=>e.symm,λe=>e.symm⟩
      .cases h
    .cases h
  .cases h
 .rw[bI hk]at h;cases h
include hn
def D6{t p:f5}(ht:Bp t)(hi:isA t mV 1=ah)(e:t.args=[p]){v:f6}(h:OkB w t env v): ∃y,Dc w p env y/\tr v= !tr y:=by
 obtain⟨y,q1,_⟩:=aIE hw he ht (aA1 hi) e h;obtain⟨y',q2,q3⟩:=aOB hn hi e h.v;have:=gL q1.b.v q2;subst this;exact⟨y,q1,by unfold tr;rw[q3]⟩
def a5u{a u:f5}{s:Int}(ta:Bp a)(h:a5v a u=aa s){v:f6}(hv:OkB w a env v)(ht:tr v=ah){x:f6}(hx:Dc w u env x):jK x s:=by
 have nt: ∀{y:f6},tr y=ah->¬jK y 32:=λ{y} h h'=>by rw[KW.1 h']at h;cases h
 unfold a5v at h;split at h
 .rename_i e;cases h;subst e;have:=gL hv.v hx.b.v;subst this;have:=aA4 (nt ht)
  rwa [show wN (oN 2047&&& ~~~ oN 32)=2015 by decide]at this
 .split at h
  .rename_i r er;cases h;exact(aAi hw he ta er hx hv).2 ht
  .split at h
   .rename_i hi;split at h
    .rename_i p ep;obtain⟨y,q1,q2⟩:=D6 hw hn he ta hi ep hv;have hy:tr y=aj:=by rw[ht]at q2;cases hy:tr y<;>rw[hy]at q2<;>simp at q2⊢
     split at h
     .rename_i e;cases h;subst e;have:=gL q1.b.v hx.b.v;subst this;exact KW.2 hy
     .obtain⟨r,hr,rfl⟩:=aF.1 h;have:=aAi hw he (rO ta (by rw[ep];simp)) hr hx q1.b
      exact aA4 λh=>by rw[this.1 h]at hy;cases hy
    .cases h
   .cases h
omit hn in
def aBs: ∀{ts:au f5} {xs:au f6},aSo w env ts->(∀t∈ts,Bp t)->aDZ w env ts xs->∀o∈xs,vO o/\cO o
 |[],[],_,_,_,o,ho=>(by cases ho)
 |t::ts,x::xs,hb,ht,hv,o,ho=>by
  obtain⟨⟨y,hy⟩,hb⟩:=hb;have:=gL hy.v hv.1;subst this;have tt:=ht t (aH ..);rcases ik.1 ho with rfl|ho
  .have:=Fy hw he hy tt.1 tt.2;exact⟨this.v,this.c⟩
  .exact aBs hb (λu hu=>ht u (aG _ hu)) hv.2 o ho
 |[],_::_,_,_,h,_,_=>h.elim
 |_::_,[],_,_,h,_,_=>h.elim
omit hn in
def aOw{u:f5}(tu:Bp u)(hk:u.kind=3){k:Int}(ha:arity u.name=aa k)(vw: ¬u.name.name=Ap){x:f6}(hx:Dc w u env x):jK x (Q5 u.name.name):=by
 have ni: ¬isA u Ap 3=ah:=λh=>vw (by rw[JU h])
 have b:=FA (by omega) (by omega) ni hx.b
 obtain⟨xs,q1,q2⟩:=BH (by omega) (by omega) ni hx.b.v
 have hp:=Em q2 ha;have hl:=aBs hw he b (λt ht=>rO tu ht) q1
 have:=(aTa rZ (f:=u.name) hl (by rw[hp])).2 vw
 rw[hp]at this;exact this
def aSE(u:f5)(b:Int)(a:f5):Int:=match a5v a u with
 |some s=>aQY b s
 |none=>b
def aUF(w:au f8)(env:kU)(a:au f5):Prop:= ∀t∈a,Bp t/\∃v,OkB w t env v/\tr v=ah
def RW{u:f5}{x:f6}(hx:Dc w u env x): ∀(a:au f5) (o:Int),aUF w env a->jK x o->jK x (a.foldl (aSE u) o)
 |[],o,_,h=>h
 |t::a,o,ha,h=>by
  refine RW hx a _ (λz hz=>ha z (aG _ hz)) ?_
  obtain⟨tt,v,hv,ht⟩:=ha t (aH ..);unfold aSE;split
  .rename_i s e;exact aHo.2 ⟨h,a5u hw hn he tt e hv ht hx⟩
  .exact h
def aGZ{t:f5}(hi: ¬isA t mV 1=ah)(h:Bp (neg t)){v:f6}(hv:OkB w (neg t) env v)(ht:tr v=ah): ∃y,Dc w t env y/\tr y=aj:=by
 unfold neg at h hv;rw[bI hi]at h hv;obtain⟨y,q1,q2⟩:=D6 hw hn he h (p:=t) (by unfold isA LU;simp;exact⟨⟨rfl,rfl⟩,rfl⟩) rfl hv
 exact⟨y,q1,by rw[ht]at q2;cases hy:tr y<;>rw[hy]at q2<;>simp at q2⊢⟩
def aO2{t:f5}(tt:Bp t)(h:Bp (neg t)){v:f6}(hv:OkB w (neg t) env v)(ht:tr v=ah){y:f6}(hy:OkB w t env y):tr y=aj:=by
 by_cases hi:isA t mV 1=ah
 .obtain⟨p,hp⟩:=aDh (BO (k:=1) hi);obtain⟨z,q1,q2⟩:=D6 hw hn he tt hi hp hy;have e:neg t=p:=by unfold neg;rw[bJ hi,hp];rfl
  rw[e]at hv;have:=gL hv.v q1.b.v;subst this;rw[q2,ht];rfl
 .obtain⟨z,q1,q2⟩:=aGZ hw hn he hi h hv ht;rw[gL hy.v q1.b.v];exact q2
end
def aSt{k:Nat}(h:k<4000000000000000000):ez.wrap (((k+1:Nat):Int)-1)=(k:Int):=by
 unfold IntKind.wrap;simp[IntKind.bits,IntKind.signed];omega
def aLA{c:cG}{L:Nat}{n1:f6->f6->Rt}{a b:f6}(hl:a.pair.length=b.pair.length)(hb:a.pair.length<1000000000)
    {s:Nat} (hs:a.pair.length=s+1): ∀(l:au f6) (x:f6) (r:au f6) (k m:Nat),a.pair.drop k=x::l->b.pair.drop k=r->l.length<m->
    (∀x,x∈a.pair->∀y,c 66 (oo x y)=aa (bb (ak (x=y))))->(∀x,x∈a.pair->∀y,n1 x y=aa (bb (ak (x=y))))->
    GS c L n1 m (s:Int) (k:Int) ((s+1:Nat):Int) a b=aa (bb (ak (x::l=r))):=by
 intro l;induction l with
 |nil=>
  intro x r k m h1 h2 h3 hc hn;obtain⟨m,rfl⟩:=sK m 1 (by simp at h3;omega)
  obtain⟨a1,a2,a3⟩:=cZ h1;have hk:k=s:=by have:=cX a3;omega
  subst hk;cases r with
  |nil=>have:=cX h2;omega
  |cons y r=>
   obtain⟨b1,b2,b3⟩:=cZ h2;have hr:r=[]:=by rw[<-b3];exact List.drop_eq_nil_of_le (by omega)
   subst hr;have e3:ak ((k:Int)<(k:Int))=aj:=by simp
   rw[GS,aCe,e3,bS,aSt (by omega),cH,cH,a1,b1,cR,cR,hn x (List.mem_of_getElem? a1)]
   simp
 |cons z l ih=>
  intro x r k m h1 h2 h3 hc hn;obtain⟨m,rfl⟩:=sK m 1 (by simp at h3;omega)
  obtain⟨a1,a2,a3⟩:=cZ h1;obtain⟨a4,a5,a6⟩:=cZ a3;cases r with
  |nil=>have:=cX h2;omega
  |cons y r=>
   obtain⟨b1,b2,b3⟩:=cZ h2;have e3:ak ((k:Int)<(s:Int))=ah:=by simp;omega
   have fw:c 66 [yR 2 x,yR 2 y]=aa [yB (ak (x=y))]:=hc x (List.mem_of_getElem? a1) y;rw[GS,aCe,e3,bV,cH,cH,a1,b1,cR,cR,fw,eW,eV (by omega)]
   by_cases e:x=y
   .subst e;simp only[bN,bE,bS];rw[ih z r (k+1) m a3 b3 (by simp at h3;omega) hc hn]
    simp
   .simp only[e,decide_false,Bool.not_false,bV];simp[e,bb]
def a59: ∀(a:f6),aEj a->∀(b:f6) (L n m:Nat),kY a<=L->kY a<=n->kY a<=m->DA (cA L n) L m a b=aa (bb (ak (a=b))):=by
 intro a;induction a using uM with
 |h k nu d s t l ih=>
  intro hw b L n m hL hn hm;simp only[aEj,kY]at hw hL hn hm;have hlen:=LH l;obtain⟨m,rfl⟩:=sK m 1 (by omega)
  obtain⟨n,rfl⟩:=sK n 1 (by omega)
  cases b with|mk k' re d' s' t' l'=>
  rw[DA];simp only[aK5,aL7,aL6,G.O.kind,G.O.num,G.O.den,G.O.sym,G.O.text,G.O.pair,G.O.mk.injEq];by_cases e1:k=k'
  .by_cases e2:nu=re
   .by_cases e3:d=d'
    .by_cases e4:s=s'
     .by_cases e5:t=t'
      .by_cases e6:(l.length:Int)=(l'.length:Int)
       .simp only[e1,e2,e3,e4,e5,e6,bN,bE,bS,bV,true_and];cases l with
        |nil=>
         have:l'=[]:=List.eq_nil_of_length_eq_zero (by simp at e6;omega)
         subst this;simp[bW,bb]
        |cons x l=>
         have e7:ak ((l'.length:Int)=0)=aj:=by simp only[aM]at e6;simp;intro h;simp[h]at e6;omega
         rw[e7,bS,<-e6];have hW: ∀y,y∈x::l->∀z,DA (cA L (n+1)) L m y z=aa (bb (ak (y=z))):=λy hy z=>
          ih y hy (by have:=lB hy;simp only[aEj];omega) z L (n+1) m (by have:=lB hy;omega) (by have:=lB hy;omega) (by have:=lB hy;omega)
         have hC: ∀y,y∈x::l->∀z,cA L (n+1) 66 (oo y z)=aa (bb (ak (y=z))):=λy hy z=>by
          show cA L (n+1) 66 [yR 2 _,yR 2 _]=_;rw[bOG];exact ih y hy (by have:=lB hy;simp only[aEj];omega) z L n L (by have:=lB hy;omega) (by have:=lB hy;omega) (by have:=lB hy;omega)
         have hz:ez.wrap (((x::l).length:Int)-1)=(l.length:Int):=aSt (by simp only[aM]at hlen;omega)
         rw[hz];have:=aLA (c:=cA L (n+1)) (L:=L) (n1:=λx0 x1=>DA (cA L (n+1)) L m x0 x1) (a:=⟨k,nu,d,s,t,x::l⟩) (b:=⟨k',re,d',s',t',l'⟩) (s:=l.length) (by show(x::l).length=l'.length;omega) (by show(x::l).length<_;omega) rfl l x l' 0 L rfl rfl (by simp only[aM]at hlen;omega) hC hW
         subst e1 e2 e3 e4 e5;exact this
       .have e7: ¬l=l':=λh=>e6 (by rw[h])
        simp[e1,e2,e3,e4,e5,e6,e7,bW,bb]
      .simp[e1,e2,e3,e4,e5,bW,bb]
     .simp[e1,e2,e3,e4,bW,bb]
    .simp[e1,e2,e3,bW,bb]
   .simp[e1,e2,bW,bb]
  .simp[e1,bW,bb]
def aB4(a:f6)(hw:aEj a)(b:f6)(L n:Nat)(hL:kY a<=L)(hn:kY a<n):cA L n 66 (oo a b)=aa (bb (ak (a=b))):=by
 obtain⟨n,rfl⟩:=sK n 1 (by omega)
 show cA L (n+1) 66 [yR 2 _,yR 2 _]=_;rw[bOG];exact a59 a hw b L n L hL (by omega) hL
def aLC{c:cG}{L:Nat}{a b:au f5}(hl:a.length=b.length)(hb:a.length<1000000000): ∀(l r:au f5) (k m:Nat),a.drop k=l->b.drop k=r->l.length<m->
    (∀x,x∈l->∀y,c 33 (aSz x y)=aa (bb (ak (x=y))))->GR c L m (a.length:Int) a b (k:Int)=aa (bb (ak (l=r))):=by
 intro l;induction l with
 |nil=>
  intro r k m h1 h2 h3 _;obtain⟨m,rfl⟩:=sK m 1 (by simp at h3;omega)
  have e1:=cX h1;have e2:r=[]:=by rw[<-h2];exact List.drop_eq_nil_of_le (by omega)
  have e3:ak ((k:Int)<(a.length:Int))=aj:=by simp;omega
  rw[GR,aCd,e3,e2];simp only[bS,bN];rfl
 |cons x l ih=>
  intro r k m h1 h2 h3 hc;obtain⟨m,rfl⟩:=sK m 1 (by simp at h3;omega)
  obtain⟨a1,a2,a3⟩:=cZ h1;cases r with
  |nil=>have:=cX h2;omega
  |cons y r=>
   obtain⟨b1,b2,b3⟩:=cZ h2;have e3:ak ((k:Int)<(a.length:Int))=ah:=by simp;omega
   have fw:c 33 [yR 3 x,yR 3 y]=aa [yB (ak (x=y))]:=hc x (aH ..) y;rw[GR,aCd,e3,bV,cH,cH,a1,b1,cR,cR,fw,eW,eV (by omega)]
   by_cases e:x=y
   .subst e;simp only[bN,bE,bS];rw[ih r (k+1) m a3 b3 (by simp at h3;omega) λz hz=>hc z (aG _ hz)]
    simp
   .simp only[e,decide_false,Bool.not_false,bV];simp[e,bb]
def a6b{a b:au f5}{L n:Nat}(hw:a.length<1000000000)(hL:a.length<L)(hx: ∀x,x∈a->∀y,cA L n 33 (aSz x y)=aa (bb (ak (x=y)))):
    cA L (n+1) 67 (bOm a b)=aa (bb (ak (a=b))):=by
 show cA L (n+1) 67 [yS 3 _,yS 3 _]=_;rw[c67];simp only[bNF,aL5];by_cases e6:(a.length:Int)=(b.length:Int)
 .have:=aLC (c:=cA L n) (L:=L) (by omega) hw a b 0 L rfl rfl hL hx
  rw[e6]at this;simp only[e6,bN,bE,bS];exact this
 .have e7: ¬a=b:=λh=>e6 (by rw[h])
  simp[e6,e7,bW,bb]
def aKM: ∀(a:f5),aNv a->∀(b:f5) (L n:Nat),hJ a<=L->hJ a<=n->cA L n 33 (aSz a b)=aa (bb (ak (a=b))):=by
 intro a;induction a using tZ with
 |h k nm v l ih=>
  intro hw b L n hL hn;simp only[aNv,hJ]at hw hL hn;have hlen:=mE l;obtain⟨n,rfl⟩:=sK n 2 (by omega)
  cases b with|mk k' nm' v' l'=>
  show cA L (n+1+1) 33 [yR 3 _,yR 3 _]=_;rw[c33];have hv:cA L (n+1) 66 [yR 2 v,yR 2 v']=aa [yB (ak (v=v'))]:=aB4 v (by simp only[aEj];omega) v' L (n+1) (by omega) (by omega)
  have hl:cA L (n+1) 67 [yS 3 l,yS 3 l']=aa [yB (ak (l=l'))]:=a6b (by omega) (by omega) λx hx y=>ih x hx (by have:=fE hx;simp only[aNv];omega) y L n (by have:=fE hx;omega) (by have:=fE hx;omega)
  simp only[bNM,aMg,aK9,aMf,G.T.kind,G.T.name,G.T.value,G.T.args,G.T.mk.injEq,hv,hl,eW];by_cases e1:k=k'
  .by_cases e2:nm=nm'
   .by_cases e3:v=v'
    .simp[e1,e2,e3,bW,bb]
    .simp[e1,e2,e3,bW,bb]
   .simp[e1,e2,bW,bb]
  .simp[e1,bW,bb]
def uN{W:Type}{b:f5}{K:f5×Unit->f9 W}:jE (aa [yR 3 b]) K=K (b,()):=rfl
def a4U{t:f5}{s:au UInt8}{k:Int}{L n:Nat}:cA L (n+1) 64 (bGM t s k)=aa (bb (isA t s k)):=by
 show cA L (n+1) 64 [yR 3 _,yT _,yI _]=_;rw[c64,bNH,aL9];simp only[aK6,aL8,isA];by_cases e1:t.kind=3
 .by_cases e2:t.name=⟨cV,s⟩
  .have e2':t.name=G.Y.mk [108,105,115,112] s:=e2;simp[e1,e2,e2',bW,bb,cV]
  .have e2': ¬t.name=G.Y.mk [108,105,115,112] s:=e2;simp[e1,e2,e2',bW,bb,cV]
 .simp[e1,bW,bb]
def G5{s:au UInt8}{l:au f5}{L n:Nat}:cA L (n+2) 65 [yT s,yS 3 l]=aa [yR 3 (LU s l)]:=by
 rw[c65,bNG,aUY,c91];rfl
def aAS{t:f5}{L n:Nat}:cA L (n+3) 31 [yR 3 t]=aa [yR 3 (neg t)]:=by
 have h1:cA L (n+2) 64 [yR 3 t,yT mV,yI (1:Int)]=aa [yB (isA t mV 1)]:=a4U;have h2:cA L (n+2) 65 [yT mV,yS 3 ([t]:au f5)]=aa [yR 3 (LU mV [t])]:=G5;simp only[mV]at h1 h2;rw[c31,bNO,aVd,h1,eW];change bW (isA t mV 1) _ _=_;cases e:isA t mV 1 with
 |false=>rw[bS,show neg t=LU mV [t] from by simp[neg,e]];erw[h2];rw[uN];rfl
 |true=>
  obtain⟨p,hp⟩:=aDh (BO (k:=1) e);rw[bV,hp];simp[neg,e,hp,dK,ob]
def bNs(x:Rt):Prop:= ∃t:f5,x=aa [yR 3 t]
def LL{W:Type}{a:Int}{t:f5}{b:Bool}{K:Int×f5×Bool×Unit->f9 W}:gO (D:=U0.D) [.int .i64,.rc 3,.bool] (aa [yI a,yR 3 t,yB b]) K=K (a,t,b,()):=rfl
def aEZ{x y:f5}{L n:Nat}:cA L (n+3) 32 [yR 3 x,yR 3 y]=aa [yR 3 (LU Td [x,y])]:=by
 rw[c32,bNN,aVc];have h2:cA L (n+2) 65 [yT Td,yS 3 ([x,y]:au f5)]=aa [yR 3 (LU Td [x,y])]:=G5;simp only[Td]at h2;rw[h2];rfl
def aNS{x:f5}{L n:Nat}:bNs (cA L (n+3) 92 [yR 3 x]):=by
 rw[c92,bNz,aUQ];have h2:cA L (n+2) 65 [yT mV,yS 3 ([x]:au f5)]=aa [yR 3 (LU mV [x])]:=G5;simp only[mV]at h2;rw[h2];exact⟨_,rfl⟩
def EZ:rowsL=[⟨[105,102],3⟩,⟨[101,113,117,97,108],2⟩,⟨[99,111,110,115],2⟩,⟨[99,97,114],1⟩,⟨[99,100,114],1⟩,⟨[99,111,110,115,112],1⟩,⟨[115,121,109,98,111,108,112],1⟩,⟨[115,116,114,105,110,103,112],1⟩,⟨[114,97,116,105,111,110,97,108,112],1⟩,⟨[105,110,116,101,103,101,114,112],1⟩,⟨[98,105,110,97,114,121,45,43],2⟩,⟨[98,105,110,97,114,121,45,42],2⟩,⟨[117,110,97,114,121,45,45],1⟩,⟨[117,110,97,114,121,45,47],1⟩,⟨[60],2⟩,⟨[110,117,109,101,114,97,116,111,114],1⟩,⟨[100,101,110,111,109,105,110,97,116,111,114],1⟩,⟨[102,108,111,111,114],1⟩,⟨[115,121,109,98,111,108,45,110,97,109,101],1⟩,⟨[115,121,109,98,111,108,45,112,97,99,107,97,103,101,45,110,97,109,101],1⟩,⟨[105,110,116,101,114,110],2⟩,⟨[115,116,114,105,110,103,45,97,112,112,101,110,100],2⟩,⟨[115,116,114,105,110,103,45,108,101,110,103,116,104],1⟩,⟨[115,116,114,105,110,103,45,98,121,116,101],2⟩,⟨[98,121,116,101,45,115,116,114,105,110,103],1⟩]:=rfl
def Dy{x:au UInt8}: ∀{l:au G.R},(∀r∈l,¬r.name=x)->lP x l=ae
 |[],_=>rfl
 |r::l,h=>by rw[lP,bI (h r (aH ..)),Dy λy hy=>h y (aG _ hy)]
def a6p(s:G.Y)(L n:Nat):cA L (n+1) 70 [yR 1 s]=aa (oI (arity s)):=by
 rw[bOE,bG7,aL1];by_cases e:s.package=cV
 .have e':ak (s.package=([108,105,115,112]:au UInt8))=ah:=bG e;have ea:arity s=lP s.name rowsL:=by simp[arity,e]
  rw[e',ea];simp only[bE,bS];generalize s.name=x;simp only[aK4,aK3,aL0,aLZ];by_cases hm: ∃r∈rowsL,r.name=x
  .obtain⟨r,hr,rfl⟩:=hm;rw[EZ]at hr;simp only[ik,List.not_mem_nil,or_false]at hr;rcases hr with rfl|rfl|rfl|rfl|rfl|rfl|rfl|rfl|rfl|rfl|rfl|rfl|rfl|rfl|rfl|rfl|rfl|rfl|rfl|rfl|rfl|rfl|rfl|rfl|rfl
   all_goals rfl
  .have hn: ∀r∈rowsL,¬r.name=x:=λr hr h=>hm ⟨r,hr,h⟩
   rw[Dy hn];rw[EZ]at hn;simp only[List.forall_mem_cons,G.R.name]at hn;obtain⟨h0,h1,h2,h3,h4,h5,h6,h7,h8,h9,h10,h11,aPv,h13,h14,h15,h16,h17,h18,h19,h20,bKW,h22,h23,bEk,-⟩:=hn;simp only[Ne.symm h0,Ne.symm h1,Ne.symm h2,Ne.symm h3,Ne.symm h4,Ne.symm h5,Ne.symm h6,Ne.symm h7,Ne.symm h8,Ne.symm h9,Ne.symm h10,Ne.symm h11,Ne.symm aPv,Ne.symm h13,Ne.symm h14,Ne.symm h15,Ne.symm h16,Ne.symm h17,Ne.symm h18,Ne.symm h19,Ne.symm h20,Ne.symm bKW,Ne.symm h22,Ne.symm h23,Ne.symm bEk,decide_false,bS,oI]
 .have e':ak (s.package=([108,105,115,112]:au UInt8))=aj:=bH e;have ea:arity s=ae:=by simp[arity,e]
  rw[e',ea];rfl
end
end Go.TV
