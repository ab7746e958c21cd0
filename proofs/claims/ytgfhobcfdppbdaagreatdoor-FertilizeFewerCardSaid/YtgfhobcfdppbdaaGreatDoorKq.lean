import Derived.Test.YtgfhobcfdppbdaaGreatDoorKp
open Option renaming some->aa
open Bool renaming true->ae,false->ah,not_false->b8,or_eq_true->b9
open Decidable renaming decide->aj
open List renaming length->ak,mem_of_getElem?->ef,drop_eq_nil_of_le->eu
open Nat renaming ble->an,zero_le->a8,ble_eq->d7
set_option linter.unusedVariables false
set_option linter.unusedSimpArgs false
set_option linter.constructorNameAsVariable false
set_option linter.defProp false
namespace Go.TV
open Go.AI Go.PI Go.Proofs
set_option maxRecDepth 20000
def T6{E:G.T->Int->aDt}(h: ∀t l,0<=l->0<=(E t l).2.2): ∀(ts:List G.T) (l:Int) (acc:List G.O),0<=l->0<=(oD E ts l acc).2.2
 |[],l,acc,h0=>h0
 |t::ts,l,acc,h0=>by
  rw[oD];split
  .exact T6 h ts _ _ (h t l h0)
  .exact h t l h0
def IG(w:List G.E): ∀(k:Nat) (t:G.T) (env:lQ) (l:Int),0<=l->0<=(ev w k t env l).2.2:=by
 intro k;induction k with
 |zero=>
  intro t env l h0;by_cases e1:t.kind=1
  .rw[G1 e1];cases JM env t.name<;>exact h0
  .by_cases e2:t.kind=2
   .rw[G0 e1 e2];exact h0
   .by_cases e3:l<1
    .rw[GZ e1 e2 e3];exact h0
    .rw[a6d e1 e2 e3];exact h0
 |succ k ih=>
  intro t env l h0;by_cases e1:t.kind=1
  .rw[G1 e1];cases JM env t.name<;>exact h0
  .by_cases e2:t.kind=2
   .rw[G0 e1 e2];exact h0
   .by_cases e3:l<1
    .rw[GZ e1 e2 e3];exact h0
    .rw[Rw e1 e2 e3];have hc:0<=(RA w k t env (l-1)).2.2:=by
      have hl:=T6 (E:=λt l=>ev w k t env l) (λt l=>ih t env l) t.args (l-1) [] (by omega)
      have i0:=ih (t.args.getD 0 zA) env (l-1) (by omega)
      unfold RA;split
      .split
       .exact i0
       .split
        .exact ih _ _ _ i0
        .exact ih _ _ _ i0
      .split
       .exact hl
       .cases arity t.name with
        |some _=>exact hl
        |none=>exact ih _ _ _ hl
     cases aIC w t.name with
     |none=>show 0<=l-1;omega
     |some n=>
      dsimp only
      split
      .show 0<=l-1;omega
      .split
       .show 0<=l-1;omega
       .exact hc
def bC6{w:List G.E}{t:G.T}{env:lQ}{x:G.O}(h1:t.kind=1)(h:uI w t env x):JM env t.name=aa x:=by
 obtain⟨k,l,_,_,a3,a4⟩:=h;rw[G1 h1]at a3 a4;cases e:JM env t.name with
 |none=>rw[e]at a4;cases a4
 |some o=>rw[e]at a3;rw[<-a3]
def a5P{A B C:G.T->Bool}: ∀{t:G.T},bFz A B C t=ae->qQ t Sx 3=ae/\∃a b c,t.args=[a,b,c]/\A a=ae/\B b=ae/\C c=ae
 |⟨k,⟨p,m⟩,v,[a,b,c]⟩,h=>by
  unfold bFz at h;simp only[aC]at h;have h1:=of_decide_eq_true h.1;have h2:=of_decide_eq_true h.2.1;have h3:=of_decide_eq_true h.2.2.1;subst h1 h2 h3;exact⟨rfl,a,b,c,rfl,h.2.2.2⟩
 |⟨_,⟨_,_⟩,_,[]⟩,h=>by cases h
 |⟨_,⟨_,_⟩,_,[_]⟩,h=>by cases h
 |⟨_,⟨_,_⟩,_,[_,_]⟩,h=>by cases h
 |⟨_,⟨_,_⟩,_,_::_::_::_::_⟩,h=>by cases h
def aWm{n:fY}: ∀{t:G.T},a9U n t=ae->t.kind=1/\t.name=⟨eE,n⟩
 |⟨k,⟨p,m⟩,v,l⟩,h=>by
  unfold a9U at h;simp only[aC]at h;have h1:=of_decide_eq_true h.1;have h2:=of_decide_eq_true h.2.1;have h3:=of_decide_eq_true h.2.2;subst h1 h2 h3;exact⟨rfl,rfl⟩
def aIh{s:fY}: ∀{t:G.T},a6P s t=ae->t.kind=2/\Gw t.value=aj (s=([110,105,108]:fY))
 |⟨k,nm,⟨o,n,d,⟨p,m⟩,x,l⟩,q⟩,h=>by
  unfold a6P at h;simp only[aC]at h;have h1:=of_decide_eq_true h.1;have h2:=of_decide_eq_true h.2.1;have h3:=of_decide_eq_true h.2.2.2.2.1;have h4:=of_decide_eq_true h.2.2.2.2.2.1;subst h1 h2 h3 h4;exact⟨rfl,rfl⟩
noncomputable def JO(w:List G.E)(t:G.T)(env:lQ):aDt:=ev w 2000 t env 2000
noncomputable def aCI(w:List G.E)(t:G.T)(env:lQ):Bool:=aj ((JO w t env).2.1=0)
noncomputable def aSt(w:List G.E)(t:G.T)(env:lQ):G.O:=if(JO w t env).2.1=0 then(JO w t env).1 else By
noncomputable def aSm(w:List G.E)(t:G.T)(env:lQ):Bool:= !decide (aSt w t env=aS5)
def aGe{w:List G.E}{t:G.T}{env:lQ}(h:aCI w t env=ae):uI w t env (JO w t env).1:=⟨2000,2000,by omega,by omega,rfl,of_decide_eq_true h⟩
section
variable{w:List G.E}(hw:aNr w){env:lQ}(he: ∀b∈env,vO b.value)(hl:env.length<=1000)
include hw he hl
def aD0{t:G.T}(ht:tO t=ae):Rn 94 [⟨.rc 3,t⟩,⟨.sl (.rc 17),env⟩,⟨.rc 19,(⟨w,2000⟩:G.W)⟩] (aSz w (JO w t env))/\vO (JO w t env).1:=by
 have h:=Rv T2 hw 2000 (by omega) t env 2000 (by omega) (by omega) ht he hl
 exact⟨h.1,h.2.1⟩
def aWq{t:G.T}(ht:tO t=ae)(ho:aCI w t env=ae):aSm w t env=tr (JO w t env).1:=by
 have hv:=(aD0 hw he hl ht).2;have h0:(JO w t env).2.1=0:=of_decide_eq_true ho;unfold aSm aSt tr;rw[bI h0];cases e:Gw (JO w t env).1 with
 |true=>rw[bF ((aAw hv).1 e)]
 |false=>rw[bG (λh=>by rw[(aAw hv).2 h]at e;cases e)]
def aNY{t:G.T}(ht:tO t=ae):Rn 27 [⟨.sl (.rc 15),w⟩,⟨.rc 3,t⟩,⟨.sl (.rc 17),env⟩] [⟨.bool,aSm w t env⟩,⟨.bool,aCI w t env⟩]:=by
 have h:=aD0 hw he hl ht;have hT: ∃s:Int,Rn 70 [⟨.sl (.rc 15),w⟩,⟨.rc 3,t⟩,⟨.sl (.rc 17),env⟩,⟨.int .i64,(2000:Int)⟩] [⟨.rc 2,aSt w t env⟩,⟨.int .i64,s⟩,⟨.int .i64,(JO w t env).2.1⟩]:=by
  by_cases e:(JO w t env).2.1=0
  .refine⟨IntKind.i64.wrap (2000-(JO w t env).2.2),dR (λL n=>bOT w t env 2000 L n) ?_⟩
   simp only[bHX,aLC,bG (by omega: ¬(2000:Int)<0),aJ]
   refine lc h.1 rfl ?_;simp only[bF e,bD,bL];exact lr (by unfold aSt;rw[bI e,e])
  .refine⟨0,dR (λL n=>bOT w t env 2000 L n) ?_⟩
   simp only[bHX,aLC,bG (by omega: ¬(2000:Int)<0),aJ]
   refine lc h.1 rfl ?_;simp only[bG e,b8,bN];exact lr (by unfold aSt;rw[bH e];rfl)
 obtain⟨s,hs⟩:=hT;have wo:wO (aSt w t env):=by
  unfold aSt;split
  .exact aDV h.2
  .rfl
 refine dR (λL n=>c27 w t env L n) ?_
 simp only[bP2,aU0];exact lc hs rfl (lc BE rfl (lc (ZO (aSt w t env) wo aS5) rfl (lr rfl)))
noncomputable def RN(w:List G.E)(env:lQ):List G.T->Bool->Bool×Bool
 |[],a=>(a,ae)
 |t::l,a=>if aCI w t env=ae then RN w env l (a||aSm w t env)else(ah,ah)
def aQH{p:List G.T}(hp:p.length<1000000): ∀(l:List G.T) (k:Nat) (a:Bool),p.drop k=l->(∀t∈l,tO t=ae)->
    ∃α,∀L n m,α<=L->α<=n->α<=m->MZ (bP L n) L m w p env (k:Int) a=aa [⟨.bool,(RN w env l a).1⟩,⟨.bool,(RN w env l a).2⟩]:=by
 intro l;induction l with
 |nil=>
  intro k a h1 _;have e1:=cI h1;refine⟨1,λL n m _ _ g3=>?_⟩
  obtain⟨m,rfl⟩: ∃m',m=m'+1:=⟨m-1,by omega⟩
  rw[MZ,aR6,bG (by omega: ¬(k:Int)<(p.length:Int)),bL];rfl
 |cons x l ih=>
  intro k a h1 fa;obtain⟨a1,a2,a3⟩:=cL h1;have i1:cU p (k:Int)=aa x:=(bV _ k).trans a1;obtain⟨N1,hN1⟩:=aNY hw he hl (fa x (aH ..));obtain⟨N2,hN2⟩:=ih (k+1) (a||aSm w x env) a3 λt ht=>fa t (aG _ ht)
  refine⟨max N1 N2+1,λL n m g1 g2 g3=>?_⟩
  obtain⟨m,rfl⟩: ∃m',m=m'+1:=⟨m-1,by omega⟩
  have c1:bP L n 27 [⟨.sl (.rc 15),w⟩,⟨.rc 3,x⟩,⟨.sl (.rc 17),env⟩]=aa [⟨.bool,aSm w x env⟩,⟨.bool,aCI w x env⟩]:=hN1 L n (by omega) (by omega)
  have c2:=hN2 L n m (by omega) (by omega) (by omega)
  rw[MZ,aR6,bF (by omega:(k:Int)<(p.length:Int)),bN,i1,cH,c1,RN]
  show bR (!aCI w x env) _ (bR a (aKC (bP L n) L (MZ (bP L n) L m) (k:Int) w p env ae) (aKC (bP L n) L (MZ (bP L n) L m) (k:Int) w p env (aSm w x env)))=_;cases e:aCI w x env with
  |false=>rfl
  |true=>
   rw[bD,bL,bI rfl,aKC,aR5,aR5,eC (by omega)]
   cases a with
   |true=>rw[bN];exact c2
   |false=>rw[bL];exact c2
def Qn{p:List G.T}(hp:p.length<1000000)(ht: ∀t∈p,tO t=ae):Rn 7 [⟨.sl (.rc 15),w⟩,⟨.sl (.rc 3),p⟩,⟨.sl (.rc 17),env⟩] [⟨.bool,(RN w env p ah).1⟩,⟨.bool,(RN w env p ah).2⟩]:=by
 obtain⟨α,hN⟩:=aQH hw he hl hp p 0 ah rfl ht;refine dR (λL n=>c7 w p env L n) ⟨α,λL n g1 g2=>?_⟩
 exact hN L n L g1 g2 g1
def UN: ∀{p:List G.T} {a:Bool},(∀t∈p,tO t=ae)->(RN w env p a).2=ae->(∀u∈p,aCI w u env=ae)/\(RN w env p a).1=(a||p.any λu=>tr (JO w u env).1)
 |[],a,_,_=>⟨λu hu=>(by cases hu),by simp[RN]⟩
 |t::p,a,ht,h=>by
  rw[RN]at h⊢;by_cases e:aCI w t env=ae
  .rw[bI e]at h⊢;have i:=UN (p:=p) (a:=a||aSm w t env) (λu hu=>ht u (aG _ hu)) h
   refine⟨λu hu=>?_,?_⟩
   .rcases List.mem_cons.1 hu with rfl|hu
    .exact e
    .exact i.1 u hu
   .rw[i.2,aWq hw he hl (ht t (aH ..)) e,List.any_cons,Bool.or_assoc]
  .rw[bH e]at h;cases h
end
end Go.TV
namespace Go.TV
open Go.AI Go.PI Go.Proofs
set_option maxRecDepth 20000
def YS(w:List G.E)(env:lQ):List G.T->List G.O->Prop
 |[],[]=>True
 |t::ts,x::xs=>uI w t env x/\YS w env ts xs
 |_,_=>False
def a8o(w:List G.E)(f:G.Y)(xs:List G.O)(v:G.O):Prop:=(∃n,arity f=aa n)/\pK f xs=(v,0)∨arity f=none/\uI w (uG w f).body (bnd (uG w f).params xs) v
def aC9{w:List G.E}{f:G.Y}{xs:List G.O}{v v':G.O}(h:a8o w f xs v)(h':a8o w f xs v'):v=v':=by
 rcases h with⟨⟨n,h1⟩,h2⟩|⟨h1,h2⟩
 .rcases h' with⟨_,k2⟩|⟨k1,_⟩
  .rw[h2]at k2;exact congrArg Prod.fst k2
  .rw[h1]at k1;cases k1
 .rcases h' with⟨⟨n,k1⟩,_⟩|⟨_,k2⟩
  .rw[h1]at k1;cases k1
  .exact vD h2 k2
def aAS{w:List G.E}{k:Nat}{env:lQ}: ∀(ts:List G.T) (l:Int) (acc:List G.O),0<=l->l<=(k:Int)->(oD (λt l=>ev w k t env l) ts l acc).2.1=0->∃xs,(oD (λt l=>ev w k t env l) ts l acc).1=acc++xs/\YS w env ts xs
 |[],l,acc,_,_,_=>⟨[],by rw[oD];simp,trivial⟩
 |t::ts,l,acc,h0,h1,h=>by
  rw[oD]at h⊢;by_cases e:(ev w k t env l).2.1=0
  .rw[bI e]at h⊢;have le:=Fa w k t env l;obtain⟨xs,q1,q2⟩:=aAS ts (ev w k t env l).2.2 (acc++ [(ev w k t env l).1]) (IG w k t env l h0) (by omega) h
   exact⟨(ev w k t env l).1::xs,by rw[q1];simp,KN h0 h1 e,q2⟩
  .rw[bH e]at h;exact absurd h e
def AP{w:List G.E}{t:G.T}{env:lQ}{v:G.O}(h1: ¬t.kind=1)(h2: ¬t.kind=2)(ni: ¬qQ t Sx 3=ae)(h:uI w t env v): ∃xs,YS w env t.args xs/\a8o w t.name xs v:=by
 obtain⟨k,l,a1,a2,a3,a4⟩:=h;by_cases e3:l<1
 .rw[GZ h1 h2 e3]at a4;cases a4
 .obtain⟨k,rfl⟩: ∃j,k=j+1:=⟨k-1,by omega⟩
  rw[Rw h1 h2 e3]at a3 a4;cases e4:aIC w t.name with
  |none=>rw[e4]at a4;cases a4
  |some n=>
   rw[e4]at a3 a4
   dsimp only at a3 a4
   by_cases e5:n≠(t.args.length:Int)
   .rw[bI e5]at a4;cases a4
   .rw[bH e5]at a3 a4;by_cases e6:arity t.name=none/\(uG w t.name).cls≠1
    .rw[bI e6]at a4;cases a4
    .rw[bH e6]at a3 a4;unfold RA at a3 a4;rw[bH ni]at a3 a4;by_cases e7:(oD (λt l=>ev w k t env l) t.args (l-1) []).2.1=0
     .rw[bH (λh=>h e7)]at a3 a4
      obtain⟨xs,q1,q2⟩:=aAS t.args (l-1) [] (by omega) (by omega) e7
      rw[aW]at q1;have le:=Ln (E:=λt l=>ev w k t env l) (λt l=>Fa w k t env l) t.args (l-1) []
      have nn:=T6 (E:=λt l=>ev w k t env l) (λt l=>IG w k t env l) t.args (l-1) [] (by omega)
      rw[q1]at a3 a4;refine⟨xs,q2,?_⟩;cases e8:arity t.name with
      |some m=>
       rw[e8]at a3 a4;exact .inl ⟨⟨m,e8⟩,Prod.ext a3 a4⟩
      |none=>
       rw[e8]at a3 a4;exact .inr ⟨e8,k,_,nn,by omega,a3,a4⟩
     .rw[bI e7]at a4;exact absurd a4 e7
def Dg:fY:=[101,113,117,97,108]
def vB(r:Rt):Bool:=match r with|some [⟨.bool,b⟩]=>b|_=>ah
def bJd(L M:Nat):vB (cF L M 60 156 [⟨.rc 2,bJq⟩])=ae:=by kernel_rfl
def bJe(L M:Nat):vB (cF L M 60 156 [⟨.rc 2,aS5⟩])=ae:=by kernel_rfl
def aSp{r:Rt}(h:vB r=ae):r=aa [⟨.bool,ae⟩]:=by
 unfold vB at h;split at h
 .rw[h]
 .cases h
def aNX(b:Bool):Rn 156 (oV (P5 b)) (bb ae):=by
 have h: ∀L M,cF L M 60 156 [⟨.rc 2,P5 b⟩]=aa [⟨.bool,ae⟩]:=λL M=>by
  cases b with
  |true=>exact aSp (bJd L M)
  |false=>exact aSp (bJe L M)
 refine⟨7060,λL n h1 h2=>?_⟩
 obtain⟨L,rfl⟩: ∃q,L=q+7000:=⟨L-7000,by omega⟩
 obtain⟨n,rfl⟩: ∃q,n=q+60:=⟨n-60,by omega⟩
 have:=h L n;rw[aA5]at this;exact this
def a0l{x y:G.O}(hx:vO x)(hy:vO y):Rn 124 [⟨.rc 1,(⟨eE,Dg⟩:G.Y)⟩,⟨.sl (.rc 2),[x,y]⟩] (pr (P5 (aj (x=y)),0)):=by
 have r2:Rn 155 [⟨.str,Dg⟩,⟨.rc 2,x⟩,⟨.rc 2,y⟩] (oV (P5 (aj (x=y)))):=by
  refine dR (λL m=>a6V Dg x y L m) ?_
  simp only[aLb,Pj,show aj (Dg=([101,113,117,97,108]:List UInt8))=ae from rfl,bN]
  exact lc (ZO x (aDV hx) y) rfl (lc (D7 _) rfl (lr rfl))
 have ra:=aEx ⟨eE,Dg⟩;rw[show arity ⟨eE,Dg⟩=aa 2 by decide+kernel]at ra
 refine dR (λL m=>a6X ⟨eE,Dg⟩ [x,y] L m) ?_
 simp only[aLe,Pz];refine lc ra rfl ?_;have e0:cU [x,y] (0:Int)=aa x:=rfl;have e1:cU [x,y] (1:Int)=aa y:=rfl;simp only[bD,bL,show aj ((ak [x,y]:Int)=2)=ae from rfl,show aj ((2:Int)=1)=ah from rfl,show aj ((2:Int)=2)=ae from rfl,bN,e0,e1,cH]
 refine lc r2 rfl ?_;simp only[Gg,Py];refine lc (aNX _) rfl ?_;simp only[bD,bL];exact lr rfl
def aOm{x y:G.O}(hx:vO x)(hy:vO y):pK ⟨eE,Dg⟩ [x,y]=(P5 (aj (x=y)),0):=by
 have h:=aAf T2 (f:=⟨eE,Dg⟩) (l:=[x,y]) (λo ho=>by
  rcases List.mem_cons.1 ho with rfl|ho
  .exact hx
  .rw[List.mem_singleton]at ho;subst ho;exact hy)
 have u:=aAB h.1 (a0l hx hy);injection u with u1 u2;injection u1 with _ u1;injection u2 with u2 _;injection u2 with _ u2;exact Prod.ext u1 u2
end Go.TV
namespace Go.TV
open Go.AI Go.PI Go.Proofs
set_option maxRecDepth 20000
structure bPB(w:List G.E):Prop where
 f: ∃g,aCT w ⟨eE,QW⟩=aa g/\g.params=[⟨eE,[112]⟩]/\a23 g.body=ae
def aAG{t:G.T}{s:fY}{n:Int}(h:qQ t s n=ae):t.name=⟨eE,s⟩:=by
 unfold qQ at h;rw[aC,aC]at h;exact of_decide_eq_true h.1.2
def K3{t:G.T}{s s':fY}{n m:Int}(h:qQ t s n=ae)(bn: ¬s=s'): ¬qQ t s' m=ae:=λh'=>by
 have a:=aAG h;have b:=aAG h';rw[a]at b;injection b with _ b;exact bn b
def aGw{w:List G.E}{B:G.T}{x v:G.O}(h:a23 B=ae)(hv:uI w B (bnd [⟨eE,[112]⟩] [x]) v):Gw v= !Gw x:=by
 obtain⟨h1,a,b,c,e,ha,hb,hc⟩:=a5P h;obtain⟨y0,q1,q2,q3⟩:=Tu h1 e hv (λk t l=>IG w k t _ l)
 have va:=aWm ha;have e0:=bC6 va.1 q1;rw[va.2]at e0;have ex:y0=x:=by
  have:JM (bnd [⟨eE,[112]⟩] [x]) ⟨eE,[112]⟩=aa x:=by simp[bnd,JM]
  rw[this]at e0;exact(Option.some.inj e0).symm
 subst ex;cases hx:Gw y0 with
 |true=>
  have cc:=aIh hc;rw[aS0 cc.1 (q2 hx),cc.2];rfl
 |false=>
  have cc:=aIh hb;rw[aS0 cc.1 (q3 hx),cc.2];rfl
def a7q{w:List G.E}{env:lQ}{a:G.T}{xs:List G.O}(h:YS w env [a] xs): ∃x,xs=[x]/\uI w a env x:=by
 match xs,h with
 |[x],h=>exact⟨x,rfl,h.1⟩
 |[],h=>exact h.elim
 |_::_::_,h=>exact h.2.elim
def a7p{w:List G.E}{env:lQ}{a b:G.T}{xs:List G.O}(h:YS w env [a,b] xs): ∃x y,xs=[x,y]/\uI w a env x/\uI w b env y:=by
 match xs,h with
 |[x,y],h=>exact⟨x,y,rfl,h.1,h.2.1⟩
 |[],h=>exact h.elim
 |[_],h=>exact h.2.elim
 |_::_::_::_,h=>exact h.2.2.elim
def aOx{w:List G.E}(hw:bPB w){t a:G.T}{env:lQ}{v:G.O}(hi:qQ t QW 1=ae)(e:t.args=[a])(h:uI w t env v): ∃x,uI w a env x/\Gw v= !Gw x:=by
 obtain⟨g,g1,g2,g3⟩:=hw.f;have hk:=Q7 hi;obtain⟨xs,q1,q2⟩:=AP (by omega) (by omega) (K3 hi (by decide)) h
 rw[e]at q1;obtain⟨x,rfl,q3⟩:=a7q q1;refine⟨x,q3,?_⟩;rw[aAG hi]at q2;have ar:arity ⟨eE,QW⟩=none:=by decide+kernel
 have fo:uG w ⟨eE,QW⟩=g:=by unfold uG;rw[g1];rfl
 rcases q2 with⟨⟨n,h1⟩,_⟩|⟨_,h2⟩
 .rw[ar]at h1;cases h1
 .rw[fo,g2]at h2;exact aGw g3 h2
def aOy{w:List G.E}{t a b:G.T}{env:lQ}{v:G.O}(hi:qQ t Dg 2=ae)(e:t.args=[a,b])(ho: ∀x,uI w a env x∨uI w b env x->vO x)(h:uI w t env v): ∃x y,uI w a env x/\uI w b env y/\v=P5 (aj (x=y)):=by
 have hk:=Q7 hi;obtain⟨xs,q1,q2⟩:=AP (by omega) (by omega) (K3 hi (by decide)) h
 rw[e]at q1;obtain⟨x,y,rfl,q3,q4⟩:=a7p q1;refine⟨x,y,q3,q4,?_⟩;rw[aAG hi]at q2;have ar:arity ⟨eE,Dg⟩=aa 2:=by decide+kernel
 rcases q2 with⟨_,h2⟩|⟨h1,_⟩
 .rw[aOm (ho x (.inl q3)) (ho y (.inr q4))]at h2;exact(congrArg Prod.fst h2).symm
 .rw[ar]at h1;cases h1
def a2H{w:List G.E}(hw:aNr w){t:G.T}{env:lQ}{x:G.O}(ht:tO t=ae)(he: ∀b∈env,vO b.value)(hl:env.length<=1000)(hk: ∃k:Nat,k<=1000000/\∃l:Int,0<=l/\l<=(k:Int)/\(ev w k t env l).1=x):vO x:=by
 obtain⟨k,h0,l,h1,h2,h3⟩:=hk;rw[<-h3];exact(Rv T2 hw k h0 t env l h2 h1 ht he hl).2.1
section
variable{w:List G.E}{env:lQ}
def aRa(w:List G.E)(env:lQ):List G.T->List G.T->Prop
 |[],[]=>True
 |t::ts,u::us=>(∀x y,uI w t env x->uI w u env y->x=y)/\aRa w env ts us
 |_,_=>False
def Qk: ∀{ts us:List G.T} {xs ys:List G.O},aRa w env ts us->YS w env ts xs->YS w env us ys->xs=ys
 |[],[],[],[],_,_,_=>rfl
 |t::ts,u::us,x::xs,y::ys,h,h1,h2=>by rw[h.1 x y h1.1 h2.1,Qk h.2 h1.2 h2.2]
 |[],[],_::_,_,_,h,_=>h.elim
 |[],[],[],_::_,_,_,h=>h.elim
 |[],_::_,_,_,h,_,_=>h.elim
 |_::_,[],_,_,h,_,_=>h.elim
 |_::_,_::_,[],_,_,h,_=>h.elim
 |_::_,_::_,_::_,[],_,_,h=>h.elim
def aEn{t u:G.T}(hk:t.kind=3)(gk:u.kind=3)(hn:t.name=u.name)(hl:t.args.length=u.args.length)(hs:aRa w env t.args u.args){x y:G.O}(hx:uI w t env x)(hy:uI w u env y):x=y:=by
 have e0:qQ u Sx 3=qQ t Sx 3:=by unfold qQ;rw[gk,hk,hn,hl]
 by_cases hi:qQ t Sx 3=ae
 .have gl:qQ u Sx 3=ae:=by rw[e0];exact hi
  obtain⟨a,b,c,e⟩:=aGY hi;obtain⟨a',b',c',e'⟩:=aGY gl;rw[e,e']at hs;obtain⟨s1,s2,s3,_⟩:=hs;obtain⟨p,p1,p2,p3⟩:=Tu hi e hx (λk t l=>IG w k t env l)
  obtain⟨q,q1,q2,q3⟩:=Tu gl e' hy (λk t l=>IG w k t env l)
  have:=s1 p q p1 q1;subst this;cases hp:Gw p with
  |true=>exact s3 x y (p2 hp) (q2 hp)
  |false=>exact s2 x y (p3 hp) (q3 hp)
 .have gl: ¬qQ u Sx 3=ae:=by rw[e0];exact hi
  obtain⟨xs,a1,a2⟩:=AP (by omega) (by omega) hi hx
  obtain⟨ys,b1,b2⟩:=AP (by omega) (by omega) gl hy
  have:=Qk hs a1 b1;subst this;rw[<-hn]at b2;exact aC9 a2 b2
end
end Go.TV
namespace Go.TV
open Go.AI Go.PI Go.Proofs
set_option maxRecDepth 20000
def OkB(w:List G.E)(t:G.T)(env:lQ)(x:G.O):Prop:= ∃(k:Nat) (l:Int),k<=1000000/\0<=l/\l<=(k:Int)/\(ev w k t env l).1=x/\(ev w k t env l).2.1=0
def OkB.v{w:List G.E}{t:G.T}{env:lQ}{x:G.O}(h:OkB w t env x):uI w t env x:=by
 obtain⟨k,l,_,h1,h2,h3,h4⟩:=h;exact⟨k,l,h1,h2,h3,h4⟩
def bDb{w:List G.E}{t:G.T}{env:lQ}(h:aCI w t env=ae):OkB w t env (JO w t env).1:=⟨2000,2000,by omega,by omega,by omega,rfl,of_decide_eq_true h⟩
def a8D(w:List G.E)(env:lQ):List G.T->Prop
 |[]=>True
 |t::ts=>(∃x,OkB w t env x)/\a8D w env ts
def Ry{w:List G.E}{k:Nat}(hk:k<=1000000){env:lQ}: ∀(ts:List G.T) (l:Int) (acc:List G.O),0<=l->l<=(k:Int)->(oD (λt l=>ev w k t env l) ts l acc).2.1=0->a8D w env ts
 |[],l,acc,_,_,_=>trivial
 |t::ts,l,acc,h0,h1,h=>by
  rw[oD]at h;by_cases e:(ev w k t env l).2.1=0
  .rw[bI e]at h;have le:=Fa w k t env l;exact⟨⟨_,k,l,hk,h0,h1,rfl,e⟩,Ry hk ts (ev w k t env l).2.2 (acc++ [(ev w k t env l).1]) (IG w k t env l h0) (by omega) h⟩
  .rw[bH e]at h;exact absurd h e
def QP{w:List G.E}{t:G.T}{env:lQ}{v:G.O}(h1: ¬t.kind=1)(h2: ¬t.kind=2)(ni: ¬qQ t Sx 3=ae)(h:OkB w t env v):a8D w env t.args:=by
 obtain⟨k,l,a0,a1,a2,a3,a4⟩:=h;by_cases e3:l<1
 .rw[GZ h1 h2 e3]at a4;cases a4
 .obtain⟨k,rfl⟩: ∃j,k=j+1:=⟨k-1,by omega⟩
  rw[Rw h1 h2 e3]at a4;cases e4:aIC w t.name with
  |none=>rw[e4]at a4;cases a4
  |some n=>
   rw[e4]at a4
   dsimp only at a4
   by_cases e5:n≠(t.args.length:Int)
   .rw[bI e5]at a4;cases a4
   .rw[bH e5]at a4;by_cases e6:arity t.name=none/\(uG w t.name).cls≠1
    .rw[bI e6]at a4;cases a4
    .rw[bH e6]at a4;unfold RA at a4;rw[bH ni]at a4;by_cases e7:(oD (λt l=>ev w k t env l) t.args (l-1) []).2.1=0
     .exact Ry (by omega) t.args (l-1) [] (by omega) (by omega) e7
     .rw[bI e7]at a4;exact absurd a4 e7
def SP{t u:G.T}(h:tO t=ae)(hu:u∈t.args):tO u=ae:=tO'_mem (JR.1 h).2.2 hu
end Go.TV
namespace Go.TV
open Go.AI Go.PI Go.Proofs
set_option maxRecDepth 20000
def Fb{a b:Int}(h:a=b):(aa [yI a]:Rt)=aa [yI b]:=by rw[h]
def sC(k:Int)(n d:List UInt8)(s:G.Y)(t:List UInt8)(l:List G.O):(G.O.mk k n d s t l).pair=l:=rfl
def pO{x:Int}(h1: -4000000000000000000<=x)(h2:x<4000000000000000000):IntKind.i64.wrap x=x:=by
 unfold IntKind.wrap;simp[IntKind.bits,IntKind.signed];omega
def oT{W:Type}{a:Int}{K:Int×Unit->Option W}:fZ (aa [yI a]) K=K (a,()):=rfl
mutual
def nO:G.O->Nat
 |⟨_,_,_,_,_,l⟩=>1+(bif Nat.beq l.length 2 then bDP l else 0)
def bDP:List G.O->Nat
 |[]=>0
 |o::l=>nO o+bDP l
end
def aGE(o:G.O):1<=nO o:=by cases o;simp only[nO];omega
def aAx: ∀o:G.O,nO o<=kE o:=λo=>by
 induction o using mP with
 |h k n d s t l ih=>
  have h:bDP l<=gV l:=by
   clear k n d s t;induction l with
   |nil=>exact aS _
   |cons x l ih2=>
    have h1:=ih x (aH ..);have h2:=ih2 λo ho=>ih o (aG _ ho)
    simp only[bDP,gV];omega
  simp only[nO,kE];cases Nat.beq l.length 2 with
  |true=>simp only[aI];omega
  |false=>simp only[aJ];omega
def RO(left:Int)(α:Nat)(r:Int):Prop:=((α:Int)<=left->r=left-α)/\(left<α->left-α<=r/\r<= -1)
def bBZ: ∀o:G.O,∀(L n m:Nat) (left:Int),kE o<=L->kE o<=n->kE o<=m->kE o<1000000000-> -2000000000<=left->left<=2000000000->
    ∃r:Int,tF (bP L n) L m left o=aa [yI r]/\RO left (nO o) r:=λo=>by
 induction o using mP with
 |h k nm d s t l ih=>
  intro L n m left hL hn hm hw h1 h2;simp only[kE]at hL hn hm hw;obtain⟨m,rfl⟩:=sK m 1 (by omega)
  have last: ∀b:Int,(∀α:Nat,nO ⟨k,nm,d,s,t,l⟩=α->b=left)->¬(l.length=2/\0<left)->RO left (nO ⟨k,nm,d,s,t,l⟩) (left-1):=λb _ hb=>by
   simp only[nO];by_cases e:l.length=2
   .have: ¬0<left:=λh=>hb ⟨e,h⟩
    rw[e,show Nat.beq 2 2=ae from rfl,aI]
    exact⟨λh=>by omega,λh=>by omega⟩
   .rw[show Nat.beq l.length 2=ah from by rw[<-Bool.not_eq_true,Nat.beq_eq];exact e,aJ]
    exact⟨λh=>by omega,λh=>by omega⟩
  rw[tF,Pu];by_cases e:l.length=2/\0<left
  .obtain⟨e1,e2⟩:=e
   match l,e1 with
   |[a,b],_=>
    simp only[gV]at hL hn hm hw;obtain⟨n,rfl⟩:=sK n 1 (by omega)
    obtain⟨r,q1,q2,q3⟩:=ih a (aH ..) L n L (left-1) (by omega) (by omega) (by omega) (by omega) (by omega) (by omega)
    have lu:=aAx a;have hnb:=aAx b;have hb1:=aGE b;have hr: -3000000000<=r/\r<=2000000000:=by
     by_cases h:((nO a:Nat):Int)<=left-1
     .have:=q2 h;omega
     .have:=q3 (by omega);omega
    have ha:bP L (n+1) 143 [yR 2 a,yI (left-1)]=aa [yI r]:=by rw[bG0];exact q1
    obtain⟨r2,g1,g2,g3⟩: ∃r2:Int,tF (bP L (n+1)) L m r b=aa [yI r2]/\RO left (nO ⟨k,nm,d,s,t,[a,b]⟩) r2:=by
     have hN:nO ⟨k,nm,d,s,t,[a,b]⟩=1+(nO a+nO b):=by simp[nO,bDP]
     rw[hN];by_cases h:((nO a:Nat):Int)<=left-1
     .have hr1:=q2 h;obtain⟨r2,g1,g2,g3⟩:=ih b (by simp) L (n+1) m r (by omega) (by omega) (by omega) (by omega) (by omega) (by omega)
      exact⟨r2,g1,λh4=>by have:=g2 (by omega);omega,λh4=>by have:=g3 (by omega);omega⟩
     .have hr1:=q3 (by omega)
      obtain⟨m,rfl⟩:=sK m 1 (by omega)
      have e3:aj ((0:Int)<r)=ah:=by simp;omega
      refine⟨r-1,?_,λh4=>by omega,λh4=>by omega⟩
      rw[tF,Pu,e3,bL,Ax,Gt,bL,pO (by omega) (by omega)]
    refine⟨r2,?_,g2,g3⟩;have e3:aj ((0:Int)<left)=ae:=by simpa using e2
    rw[e3,bN];show Ax _ _ _ ae _ _=_;rw[Ax,Gt,bN,sC,show cU ([a,b]:List G.O) (0:Int)=aa a from rfl,cH,pO (by omega) (by omega),ha,oT,show cU ([a,b]:List G.O) (1:Int)=aa b from rfl,cH]
    exact g1
  .refine⟨left-1,?_,last left (λ_ _=>rfl) e⟩
   have fin:Ax (bP L n) L (tF (bP L n) L m) ah left ⟨k,nm,d,s,t,l⟩=aa [yI (left-1)]:=by
    rw[Ax,Gt,bL,pO (by omega) (by omega)]
   by_cases e2:0<left
   .have: ¬(l.length:Int)=2:=λh=>e ⟨by omega,e2⟩
    rw[bF e2,bN];rw[sC,bG this];exact fin
   .rw[bG e2,bL];exact fin
def aS6{o:G.O}{L n:Nat}(hL:kE o<=L)(hn:kE o+2<=n)(hw:kE o<1000000000):bP L n 109 [yR 2 o]=aa [yI ((min (nO o) 3001:Nat):Int)]:=by
 obtain⟨n,rfl⟩:=sK n 2 (by omega)
 obtain⟨r,h1,h2,h3⟩:=bBZ o L n L 3001 hL (by omega) hL hw (by omega) (by omega)
 have hb:=aAx o;have hr:bP L (n+1) 143 [yR 2 o,yI (3001:Int)]=aa [yI r]:=by rw[bG0];exact h1
 rw[show n+2=n+1+1 from rfl,bPm,a8e,aNa,hr,oT]
 try dsimp only
 by_cases h:((nO o:Nat):Int)<=3001
 .have:=h2 h;by_cases h0:0<r
  .rw[bF h0,aI,pO (by omega) (by omega)]
   exact Fb (by omega)
  .rw[bG h0,aJ,pO (by omega) (by omega)]
   exact Fb (by omega)
 .have:=h3 (by omega)
  rw[bG (by omega: ¬0<r),aJ,pO (by omega) (by omega)]
  exact Fb (by omega)
end Go.TV
namespace Go.TV
open Go.AI Go.PI Go.Proofs
def aSk{k:Nat}(h:k<4000000000000000000):IntKind.i64.wrap (((k+1:Nat):Int)-1)=(k:Int):=by
 unfold IntKind.wrap;simp[IntKind.bits,IntKind.signed];omega
def aLj{c:bT}{L:Nat}{n1:G.O->G.O->Rt}{a b:G.O}(hl:a.pair.length=b.pair.length)(hb:a.pair.length<1000000000)
    {s:Nat} (hs:a.pair.length=s+1): ∀(l:List G.O) (x:G.O) (r:List G.O) (k m:Nat),a.pair.drop k=x::l->b.pair.drop k=r->l.length<m->
    (∀x,x∈a.pair->∀y,c 53 (oo x y)=aa (bb (aj (x=y))))->(∀x,x∈a.pair->∀y,n1 x y=aa (bb (aj (x=y))))->
    FO c L n1 m (s:Int) (k:Int) ((s+1:Nat):Int) a b=aa (bb (aj (x::l=r))):=by
 intro l;induction l with
 |nil=>
  intro x r k m h1 h2 h3 hc hn;obtain⟨m,rfl⟩:=sK m 1 (by simp at h3;omega)
  obtain⟨a1,a2,a3⟩:=cL h1;have hk:k=s:=by have:=cI a3;omega
  subst hk;cases r with
  |nil=>have:=cI h2;omega
  |cons y r=>
   obtain⟨b1,b2,b3⟩:=cL h2;have hr:r=[]:=by rw[<-b3];exact eu (by omega)
   subst hr;have e3:aj ((k:Int)<(k:Int))=ah:=by simp
   rw[FO,aBT,e3,bL,aSk (by omega),bV,bV,a1,b1,cH,cH,hn x (ef a1)]
   simp
 |cons z l ih=>
  intro x r k m h1 h2 h3 hc hn;obtain⟨m,rfl⟩:=sK m 1 (by simp at h3;omega)
  obtain⟨a1,a2,a3⟩:=cL h1;obtain⟨a4,a5,a6⟩:=cL a3;cases r with
  |nil=>have:=cI h2;omega
  |cons y r=>
   obtain⟨b1,b2,b3⟩:=cL h2;have e3:aj ((k:Int)<(s:Int))=ae:=by simp;omega
   have fw:c 53 [yR 2 x,yR 2 y]=aa [yB (aj (x=y))]:=hc x (ef a1) y;rw[FO,aBT,e3,bN,bV,bV,a1,b1,cH,cH,fw,eH,eC (by omega)]
   by_cases e:x=y
   .subst e;simp only[decide_true,bD,bL];rw[ih z r (k+1) m a3 b3 (by simp at h3;omega) hc hn]
    simp
   .simp only[e,decide_false,b8,bN];simp[e,bb]
def a8j: ∀(a:G.O),aNi a->∀(b:G.O) (L n m:Nat),kE a<=L->kE a<=n->kE a<=m->CS (bP L n) L m a b=aa (bb (aj (a=b))):=by
 intro a;induction a using mP with
 |h k nu d s t l ih=>
  intro hw b L n m hL hn hm;simp only[aNi,kE]at hw hL hn hm;have hlen:=KM l;obtain⟨m,rfl⟩:=sK m 1 (by omega)
  obtain⟨n,rfl⟩:=sK n 1 (by omega)
  cases b with|mk k' qr d' s' t' l'=>
  rw[CS];simp only[aKE,aLH,aLG,G.O.kind,G.O.num,G.O.den,G.O.sym,G.O.text,G.O.pair,G.O.mk.injEq];by_cases e1:k=k'
  .by_cases e2:nu=qr
   .by_cases e3:d=d'
    .by_cases e4:s=s'
     .by_cases e5:t=t'
      .by_cases e6:(l.length:Int)=(l'.length:Int)
       .simp only[e1,e2,e3,e4,e5,e6,decide_true,bD,bL,bN,true_and];cases l with
        |nil=>
         have:l'=[]:=List.eq_nil_of_length_eq_zero (by simp at e6;omega)
         subst this;simp[bR,bb]
        |cons x l=>
         have e7:aj ((l'.length:Int)=0)=ah:=by simp only[aM]at e6;simp;intro h;simp[h]at e6;omega
         rw[e7,bL,<-e6];have hW: ∀y,y∈x::l->∀z,CS (bP L (n+1)) L m y z=aa (bb (aj (y=z))):=λy hy z=>
          ih y hy (by have:=kC hy;simp only[aNi];omega) z L (n+1) m (by have:=kC hy;omega) (by have:=kC hy;omega) (by have:=kC hy;omega)
         have hC: ∀y,y∈x::l->∀z,bP L (n+1) 53 (oo y z)=aa (bb (aj (y=z))):=λy hy z=>by
          show bP L (n+1) 53 [yR 2 _,yR 2 _]=_;rw[bQZ];exact ih y hy (by have:=kC hy;simp only[aNi];omega) z L n L (by have:=kC hy;omega) (by have:=kC hy;omega) (by have:=kC hy;omega)
         have hz:IntKind.i64.wrap (((x::l).length:Int)-1)=(l.length:Int):=aSk (by simp only[aM]at hlen;omega)
         rw[hz];have:=aLj (c:=bP L (n+1)) (L:=L) (n1:=λx0 x1=>CS (bP L (n+1)) L m x0 x1) (a:=⟨k,nu,d,s,t,x::l⟩) (b:=⟨k',qr,d',s',t',l'⟩) (s:=l.length) (by show(x::l).length=l'.length;omega) (by show(x::l).length<_;omega) rfl l x l' 0 L rfl rfl (by simp only[aM]at hlen;omega) hC hW
         subst e1 e2 e3 e4 e5;exact this
       .have e7: ¬l=l':=λh=>e6 (by rw[h])
        simp[e1,e2,e3,e4,e5,e6,e7,bR,bb]
      .simp[e1,e2,e3,e4,e5,bR,bb]
     .simp[e1,e2,e3,e4,bR,bb]
    .simp[e1,e2,e3,bR,bb]
   .simp[e1,e2,bR,bb]
  .simp[e1,bR,bb]
def aBF(a:G.O)(hw:aNi a)(b:G.O)(L n:Nat)(hL:kE a<=L)(hn:kE a<n):bP L n 53 (oo a b)=aa (bb (aj (a=b))):=by
 obtain⟨n,rfl⟩:=sK n 1 (by omega)
 show bP L (n+1) 53 [yR 2 _,yR 2 _]=_;rw[bQZ];exact a8j a hw b L n L hL (by omega) hL
def aLl{c:bT}{L:Nat}{a b:List G.T}(hl:a.length=b.length)(hb:a.length<1000000000): ∀(l r:List G.T) (k m:Nat),a.drop k=l->b.drop k=r->l.length<m->
    (∀x,x∈l->∀y,c 21 (aNk x y)=aa (bb (aj (x=y))))->FN c L m (a.length:Int) a b (k:Int)=aa (bb (aj (l=r))):=by
 intro l;induction l with
 |nil=>
  intro r k m h1 h2 h3 _;obtain⟨m,rfl⟩:=sK m 1 (by simp at h3;omega)
  have e1:=cI h1;have e2:r=[]:=by rw[<-h2];exact eu (by omega)
  have e3:aj ((k:Int)<(a.length:Int))=ah:=by simp;omega
  rw[FN,aBS,e3,e2];simp only[bL,decide_true];rfl
 |cons x l ih=>
  intro r k m h1 h2 h3 hc;obtain⟨m,rfl⟩:=sK m 1 (by simp at h3;omega)
  obtain⟨a1,a2,a3⟩:=cL h1;cases r with
  |nil=>have:=cI h2;omega
  |cons y r=>
   obtain⟨b1,b2,b3⟩:=cL h2;have e3:aj ((k:Int)<(a.length:Int))=ae:=by simp;omega
   have fw:c 21 [yR 3 x,yR 3 y]=aa [yB (aj (x=y))]:=hc x (aH ..) y;rw[FN,aBS,e3,bN,bV,bV,a1,b1,cH,cH,fw,eH,eC (by omega)]
   by_cases e:x=y
   .subst e;simp only[decide_true,bD,bL];rw[ih r (k+1) m a3 b3 (by simp at h3;omega) λz hz=>hc z (aG _ hz)]
    simp
   .simp only[e,decide_false,b8,bN];simp[e,bb]
def a8l{a b:List G.T}{L n:Nat}(hw:a.length<1000000000)(hL:a.length<L)(hx: ∀x,x∈a->∀y,bP L n 21 (aNk x y)=aa (bb (aj (x=y)))):
    bP L (n+1) 54 (bQB a b)=aa (bb (aj (a=b))):=by
 show bP L (n+1) 54 [yS 3 _,yS 3 _]=_;rw[c54];simp only[bPY,aLF];by_cases e6:(a.length:Int)=(b.length:Int)
 .have:=aLl (c:=bP L n) (L:=L) (by omega) hw a b 0 L rfl rfl hL hx
  rw[e6]at this;simp only[e6,decide_true,bD,bL];exact this
 .have e7: ¬a=b:=λh=>e6 (by rw[h])
  simp[e6,e7,bR,bb]
def OD: ∀(a:G.T),SH a->∀(b:G.T) (L n:Nat),fV a<=L->fV a<=n->bP L n 21 (aNk a b)=aa (bb (aj (a=b))):=by
 intro a;induction a using kX with
 |h k nm v l ih=>
  intro hw b L n hL hn;simp only[SH,fV]at hw hL hn;have hlen:=fW l;obtain⟨n,rfl⟩:=sK n 2 (by omega)
  cases b with|mk k' nm' v' l'=>
  show bP L (n+1+1) 21 [yR 3 _,yR 3 _]=_;rw[c21];have hv:bP L (n+1) 53 [yR 2 v,yR 2 v']=aa [yB (aj (v=v'))]:=aBF v (by simp only[aNi];omega) v' L (n+1) (by omega) (by omega)
  have hl:bP L (n+1) 54 [yS 3 l,yS 3 l']=aa [yB (aj (l=l'))]:=a8l (by omega) (by omega) λx hx y=>ih x hx (by have:=cV hx;simp only[SH];omega) y L n (by have:=cV hx;omega) (by have:=cV hx;omega)
  simp only[bP5,aLQ,aKH,aLP,G.T.kind,G.T.name,G.T.value,G.T.args,G.T.mk.injEq,hv,hl,eH];by_cases e1:k=k'
  .by_cases e2:nm=nm'
   .by_cases e3:v=v'
    .simp[e1,e2,e3,bR,bb]
    .simp[e1,e2,e3,bR,bb]
   .simp[e1,e2,bR,bb]
  .simp[e1,bR,bb]
end Go.TV
namespace Go.TV
open Go.AI Go.PI Go.Proofs
def aLn{c:bT}{L:Nat}{a b:List G.T}(hl:a.length=b.length)(hb:a.length<1000000000): ∀(l r:List G.T) (k m:Nat),a.drop k=l->b.drop k=r->l.length<m->
    (∀x,x∈l->∀y,c 72 (aNk x y)=aa (bb (aj (x=y))))->FI c L m a b (k:Int)=aa (bb (aj (l=r))):=by
 intro l;induction l with
 |nil=>
  intro r k m h1 h2 h3 _;obtain⟨m,rfl⟩:=sK m 1 (by simp at h3;omega)
  have e1:=cI h1;have e2:r=[]:=by rw[<-h2];exact eu (by omega)
  have e3:aj ((k:Int)<(a.length:Int))=ah:=by simp;omega
  rw[FI,aBI,e3,e2];simp only[bL,decide_true];rfl
 |cons x l ih=>
  intro r k m h1 h2 h3 hc;obtain⟨m,rfl⟩:=sK m 1 (by simp at h3;omega)
  obtain⟨a1,a2,a3⟩:=cL h1;cases r with
  |nil=>have:=cI h2;omega
  |cons y r=>
   obtain⟨b1,b2,b3⟩:=cL h2;have e3:aj ((k:Int)<(a.length:Int))=ae:=by simp;omega
   have fw:c 72 [yR 3 x,yR 3 y]=aa [yB (aj (x=y))]:=hc x (aH ..) y;rw[FI,aBI,e3,bN,bV,bV,a1,b1,cH,cH,fw,eH,eC (by omega)]
   by_cases e:x=y
   .subst e;simp only[decide_true,bD,bL];rw[ih r (k+1) m a3 b3 (by simp at h3;omega) λz hz=>hc z (aG _ hz)]
    simp
   .simp only[e,decide_false,b8,bN];simp[e,bb]
def aLm{a b:List G.T}{L n:Nat}(hw:a.length<1000000000)(hL:a.length<L)(hx: ∀x,x∈a->∀y,bP L n 72 (aNk x y)=aa (bb (aj (x=y)))):
    bP L (n+1) 95 (bQB a b)=aa (bb (aj (a=b))):=by
 show bP L (n+1) 95 [yS 3 _,yS 3 _]=_;rw[c95];simp only[bPE,aLq];by_cases e6:(a.length:Int)=(b.length:Int)
 .simp only[e6,decide_true,bD,bL];exact aLn (c:=bP L n) (L:=L) (by omega) hw a b 0 L rfl rfl hL hx
 .have e7: ¬a=b:=λh=>e6 (by rw[h])
  simp[e6,e7,bR,bb]
def a8k: ∀(a:G.T),SH a->∀(b:G.T) (L n:Nat),fV a<=L->fV a<=n->bP L n 72 (aNk a b)=aa (bb (aj (a=b))):=by
 intro a;induction a using kX with
 |h k nm v l ih=>
  intro hw b L n hL hn;simp only[SH,fV]at hw hL hn;have hlen:=fW l;obtain⟨n,rfl⟩:=sK n 2 (by omega)
  cases b with|mk k' nm' v' l'=>
  show bP L (n+1+1) 72 [yR 3 _,yR 3 _]=_;rw[c72];have hv:bP L (n+1) 71 [yR 2 v,yR 2 v']=aa [yB (aj (v=v'))]:=aLi v (by simp only[aNi];omega) v' L (n+1) (by omega) (by omega)
  have hl:bP L (n+1) 95 [yS 3 l,yS 3 l']=aa [yB (aj (l=l'))]:=aLm (by omega) (by omega) λx hx y=>ih x hx (by have:=cV hx;simp only[SH];omega) y L n (by have:=cV hx;omega) (by have:=cV hx;omega)
  simp only[bPR,aLB,aKD,aLA,G.T.kind,G.T.name,G.T.value,G.T.args,G.T.mk.injEq,hv,hl,eH];by_cases e1:k=k'
  .by_cases e2:nm=nm'
   .by_cases e3:v=v'
    .simp[e1,e2,e3,bR,bb]
    .simp[e1,e2,e3,bR,bb]
   .simp[e1,e2,bR,bb]
  .simp[e1,bR,bb]
end Go.TV
namespace Go.TV
open Go.AI Go.PI Go.Proofs
def aLo{c:bT}{L:Nat}{t:G.T}{a:List G.T}(hb:a.length<1000000000): ∀(l:List G.T) (k m:Nat),a.drop k=l->l.length<m->
    (∀x,x∈l->c 72 (aNk x t)=aa (bb (aj (x=t))))->FP c L m a (k:Int) t=aa (bb (aj (t∈l))):=by
 intro l;induction l with
 |nil=>
  intro k m h1 h3 _;obtain⟨m,rfl⟩:=sK m 1 (by simp at h3;omega)
  have e1:=cI h1;have e3:aj ((k:Int)<(a.length:Int))=ah:=by simp;omega
  rw[FP,aBU,e3,bL];simp[bb]
 |cons x l ih=>
  intro k m h1 h3 hc;obtain⟨m,rfl⟩:=sK m 1 (by simp at h3;omega)
  obtain⟨a1,a2,a3⟩:=cL h1;have e3:aj ((k:Int)<(a.length:Int))=ae:=by simp;omega
  have fw:c 72 [yR 3 x,yR 3 t]=aa [yB (aj (x=t))]:=hc x (aH ..);rw[FP,aBU,e3,bN,bV,a1,cH,fw,eH,eC (by omega)]
  by_cases e:x=t
  .subst e;simp[bR,bb]
  .have e': ¬t=x:=λh=>e h.symm
   simp only[e,decide_false,bL];rw[ih (k+1) m a3 (by simp at h3;omega) λz hz=>hc z (aG _ hz)]
   simp[e']
def a8m{a:List G.T}{t:G.T}{L n:Nat}(hw:cX a<1000000000)(hL:cX a<L)(hn:cX a<n):bP L n 51 (lt2 a t)=aa (bb (aj (t∈a))):=by
 have hlen:=fW a;obtain⟨n,rfl⟩:=sK n 1 (by omega)
 show bP L (n+1) 51 [yS 3 _,yR 3 _]=_;rw[c51];exact aLo (by omega) a 0 L rfl (by omega) λx hx=>a8k x (by have:=cV hx;simp only[SH];omega) t L n (by have:=cV hx;omega) (by have:=cV hx;omega)
end Go.TV
namespace Go.TV
open Go.AI Go.PI Go.Proofs
set_option maxRecDepth 20000
def tP:(∀k n v l,(G.T.mk k n v l).kind=k)/\(∀k n v l,(G.T.mk k n v l).name=n)/\(∀k n v l,(G.T.mk k n v l).value=v)/\(∀k n v l,(G.T.mk k n v l).args=l):=⟨λ_ _ _ _=>rfl,λ_ _ _ _=>rfl,λ_ _ _ _=>rfl,λ_ _ _ _=>rfl⟩
mutual
def ua:G.T->Nat
 |⟨k,_,v,l⟩=>bif aj (k=2)then min (nO v) 3001 else bif aj (k=3)then 1+PO l else 1
def PO:List G.T->Nat
 |[]=>0
 |o::l=>ua o+PO l
end
def a28(o:G.T):1<=ua o:=by
 cases o with|mk k nm v l=>
 have:=aGE v;simp only[ua];cases aj (k=2)with
 |true=>simp only[aI];omega
 |false=>cases aj (k=3)<;>simp
def aGD: ∀o:G.T,ua o<=fV o:=λo=>by
 induction o using kX with
 |h k n v l ih=>
  have h:PO l<=cX l:=by
   clear k n v;induction l with
   |nil=>exact aS _
   |cons x l ih2=>
    have h1:=ih x (aH ..);have h2:=ih2 λo ho=>ih o (aG _ ho)
    simp only[PO,cX];omega
  have:=aAx v;simp only[ua,fV];cases aj (k=2)with
  |true=>simp only[aI];omega
  |false=>cases aj (k=3)with
   |true=>simp only[aI,aJ];omega
   |false=>simp only[aJ];omega
def nT'_sz: ∀l:List G.T,PO l<=cX l
 |[]=>aS _
 |x::l=>by have h1:=aGD x;have h2:=nT'_sz l;simp only[PO,cX];omega
def RT(left:Int)(α:Nat)(r:Int):Prop:=((α:Int)<=left->r=left-α)/\(left<α->left-α<=r/\r<=0)
def aOc{L n:Nat}{a:List G.T}(hb:a.length<1000000000): ∀(l:List G.T) (k m:Nat) (left:Int),a.drop k=l->l.length<m->cX l<1000000000-> -1<=left->left<=2000000000->
    (∀x,x∈l->∀left:Int,0<=left->left<=2000000000->∃r:Int,bP L n 85 [yR 3 x,yI left]=aa [yI r]/\RT left (ua x) r)->
    ∃r:Int,zJ (bP L n) L m (a.length:Int) a (k:Int) left=aa [yI r]/\(left<0->l=[]->r=left)/\(0<=left∨l≠ []->RT left (PO l) r):=by
 intro l;induction l with
 |nil=>
  intro k m left h1 h3 _ _ _ _;obtain⟨m,rfl⟩:=sK m 1 (by simp at h3;omega)
  have e1:=cI h1;have e3:aj ((k:Int)<(a.length:Int))=ah:=by simp;omega
  refine⟨left,?_,λ_ _=>rfl,λh=>⟨λ_=>by simp[PO],λh4=>?_⟩⟩
  .rw[zJ,JD,e3,bL]
  .rcases h with h|h
   .simp[PO]at h4;omega
   .exact absurd rfl h
 |cons x l ih=>
  intro k m left h1 h3 hw g1 g2 hc;obtain⟨m,rfl⟩:=sK m 1 (by simp at h3;omega)
  obtain⟨a1,a2,a3⟩:=cL h1;have hs:=nT'_sz (x::l);have hx:=aGD x;have hx1:=a28 x;have hl:=nT'_sz l;simp only[cX,PO]at hs hw;have e3:aj ((k:Int)<(a.length:Int))=ae:=by simp;omega
  rw[zJ,JD,e3,bN,bV,a1,cH];by_cases h0:left<=0
  .rw[bF h0,bN,bG (by omega: ¬0<left),aJ]
   refine⟨left,rfl,λ_ h=>(by cases h),λ_=>⟨λh4=>?_,λh4=>?_⟩⟩
   .simp only[PO]at h4;omega
   .simp only[PO]at h4⊢;omega
  .rw[bG h0,bL];obtain⟨r,e,q2,q3⟩:=hc x (aH ..) left (by omega) (by omega)
   rw[e,oT,eC (by omega)]
   try dsimp only
   by_cases h5:((ua x:Nat):Int)<=left
   .have hr:=q2 h5;obtain⟨r2,e2,k1,k2⟩:=ih (k+1) m r a3 (by simp at h3;omega) (by omega) (by omega) (by omega) λz hz=>hc z (aG _ hz)
    obtain⟨k3,k4⟩:=k2 (.inl (by omega))
    refine⟨r2,e2,λh=>by omega,λ_=>⟨λh4=>?_,λh4=>?_⟩⟩
    .simp only[PO]at h4⊢;have:=k3 (by omega);omega
    .simp only[PO]at h4⊢;have:=k4 (by omega);omega
   .have hr:=q3 (by omega)
    have key: ∃r2:Int,zJ (bP L n) L m (a.length:Int) a ((k+1:Nat):Int) r=aa [yI r2]/\r2=r:=by
     cases l with
     |nil=>
      obtain⟨m,rfl⟩:=sK m 1 (by simp at h3;omega)
      have e1:=cI a3;have e3:aj (((k+1:Nat):Int)<(a.length:Int))=ah:=by simp;omega
      exact⟨r,by rw[zJ,JD,e3,bL],rfl⟩
     |cons y l=>
      obtain⟨m,rfl⟩:=sK m 1 (by simp at h3;omega)
      obtain⟨b1,b2,b3⟩:=cL a3;have e3:aj (((k+1:Nat):Int)<(a.length:Int))=ae:=by simp;omega
      refine⟨r,?_,rfl⟩;rw[zJ,JD,e3,bN,bV,b1,cH,bF (by omega:r<=0),bN,bG (by omega: ¬0<r),aJ]
    obtain⟨r2,e2,rfl⟩:=key;refine⟨r2,e2,λh=>by omega,λ_=>⟨λh4=>?_,λh4=>?_⟩⟩
    .simp only[PO]at h4;omega
    .simp only[PO]at h4⊢;omega
def bBY: ∀t:G.T,∀(L n:Nat) (left:Int),fV t<=L->fV t<=n->fV t<1000000000->0<=left->left<=2000000000->
    ∃r:Int,bP L n 85 [yR 3 t,yI left]=aa [yI r]/\RT left (ua t) r:=λt=>by
 induction t using kX with
 |h k nm v l ih=>
  intro L n left hL hn hw h1 h2;simp only[fV]at hL hn hw;have hlen:=fW l;obtain⟨n,rfl⟩:=sK n 1 (by omega)
  rw[c85,bPM,aLu];by_cases h3:k=2
  .have hv:bP L n 109 [yR 2 v]=aa [yI ((min (nO v) 3001:Nat):Int)]:=aS6 (by omega) (by omega) (by omega)
   have hN:ua ⟨k,nm,v,l⟩=min (nO v) 3001:=by simp[ua,h3]
   simp only[tP,h3,decide_true,bN];rw[hv,oT]
   try dsimp only
   rw[pO (by omega) (by omega)]
   refine⟨_,rfl,?_⟩;rw[<-h3,hN];exact⟨λ_=>rfl,λh=>by omega⟩
  .simp only[tP,h3,decide_false,bL];by_cases h4:k=3
   .have hN:ua ⟨k,nm,v,l⟩=1+PO l:=by simp[ua,h4]
    simp only[tP,h4,decide_true,bN];rw[pO (by omega) (by omega)]
    obtain⟨r,e,q1,q2⟩:=aOc (n:=n) (a:=l) (by omega) l 0 L (left-1) rfl (by omega) (by omega) (by omega) (by omega) λx hx left g1 g2=>ih x hx L n left (by have:=cV hx;omega) (by have:=cV hx;omega) (by have:=cV hx;omega) g1 g2
    refine⟨r,e,?_⟩;rw[<-h4,hN];by_cases h5:0<=left-1∨l≠ []
    .obtain⟨q3,q4⟩:=q2 h5;exact⟨λh=>by have:=q3 (by omega);omega,λh=>by have:=q4 (by omega);omega⟩
    .have h6:l=[]:=Classical.byContradiction λh=>h5 (.inr h)
     have:=q1 (by omega) h6
     subst h6;simp only[PO];exact⟨λh=>by omega,λh=>by omega⟩
   .have hN:ua ⟨k,nm,v,l⟩=1:=by simp[ua,h3,h4]
    simp only[tP,h4,decide_false,bL];rw[pO (by omega) (by omega),hN]
    exact⟨_,rfl,λh=>by omega,λh=>by omega⟩
def a29{t:G.T}{L n:Nat}(hL:fV t<=L)(hn:fV t+1<=n)(hw:fV t<1000000000):bP L n 57 [yR 3 t]=aa [yI ((min (ua t) 3001:Nat):Int)]:=by
 obtain⟨n,rfl⟩:=sK n 1 (by omega)
 obtain⟨r,h1,h2,h3⟩:=bBY t L n 3001 hL (by omega) hw (by omega) (by omega)
 have hb:=aGD t;rw[c57,bPW,aUS,h1,oT]
 try dsimp only
 by_cases h:((ua t:Nat):Int)<=3001
 .have:=h2 h;by_cases h0:0<r
  .rw[bF h0,aI,pO (by omega) (by omega)]
   exact Fb (by omega)
  .rw[bG h0,aJ,pO (by omega) (by omega)]
   exact Fb (by omega)
 .have:=h3 (by omega)
  rw[bG (by omega: ¬0<r),aJ,pO (by omega) (by omega)]
  exact Fb (by omega)
end Go.TV
namespace Go.TV
open Go.AI Go.PI Go.Proofs
set_option maxRecDepth 20000
def aOC{s:G.Y}(h:lU s=ae):(s.package=bCZ∨s.package=a2w)/\1<=s.name.length/\s.name.length<=20:=by
 simp only[lU,aC,b9,aD,d7]at h;exact⟨h.1.1,h.1.2,h.2⟩
def aNN{s:G.Y}(h:lU s=ae){L n:Nat}:bP (L+10) (n+1) 146 [yR 1 s]=aa [yB ae]:=by
 obtain⟨h1,h2,h3⟩:=aOC h;obtain⟨p,w⟩:=s;change p=bCZ∨p=a2w at h1;change 1<=w.length at h2;change w.length<=20 at h3;rw[bO8,a7X];have e1:aj ((w.length:Int)<1)=ah:=bG (by omega)
 have e2:aj ((40:Int)<(w.length:Int))=ah:=bG (by omega)
 rcases h1 with rfl|rfl
 .rw[Pt];show bR (aj ((w.length:Int)<1)) _ (OT (bP (L+10) n) (L+10) (aj ((40:Int)<(w.length:Int))) ⟨bCZ,w⟩)=_;rw[e1,bL,e2];rfl
 .rw[Pt];show bR (aj ((w.length:Int)<1)) _ (OT (bP (L+10) n) (L+10) (aj ((40:Int)<(w.length:Int))) ⟨a2w,w⟩)=_;rw[e1,bL,e2];rfl
end Go.TV
namespace Go.TV
open Go.AI Go.PI Go.Proofs
set_option maxRecDepth 20000
def a2K{n d:List UInt8}(h:aS2 n d=ae):(n,d)∈numL:=by
 unfold aS2 at h;rw[List.any_eq_true]at h;obtain⟨p,hp,h2⟩:=h;simp only[aC,aD]at h2;obtain⟨rfl,rfl⟩:=h2;exact hp
def a3l(p:List UInt8×List UInt8)(r:Rt):Bool:=match r with|some [⟨.bool,b⟩]=>b|_=>ah
def aOZ{p:List UInt8×List UInt8}{r:Rt}(h:a3l p r=ae):r=aa [yB ae]:=by
 unfold a3l at h;split at h
 .subst h;rfl
 .cases h
def aOY(L M:Nat):(numL.all λp=>a3l p (cF L M 60 145 [yT p.1,yT p.2]))=ae:=by kernel_rfl
def a3k{n d:List UInt8}(h:aS2 n d=ae){L M:Nat}:bP (L+7000) (M+60) 145 [yT n,yT d]=aa [yB ae]:=by
 have:=bJ.1 (aOY L M) _ (a2K h);rw[<-aA5];exact aOZ this
def DA{o:G.O}{a b d:Bool}{L n:Nat}(h1:a=ae∨(o.num=[]/\o.den=[]))(h2:b=ae∨o.sym=⟨[],[]⟩)(h3:d=ae∨o.text=[]):
    bP L (n+1) 144 [yR 2 o,yB a,yB b,yB d]=aa [yB ae]:=by
 have fin:qP (bP L n) L ae=aa [yB ae]:=rfl;have k3:bR d (qP (bP L n) L ae) (qP (bP L n) L (aj (o.text=([]:List UInt8))))=aa [yB ae]:=by
  cases d with
  |true=>exact fin
  |false=>
   rcases h3 with h|h
   .cases h
   .rw[bL,bF h];exact fin
 have k2:bR b (bR d (qP (bP L n) L ae) (qP (bP L n) L (aj (o.text=([]:List UInt8))))) (bR (aj (o.sym=(G.Y.mk ([]:List UInt8) ([]:List UInt8)))) (bR d (qP (bP L n) L ae) (qP (bP L n) L (aj (o.text=([]:List UInt8))))) (qP (bP L n) L ah))=aa [yB ae]:=by
  cases b with
  |true=>exact k3
  |false=>
   rcases h2 with h|h
   .cases h
   .rw[bL,bF h];exact k3
 rw[bO9,a7Y,X6];cases a with
 |true=>exact k2
 |false=>
  rcases h1 with h|⟨h,h'⟩
  .cases h
  .rw[bL,bF h,bF h',bN,bN];exact k2
end Go.TV
namespace Go.TV
open Go.AI Go.PI Go.Proofs
set_option maxRecDepth 20000
def bDR{n d:List UInt8}(h:aS2 n d=ae){L M:Nat}(hL:7000<=L)(hM:60<=M):bP L M 145 [yT n,yT d]=aa [yB ae]:=by
 obtain⟨L,rfl⟩:=sK L 7000 (by omega)
 obtain⟨M,rfl⟩:=sK M 60 (by omega)
 exact a3k h
def aXh{s:G.Y}(h:lU s=ae){L n:Nat}(hL:10<=L)(hn:1<=n):bP L n 146 [yR 1 s]=aa [yB ae]:=by
 obtain⟨L,rfl⟩:=sK L 10 (by omega)
 obtain⟨n,rfl⟩:=sK n 1 (by omega)
 exact aNN h
def oP:(∀k n d s t l,(G.O.mk k n d s t l).kind=k)/\(∀k n d s t l,(G.O.mk k n d s t l).num=n)/\(∀k n d s t l,(G.O.mk k n d s t l).den=d)/\(∀k n d s t l,(G.O.mk k n d s t l).sym=s)/\(∀k n d s t l,(G.O.mk k n d s t l).text=t)/\(∀k n d s t l,(G.O.mk k n d s t l).pair=l):=
 ⟨λ_ _ _ _ _ _=>rfl,λ_ _ _ _ _ _=>rfl,λ_ _ _ _ _ _=>rfl,λ_ _ _ _ _ _=>rfl,λ_ _ _ _ _ _=>rfl,λ_ _ _ _ _ _=>rfl⟩
def bKY{k:Int}{n d:List UInt8}{s:G.Y}{t:List UInt8}{l:List G.O}(h:kE ⟨k,n,d,s,t,l⟩+sW ⟨k,n,d,s,t,l⟩<1000000000):
    (k=1/\aS2 n d=ae/\s=⟨[],[]⟩/\t=[]/\l=[])∨(k=2/\lU s=ae/\n=[]/\d=[]/\t=[]/\l=[])∨(k=3/\aSZ t=ae/\n=[]/\d=[]/\s=⟨[],[]⟩/\l=[])∨
      (k=4/\n=[]/\d=[]/\s=⟨[],[]⟩/\t=[]/\∃a b,l=[a,b]):=by
 have h1:aNn k n d s t l=ae:=Tv (o:=⟨k,n,d,s,t,l⟩) (by omega)
 have h0: ¬k=0:=λe=>by
  subst e;have:sW ⟨0,n,d,s,t,l⟩=1000000000:=rfl;omega
 have hlen: ∀l:List G.O,l.length=2->∃a b,l=[a,b]:=λl hl=>by
  match l,hl with
  |[a,b],_=>exact⟨a,b,rfl⟩
 simp only[aNn,h0,decide_false,Bool.false_and,Bool.false_or,b9,aC,aD,List.isEmpty_iff]at h1;rcases h1 with((⟨⟨⟨⟨h1,h2⟩,h3⟩,h4⟩,h5⟩|⟨⟨⟨⟨⟨h1,h2⟩,h3⟩,h4⟩,h5⟩,h6⟩)|⟨⟨⟨⟨⟨h1,h2⟩,h3⟩,h4⟩,h5⟩,h6⟩)|⟨⟨⟨⟨⟨h1,h2⟩,h3⟩,h4⟩,h5⟩,h6⟩
 .exact .inl ⟨h1,h2,h3,h4,h5⟩
 .exact .inr (.inl ⟨h1,h2,h3,h4,h5,h6⟩)
 .exact .inr (.inr (.inl ⟨h1,h2,h3,h4,h5,h6⟩))
 .exact .inr (.inr (.inr ⟨h1,h2,h3,h4,h5,hlen l h6⟩))
def bF9: ∀o:G.O,kE o+sW o<1000000000->∀(L n m:Nat),7000<=L->kE o<=L->kE o+60<=n->kE o<=m->Ci (bP L n) L m o=aa [yB ae]:=λo=>by
 induction o using mP with
 |h k nm d s t l ih=>
  intro hw L n m hL0 hL hn hm;have h4:=bKY hw;simp only[kE]at hw hL hn hm;obtain⟨m,rfl⟩:=sK m 1 (by omega)
  obtain⟨n,rfl⟩:=sK n 1 (by omega)
  rw[Ci,YP];rcases h4 with⟨rfl,h1,rfl,rfl,rfl⟩|⟨rfl,h1,rfl,rfl,rfl,rfl⟩|⟨rfl,h1,rfl,rfl,rfl,rfl⟩|⟨rfl,rfl,rfl,rfl,rfl,a,b,rfl⟩
  .rw[oP.1,show aj ((1:Int)=4)=ah from rfl,bL,show aj ((1:Int)=1)=ae from rfl,bN,DA (.inl rfl) (.inr rfl) (.inr rfl),eH,bN,sC]
   rw[show aj (((([]:List G.O).length:Nat):Int)=0)=ae from rfl,bN]
   show dE (bP L (n+1) 145 [yT nm,yT d]) _=_;rw[bDR h1 hL0 (by omega),eH];rfl
  .rw[oP.1,show aj ((2:Int)=4)=ah from rfl,bL,show aj ((2:Int)=1)=ah from rfl,bL,show aj ((2:Int)=2)=ae from rfl,bN,DA (.inr ⟨rfl,rfl⟩) (.inl rfl) (.inr rfl),eH,bN,sC]
   rw[show aj (((([]:List G.O).length:Nat):Int)=0)=ae from rfl,bN]
   show dE (bP L (n+1) 146 [yR 1 s]) _=_;rw[aXh h1 (by omega) (by omega),eH];rfl
  .have h5:t.length<=10:=by simpa [aSZ,d7]using h1
   rw[oP.1,show aj ((3:Int)=4)=ah from rfl,bL,show aj ((3:Int)=1)=ah from rfl,bL,show aj ((3:Int)=2)=ah from rfl,bL,show aj ((3:Int)=3)=ae from rfl,bN,DA (.inr ⟨rfl,rfl⟩) (.inr rfl) (.inl rfl),eH,bN,sC]
   rw[show aj (((([]:List G.O).length:Nat):Int)=0)=ae from rfl,bN]
   show Xh (bP L (n+1)) L (aj ((t.length:Int)<=200))=_;rw[bF (by omega:(t.length:Int)<=200)];rfl
  .simp only[gV]at hw hL hn hm;have ha:=ih a (aH ..) (by omega) L n L hL0 (by omega) (by omega) (by omega)
   have hb:=ih b (by simp) (by omega) L (n+1) m hL0 (by omega) (by omega) (by omega)
   have cq:bP L (n+1) 112 [yR 2 a]=aa [yB ae]:=by rw[bHa];exact ha
   rw[oP.1,show aj ((4:Int)=4)=ae from rfl,bN,sC,show(!decide (((([a,b]:List G.O).length:Nat):Int)=2))=ah from rfl,bL,DA (.inr ⟨rfl,rfl⟩) (.inr rfl) (.inr rfl),eH,bD,bL,
    show cU ([a,b]:List G.O) (0:Int)=aa a from rfl,cH,cq,eH,bD,Xi,YO,bL,sC,show cU ([a,b]:List G.O) (1:Int)=aa b from rfl,cH]
   exact hb
def aSn{o:G.O}(hw:kE o+sW o<1000000000){L n:Nat}(hL0:7000<=L)(hL:kE o<=L)(hn:kE o+70<=n):bP L n 88 [yR 2 o]=aa [yB (aj (min (nO o) 3001<=3000))]:=by
 obtain⟨n,rfl⟩:=sK n 2 (by omega)
 have h2:bP L (n+1) 112 [yR 2 o]=aa [yB ae]:=by rw[bHa];exact bF9 o hw L n L hL0 hL (by omega) hL
 rw[show n+2=n+1+1 from rfl,c88,bPJ,aLr,aS6 hL (by omega) (by omega),oT]
 try dsimp only
 by_cases h:min (nO o) 3001<=3000
 .rw[bF (by omega:((min (nO o) 3001:Nat):Int)<=3000),bN,h2,eH,bF h];rfl
 .rw[bG (by omega: ¬((min (nO o) 3001:Nat):Int)<=3000),bL,bG h];rfl
end Go.TV
namespace Go.TV
open Go.AI Go.PI Go.Proofs
set_option maxRecDepth 20000
mutual
def ub:G.T->Nat
 |⟨k,_,_,l⟩=>1+bif aj (k=3)then a6B l else 0
def a6B:List G.T->Nat
 |[]=>0
 |o::l=>max (ub o) (a6B l)
end
def a6z(o:G.T):1<=ub o:=by cases o;simp only[ub];omega
def aPF{L n:Nat}{a:List G.T}{K:Nat}(hK:K<=1000000000)(hK2:2<=K)(hb:a.length<1000000000): ∀(l:List G.T) (k m s:Nat),a.drop k=l->l.length<m->1<=s->s<K->
    (∀x,x∈l->bP L n 86 [yR 3 x,yI ((K-1:Nat):Int)]=aa [yI ((min (ub x) (K-1):Nat):Int)])->
    FJ (bP L n) L m (a.length:Int) a (K:Int) (k:Int) (s:Int)=aa [yI ((min (max s (1+a6B l)) K:Nat):Int)]:=by
 intro l;induction l with
 |nil=>
  intro k m s h1 h3 _ _ _;obtain⟨m,rfl⟩:=sK m 1 (by simp at h3;omega)
  have e1:=cI h1;have e3:aj ((k:Int)<(a.length:Int))=ah:=by simp;omega
  rw[FJ,aBK,e3,bL];exact Fb (by simp only[a6B];omega)
 |cons x l ih=>
  intro k m s h1 h3 g1 g2 hc;obtain⟨m,rfl⟩:=sK m 1 (by simp at h3;omega)
  obtain⟨a1,a2,a3⟩:=cL h1;have e3:aj ((k:Int)<(a.length:Int))=ae:=by simp;omega
  rw[FJ,aBK,e3,bN,bV,a1,cH,pO (by omega) (by omega),show((K:Int)-1)=((K-1:Nat):Int) by omega,hc x (aH ..),oT]
  try dsimp only
  rw[pO (by omega) (by omega)]
  have e5:(bif aj ((s:Int)<1+((min (ub x) (K-1):Nat):Int))then 1+((min (ub x) (K-1):Nat):Int)else(s:Int))=((max s (1+min (ub x) (K-1)):Nat):Int):=by
   by_cases h:(s:Int)<1+((min (ub x) (K-1):Nat):Int)
   .rw[bF h,aI];omega
   .rw[bG h,aJ];omega
  rw[e5];by_cases h6:(K:Int)<=((max s (1+min (ub x) (K-1)):Nat):Int)
  .rw[bF h6,bN];exact Fb (by simp only[a6B];omega)
  .rw[bG h6,bL,eC (by omega),ih (k+1) m _ a3 (by simp at h3;omega) (by omega) (by omega) λz hz=>hc z (aG _ hz)]
   exact Fb (by simp only[a6B];omega)
def bGo: ∀t:G.T,∀(L n k:Nat),fV t<=L->fV t<=n->fV t<1000000000->1<=k->k<=1000000000->bP L n 86 [yR 3 t,yI (k:Int)]=aa [yI ((min (ub t) k:Nat):Int)]:=λt=>by
 induction t using kX with
 |h kd nm v l ih=>
  intro L n k hL hn hw h1 h2;simp only[fV]at hL hn hw;have hlen:=fW l;obtain⟨n,rfl⟩:=sK n 1 (by omega)
  rw[c86,bPL,aLt];have one:ub ⟨kd,nm,v,l⟩=1∨k=1->Si (bP L n) L ae (k:Int) 1 ⟨kd,nm,v,l⟩=aa [yI ((min (ub ⟨kd,nm,v,l⟩) k:Nat):Int)]:=λh=>by
   have:=a6z ⟨kd,nm,v,l⟩;rw[Si,aBL,bN];exact Fb (by omega)
  by_cases h4:kd=3
  .have hN:ub ⟨kd,nm,v,l⟩=1+a6B l:=by simp[ub,h4]
   rw[tP.1,bF h4,bD,bL];by_cases h5:k<=1
   .rw[bF (by omega:(k:Int)<=1)]
    exact one (.inr (by omega))
   .rw[bG (by omega: ¬(k:Int)<=1),Si,aBL,bL,tP.2.2.2,hN]
    exact Eq.trans (aPF (n:=n) h2 (by omega) (by omega) l 0 L 1 rfl (by omega) (by omega) (by omega) λx hx=>ih x hx L n (k-1) (by have:=cV hx;omega) (by have:=cV hx;omega) (by have:=cV hx;omega) (by omega) (by omega)) (Fb (by omega))
  .have hN:ub ⟨kd,nm,v,l⟩=1:=by simp[ub,h4]
   rw[tP.1,bG h4,b8,bN];exact one (.inl hN)
def a6A{t:G.T}{L n:Nat}(hL:fV t<=L)(hn:fV t+1<=n)(hw:fV t<1000000000):bP L n 58 [yR 3 t]=aa [yI ((min (ub t) 201:Nat):Int)]:=by
 obtain⟨n,rfl⟩:=sK n 1 (by omega)
 have:=bGo t L n 201 hL (by omega) hw (by omega) (by omega)
 rw[c58,bPV,aUR,show(201:Int)=((201:Nat):Int) from rfl,this,oT]
end Go.TV
namespace Go.TV
open Go.AI Go.PI Go.Proofs
set_option maxRecDepth 20000
def zO:G.O:=⟨0,[],[],⟨[],[]⟩,[],[]⟩
def bAk{k:Int}{n:G.Y}{v:G.O}{l:List G.T}(h:fV ⟨k,n,v,l⟩<1000000000):
    (k=1/\aNm n=ae/\v=zO/\l=[])∨(k=2/\n=⟨[],[]⟩/\sW v=0/\l=[])∨(k=3/\lU n=ae/\l.length<=8/\v=zO):=by
 have h1:GQ k n v l=ae:=aAq h;simp only[fV]at h;have hz:v.kind=0->v=zO:=λe=>by
  have h2:=Tv (o:=v) (by omega)
  cases v with|mk k n d s t l=>
  have e:k=0:=e;subst e;have:aNn 0 n d s t l=ae:=h2;simp only[aNn,show aj ((0:Int)=0)=ae from rfl,show aj ((0:Int)=1)=ah from rfl,show aj ((0:Int)=2)=ah from rfl,show aj ((0:Int)=3)=ah from rfl,show aj ((0:Int)=4)=ah from rfl,Bool.true_and,Bool.false_and,Bool.or_false,aC,aD,List.isEmpty_iff]at this
  obtain⟨⟨⟨⟨a1,a2⟩,a3⟩,a4⟩,a5⟩:=this;have a1:=a1.2;subst a1;subst a2;subst a3;subst a4;subst a5;rfl
 simp only[GQ,b9,aC,aD,List.isEmpty_iff,d7,Bool.not_eq_true',bC]at h1;rcases h1 with(⟨⟨⟨a1,a2⟩,a3⟩,a4⟩|⟨⟨⟨a1,a2⟩,a3⟩,a4⟩)|⟨⟨⟨a1,a2⟩,a3⟩,a4⟩
 .exact .inl ⟨a1,a2,hz a3,a4⟩
 .exact .inr (.inl ⟨a1,a2,by simp[sW,a4],a3⟩)
 .exact .inr (.inr ⟨a1,a2,a3,hz a4⟩)
def bJc(o:G.O):Bool:=aj (min (nO o) 3001<=3000)
mutual
def a8T:G.T->Bool
 |⟨k,_,v,l⟩=>bif aj (k=2)then bJc v else bif aj (k=3)then T4 l else ae
def T4:List G.T->Bool
 |[]=>ae
 |o::l=>a8T o&&T4 l
end
def aSw{s:G.Y}(h:lU s=ae){L n:Nat}(hL:7000<=L)(hn:80<=n):bP L n 89 [yR 1 s]=aa [yB ae]:=by
 obtain⟨n,rfl⟩:=sK n 1 (by omega)
 have h1:bP L n 113 [yR 1 s]=aa [yR 2 (⟨2,[],[],s,[],[]⟩:G.O)]:=by
  obtain⟨n,rfl⟩:=sK n 1 (by omega)
  rw[a6Y,a8b,aM3]
 have hz:kE ⟨2,[],[],s,[],[]⟩=2:=by simp[kE,gV,aIx,wS,h]
 have h2:bP L n 88 [yR 2 (⟨2,[],[],s,[],[]⟩:G.O)]=aa [yB (aj (min (nO ⟨2,[],[],s,[],[]⟩) 3001<=3000))]:=aSn (by rw[hz,qI];omega) hL (by rw[hz];omega) (by rw[hz];omega)
 rw[c89,bPI,aUz,h1];show dE (bP L n 88 [yR 2 (⟨2,[],[],s,[],[]⟩:G.O)]) _=_;rw[h2,eH];rfl
def aGd{s:G.Y}(h:aNm s=ae)(w:List UInt8): ¬s=⟨eE,w⟩:=λe=>by
 subst e;have h1:aNm ⟨eE,w⟩=(ah&&an 1 w.length&&an w.length 20):=rfl;rw[h1,Bool.false_and,Bool.false_and]at h;cases h
def aGo{W:Type}{a:G.O}{K:G.O×Unit->Option W}:dP (aa [yR 2 a]) K=K (a,()):=rfl
def aWp{s:G.Y}(h:aNm s=ae){L n:Nat}(hL:7000<=L)(hn:90<=n):bP L n 87 [yR 1 s]=aa [yB ae]:=by
 obtain⟨n,rfl⟩:=sK n 3 (by omega)
 have h1:bP L (n+2) 110 []=aa [yR 2 (⟨2,[],[],⟨eE,[110,105,108]⟩,[],[]⟩:G.O)]:=by
  rw[show n+2=n+1+1 from rfl,bPl,a8d,aM9,a6Y];rfl
 have h2:bP L (n+2) 111 []=aa [yR 2 (⟨2,[],[],⟨eE,[116]⟩,[],[]⟩:G.O)]:=by
  rw[show n+2=n+1+1 from rfl,bPk,a8c,aM8,a6Y];rfl
 rw[show n+3=n+2+1 from rfl,c87,bPK,aLs,aSw (a2I h) hL (by omega),eH,bN,h1,aGo]
 simp only[oP];rw[bG (aGd h _),b8,bN,h2,aGo];simp only[oP];rw[bG (aGd h _)];rfl
def aSi{L n:Nat}(hL:10<=L)(hn:10<=n):bP L n 53 [yR 2 zO,yR 2 (⟨0,[],[],⟨[],[]⟩,[],[]⟩:G.O)]=aa [yB ae]:=by
 have:=aBF zO (by show(2:Nat)<1000000000;omega) ⟨0,[],[],⟨[],[]⟩,[],[]⟩ L n (by show(2:Nat)<=L;omega) (by show(2:Nat)<n;omega)
 exact this.trans (by simp[bb,zO])
def aPr{c:bT}{L:Nat}{a:List G.T}(hb:a.length<1000000000): ∀(l:List G.T) (k m:Nat),a.drop k=l->l.length<m->
    (∀x,x∈l->c 147 [yR 3 x]=aa [yB (!a8T x)])->∃i:Int,Av c L m (a.length:Int) a (k:Int)=aa [yI i]/\aj (0<=i)= !T4 l:=by
 intro l;induction l with
 |nil=>
  intro k m h1 h3 _;obtain⟨m,rfl⟩:=sK m 1 (by simp at h3;omega)
  have e1:=cI h1;have e3:aj ((k:Int)<(a.length:Int))=ah:=by simp;omega
  refine⟨-1,?_,by simp[T4]⟩
  rw[Av,PJ,e3,bL]
 |cons x l ih=>
  intro k m h1 h3 hc;obtain⟨m,rfl⟩:=sK m 1 (by simp at h3;omega)
  obtain⟨a1,a2,a3⟩:=cL h1;have e3:aj ((k:Int)<(a.length:Int))=ae:=by simp;omega
  have hx:=hc x (aH ..);rw[Av,PJ,e3,bN,bV,a1,cH,hx,eH,eC (by omega)]
  try dsimp only
  cases e:a8T x with
  |false=>exact⟨k,rfl,by simp[T4,e]⟩
  |true=>
   obtain⟨i,h4,h5⟩:=ih (k+1) m a3 (by simp at h3;omega) λz hz=>hc z (aG _ hz)
   exact⟨i,h4,by rw[h5];simp[T4,e]⟩
def a6b: ∀t:G.T,∀(L n:Nat),7000<=L->fV t<L->fV t+100<=n->fV t<1000000000->bP L n 59 [yR 3 t]=aa [yB (a8T t)]:=λt=>by
 induction t using kX with
 |h k nm v l ih=>
  intro L n hL0 hL hn hw;have h3:=bAk hw;simp only[fV]at hw hL hn;have hlen:=fW l;obtain⟨n,rfl⟩:=sK n 4 (by omega)
  rw[show n+4=n+3+1 from rfl,c59,bPU,aLE]
  rcases h3 with⟨rfl,h1,rfl,rfl⟩|⟨rfl,rfl,h1,rfl⟩|⟨rfl,h1,h2,rfl⟩
  .rw[tP.1,show aj ((1:Int)=1)=ae from rfl,bN]
   show dE (bP L (n+3) 87 [yR 1 nm]) _=_;rw[aWp h1 hL0 (by omega),eH,bN]
   show dE (bP L (n+3) 53 [yR 2 zO,yR 2 (⟨0,[],[],⟨[],[]⟩,[],[]⟩:G.O)]) _=_;rw[aSi (by omega) (by omega),eH,bN];rfl
  .rw[tP.1,show aj ((2:Int)=1)=ah from rfl,bL,show aj ((2:Int)=2)=ae from rfl,bN,tP.2.1,bF rfl,bN]
   show dE (bP L (n+3) 88 [yR 2 v]) _=_;rw[aSn (by omega) hL0 (by omega) (by omega),eH]
   have hf:a8T ⟨2,⟨[],[]⟩,v,[]⟩=bJc v:=rfl;rw[hf,bJc];cases aj (min (nO v) 3001<=3000)<;>rfl
  .rw[tP.1,show aj ((3:Int)=1)=ah from rfl,bL,show aj ((3:Int)=2)=ah from rfl,bL,show aj ((3:Int)=3)=ae from rfl,bN]
   show dE (bP L (n+3) 89 [yR 1 nm]) _=_;rw[aSw h1 hL0 (by omega),eH,bD,bL]
   show dE (bP L (n+3) 53 [yR 2 zO,yR 2 (⟨0,[],[],⟨[],[]⟩,[],[]⟩:G.O)]) _=_;rw[aSi (by omega) (by omega),eH,bD,bL]
   show aBA (bP L (n+3)) L (aj ((8:Int)<(l.length:Int))) _=_;rw[bG (by omega: ¬(8:Int)<(l.length:Int)),aBA,aLD,bL,tP.2.2.2]
   obtain⟨i,e1,e2⟩:=aPr (c:=bP L (n+1)) (L:=L) (a:=l) (by omega) l 0 L rfl (by omega) λx hx=>by
    rw[bO7,a7W,aMv];show dE (bP L n 59 [yR 3 x]) _=_;rw[ih x hx L n hL0 (by have:=cV hx;omega) (by have:=cV hx;omega) (by have:=cV hx;omega),eH]
   have e3:bP L (n+2) 114 [yS 3 l]=aa [yI i]:=by
    rw[show n+2=n+1+1 from rfl,bPj,a8a,YN]
    exact e1
   have e4:bP L (n+3) 90 [yS 3 l]=aa [yB (!T4 l)]:=by
    rw[show n+3=n+2+1 from rfl,c90,bPH,aUy,e3,oT,e2]
   rw[e4,eH,Bool.not_not];rfl
def aWn(t:G.T):Bool:=aj (min (ua t) 3001<=3000)&&aj (min (ub t) 201<=200)&&a8T t
def aWr{t:G.T}{L n:Nat}(hL0:7000<=L)(hL:fV t<L)(hn:fV t+110<=n)(hw:fV t<1000000000):bP L n 24 [yR 3 t]=aa [yB (aWn t)]:=by
 obtain⟨n,rfl⟩:=sK n 1 (by omega)
 rw[c24,bP3,aLO,a29 (by omega) (by omega) hw,oT,aWn]
 try dsimp only
 by_cases h1:min (ua t) 3001<=3000
 .rw[bF (by omega:((min (ua t) 3001:Nat):Int)<=3000),bN,a6A (by omega) (by omega) hw,oT,bF h1]
  try dsimp only
  by_cases h2:min (ub t) 201<=200
  .rw[bF (by omega:((min (ub t) 201:Nat):Int)<=200),bN,a6b t L n hL0 hL (by omega) hw,eH,bF h2];rfl
  .rw[bG (by omega: ¬((min (ub t) 201:Nat):Int)<=200),bL,bG h2];rfl
 .rw[bG (by omega: ¬((min (ua t) 3001:Nat):Int)<=3000),bL,bG h1];rfl
end Go.TV
namespace Go.TV
open Go.AI Go.PI Go.Proofs
def OSR(x:Rt)(B:Nat):Prop:= ∃(o:G.O) (s:G.Z),x=aa [yR 2 o,yR 0 s]/\kE o+sW o<=B/\dB s
def wA:RY 2 [] [] ⟨eE,[110,105,108]⟩ [] []=0:=rfl
def OSR.mk{o:G.O}{s:G.Z}{B:Nat}(h:kE o+sW o<=B)(hs:dB s):OSR (aa [yR 2 o,yR 0 s]) B:=⟨o,s,rfl,h,hs⟩
def OSR.le{x:Rt}{A B:Nat}(h:OSR x A)(hl:A<=B):OSR x B:=by obtain⟨o,s,h1,h2,h3⟩:=h;exact⟨o,s,h1,by omega,h3⟩
def vH{W:Type}{a:G.O}{K:G.O×Unit->Option W}:dP (aa [yR 2 a]) K=K (a,()):=rfl
def vG{W:Type}{a:G.O}{b:G.Z}{K:G.O×G.Z×Unit->Option W}:tL (aa [yR 2 a,yR 0 b]) K=K (a,b,()):=rfl
def a2M{W:Type}{a:G.Y}{K:G.Y×Unit->Option W}:vI (aa [yR 1 a]) K=K (a,()):=rfl
def DV{N:Type}{l:List N}{lo hi:Int}(h0:0<=lo)(h1:lo<=hi)(h2:hi<=(l.length:Int)): ∃w,slc l lo hi=aa w/\(w.length:Int)=hi-lo:=by
 unfold slc;have e1:aj (0<=lo)=ae:=by simpa using h0
 have e2:aj (lo<=hi)=ae:=by simpa using h1
 have e3:aj (hi<=(l.length:Int))=ae:=by simpa using h2
 rw[e1,e2,e3];refine⟨_,rfl,?_⟩;rw[List.length_drop,List.length_take];omega
section
variable{c:bT}(h:Lib c)
include h
def aBw{L:Nat}{s:G.Z}(hs:dB s){a5 a1:Int}{b:G.O}(h0:0<=a5)(h9:a5<=9):OSR (IZ c L a5 a1 s b) 20:=by
 have seven: ∀K:Int×G.Z×Unit->Rt,(∀r s',0<=r->r<7->dB s'->OSR (K (r,s',())) 20)->OSR (vJ (c 17 [yI (7:Int),yR 0 s]) K) 20:=λK hK=>by
  obtain⟨r,s',e,g1,g2,g3⟩:=h.nx s 7 hs (by omega)
  rw[e,jX];exact hK r s' g1 g2 g3
 have three: ∀K:Int×G.Z×Unit->Rt,(∀r s',0<=r->r<3->dB s'->OSR (K (r,s',())) 20)->OSR (vJ (c 17 [yI (3:Int),yR 0 s]) K) 20:=λK hK=>by
  obtain⟨r,s',e,g1,g2,g3⟩:=h.nx s 3 hs (by omega)
  rw[e,jX];exact hK r s' g1 g2 g3
 have obj: ∀{x:Rt} {s':G.Z},IY x->dB s'->OSR (dP x λ(r:G.O×Unit)=>aa [yR 2 r.1,yR 0 s']) 20:=λhx gy=>by
  obtain⟨o,e,g⟩:=hx;rw[e,vH];exact .mk g gy
 rw[IZ,Sn];obtain rfl|rfl|rfl|rfl|rfl|rfl|rfl|rfl|rfl|rfl:a5=0∨a5=1∨a5=2∨a5=3∨a5=4∨a5=5∨a5=6∨a5=7∨a5=8∨a5=9:=by omega
 .exact obj h.n hs
 .exact obj h.t hs
 .exact seven _ λr s' g1 g2 g3=>obj (h.i r g1 g2) g3
 .exact seven _ λr s' g1 g2 g3=>obj (h.i r g1 g2) g3
 .exact obj h.q1 hs
 .exact obj h.q2 hs
 .refine three _ λr s' g1 g2 g3=>?_
  obtain⟨w,e1,l1⟩:=DV (l:=([97,98,99]:List UInt8)) (hi:=3) g1 (by omega) (by decide)
  obtain⟨w2,e2,l2⟩:=DV (l:=w) (lo:=0) (hi:=1) (by omega) (by omega) (by omega)
  show OSR (ob (slc ([97,98,99]:List UInt8) r 3) λv5=>ob (slc v5 (0:Int) (1:Int)) λv6=>vI (c 14 [yT v6]) λ(r7:G.Y×Unit)=>dP (c 66 [yR 1 r7.1]) λ(r8:G.O×Unit)=>aa [yR 2 r8.1,yR 0 s']) 20
  rw[e1,cH,e2,cH,h.u,a2M];exact obj (h.sy _ (aGg (by omega) (by omega))) g3
 .refine three _ λr s' g1 g2 g3=>?_
  obtain⟨w,e1,l1⟩:=DV (l:=([112,113]:List UInt8)) (lo:=0) (hi:=r) (by omega) g1 (by show r<=2;omega)
  show OSR (ob (slc ([112,113]:List UInt8) 0 r) λv10=>dP (c 67 [yT v10]) λ(r11:G.O×Unit)=>aa [yR 2 r11.1,yR 0 s']) 20
  rw[e1,cH];exact obj (h.x _ (by simp only[aSZ,d7];omega)) g3
 .exact obj h.i0 hs
 .exact obj h.i1 hs
def Ob0{L:Nat}{s:G.Z}(hs:dB s):OSR (aUo c L 0 s) 20:=by
 rw[aUo,Sp];obtain⟨r,s',e,g1,g2,g3⟩:=h.nx s 14 hs (by omega)
 rw[e,jX];show OSR (CX c L (aj ((9:Int)<r)) r 0 s' _) 20;rw[CX,So];cases e2:aj ((9:Int)<r)with
 |true=>
  simp only[aD]at e2;obtain⟨m,rfl⟩: ∃m:Nat,r=((m+8:Nat):Int):=⟨(r-8).toNat,by omega⟩
  rw[bN,show((m+8:Nat):Int)-8=(m:Int) by omega,aDJ (by omega)]
  exact aBw h g3 (by omega) (by omega)
 |false=>
  simp only[bC]at e2;exact aBw h g3 g1 (by omega)
def aRb{L:Nat}(h0: ∀s,dB s->OSR (c 26 [yI (0:Int),yR 0 s]) 20){b:G.O}{r:Nat}(hr:r<=3):
    ∀(j k m:Nat) (a6:List G.O) (s:G.Z),r=k+j->a6.length=k->gV a6<=21*k->j<m->dB s->OSR (zL c L m (r:Int) 1 (k:Int) a6 s b) 200:=by
 intro j;induction j with
 |zero=>
  intro k m a6 s h1 h2 h3 h4 hs;obtain⟨m,rfl⟩:=sK m 1 (by omega)
  have e3:aj ((k:Int)<(r:Int))=ah:=by simp;omega
  rw[zL,JF,e3,bL]
  match a6,h2 with
  |[],_=>rw[h.l0,vH];exact .mk (by simp[Su,kE,gV,wA,qI]) hs
  |[a],h2=>rw[h.l1,vH];exact .mk (by simp[gV]at h3;simp[Su,Gz,kE,gV,wA,wB,qI,wC];simp only[aM,aX]at h2;omega) hs
  |[a,d],h2=>rw[h.l2,vH];exact .mk (by simp[gV]at h3;simp[Su,Gz,kE,gV,wA,wB,qI,wC];simp only[aM,aX]at h2;omega) hs
  |[a,d,e],h2=>rw[h.l3,vH];exact .mk (by simp[gV]at h3;simp[Su,Gz,kE,gV,wA,wB,qI,wC];simp only[aM,aX]at h2;omega) hs
  |_::_::_::_::l,h2=>simp at h2;omega
 |succ j ih=>
  intro k m a6 s h1 h2 h3 h4 hs;obtain⟨m,rfl⟩:=sK m 1 (by omega)
  have e3:aj ((k:Int)<(r:Int))=ae:=by simp;omega
  rw[zL,JF,e3,bN];obtain⟨o,s',e,g1,g2⟩:=h0 s hs;show OSR (tL (c 26 [yI (0:Int),yR 0 s]) _) 200;rw[e,vG];have e4:an ((a6.length+([o]:List G.O).length)*112) 1073741824=ae:=by
   rw[d7];simp only[aM,aX];omega
  simp only[e4,eZ];rw[eC (by omega)]
  have hz: ∀l:List G.O,gV (l++ [o])=gV l+(kE o+sW o)+1:=by
   intro l;induction l with
   |nil=>simp[gV]
   |cons x l ih=>simp only[aY,gV,ih];omega
  exact ih (k+1) m (a6++ [o]) s' (by omega) (by simp;omega) (by rw[hz];omega) (by omega) g2
def Ob1{L:Nat}(hL:10<=L)(h0: ∀s,dB s->OSR (c 26 [yI (0:Int),yR 0 s]) 20){s:G.Z}(hs:dB s):OSR (aUo c L 1 s) 200:=by
 rw[aUo,Sp];obtain⟨r,s',e,g1,g2,g3⟩:=h.nx s 14 hs (by omega)
 rw[e,jX];show OSR (CX c L ah r 1 s' _) 200;rw[CX,So,bL];by_cases h9:r<=9
 .exact(aBw h g3 g1 h9).le (by omega)
 have sd: ∀b,OSR (zN c L ae 1 s' b) 200:=λb=>by
  rw[zN,JG,bN];obtain⟨q,s2,e,k1,k2,k3⟩:=h.nx s' 4 g3 (by omega)
  rw[e,jX];obtain⟨m,rfl⟩: ∃m:Nat,q=(m:Int):=⟨q.toNat,by omega⟩
  exact aRb h h0 (by omega) m 0 L [] s2 (by omega) rfl (a8 _) (by omega) k3
 rw[IZ,Sn];obtain rfl|rfl|rfl|rfl:r=10∨r=11∨r=12∨r=13:=by omega
 .exact sd _
 .exact sd _
 .exact sd _
 .have pr: ∀b,OSR (zN c L ah 1 s' b) 200:=λb=>by
   rw[zN,JG,bL];obtain⟨o,s2,e,k1,k2⟩:=h0 s' g3;show OSR (tL (c 26 [yI (0:Int),yR 0 s']) _) 200;rw[e,vG];obtain⟨o2,s3,e,k3,k4⟩:=h0 s2 k2;show OSR (tL (c 26 [yI (0:Int),yR 0 s2]) _) 200;rw[e,vG,h.cn,vH];exact .mk (by simp[Gz,kE,gV,wB,wC];omega) k4
  exact pr aSg
end
end Go.TV
namespace Go.TV
open Go.AI Go.PI Go.Proofs
def TSR(x:Rt)(B:Nat):Prop:= ∃(t:G.T) (s:G.Z),x=aa [yR 3 t,yR 0 s]/\fV t<=B/\dB s
def TSR.mk{o:G.T}{s:G.Z}{B:Nat}(h:fV o<=B)(hs:dB s):TSR (aa [yR 3 o,yR 0 s]) B:=⟨o,s,rfl,h,hs⟩
def TSR.le{x:Rt}{A B:Nat}(h:TSR x A)(hl:A<=B):TSR x B:=by obtain⟨o,s,h1,h2,h3⟩:=h;exact⟨o,s,h1,by omega,h3⟩
def gW{W:Type}{a:G.T}{K:G.T×Unit->Option W}:pL (aa [yR 3 a]) K=K (a,()):=rfl
def lB{W:Type}{a:G.T}{b:G.Z}{K:G.T×G.Z×Unit->Option W}:uD (aa [yR 3 a,yR 0 b]) K=K (a,b,()):=rfl
def aGm{W:Type}{a:List (List UInt8)}{K:List (List UInt8)×Unit->Option W}:fN (D:=U0.D) [.sl .str] (aa [⟨.sl .str,a⟩]) K=K (a,()):=rfl
def aGl{W:Type}{a:G.Y}{K:G.Y×Unit->Option W}:vI (aa [yR 1 a]) K=K (a,()):=rfl
def a7b(n:G.Y)(h:aNm n=ae):Ak 1 n aSg []=0:=by
 unfold Ak GQ;rw[h];rfl
def aNy(f:G.Y)(l:List G.T):Nat:=bif lU f&&an l.length 8 then 0 else 1000000000
def aVz{f:G.Y}{l:List G.T}(h:lU f=ae)(hl:l.length<=8):aNy f l=0:=by
 unfold aNy;rw[h,Nat.ble_eq_true_of_le hl];rfl
def a7d(n:G.Y)(l:List G.T):Ak 3 n aSg l=aNy n l:=by
 unfold Ak GQ aNy;cases lU n<;>cases an l.length 8<;>rfl
def JI:(∀f a,aNy f [a]=wS f)/\(∀f a b,aNy f [a,b]=wS f)/\wS ⟨eE,[110,111,116]⟩=0/\wS ⟨eE,[101,113,117,97,108]⟩=0/\wS ⟨eE,[99,111,110,115,112]⟩=0/\wS ⟨eE,[99,111,110,115]⟩=0/\wS ⟨eE,[60]⟩=0:=
 ⟨λf a=>by unfold aNy wS;cases lU f<;>rfl,λf a b=>by unfold aNy wS;cases lU f<;>rfl,rfl,rfl,rfl,rfl,rfl⟩
def a7c(o:G.O):Ak 2 ⟨[],[]⟩ o []=sW o:=by
 unfold Ak GQ sW;cases aj (o.kind=0)<;>rfl
def aDG:kE aSg=2:=rfl
def bAm(w:List UInt8)(h1:1<=w.length)(h2:w.length<=20):fV (tV w)=6:=by
 have h:Ak 1 ⟨DM,w⟩ aSg []=0:=a7b ⟨DM,w⟩ (bC7 h1 h2);simp only[tV,fV,cX,h,aDG]
def zB(f:G.Y)(l:List G.T):fV (tA f l)=6+cX l+aNy f l:=by simp only[tA,fV,a7d,aDG]
def bAn(o:G.O):fV (tC o)=4+(kE o+sW o):=by simp only[tC,fV,cX,a7c];omega
def tsz'_app(l:List G.T)(t:G.T):cX (l++ [t])=cX l+fV t+1:=by
 induction l with
 |nil=>simp[cX]
 |cons x l ih=>simp only[aY,cX,ih];omega
section
variable{c:bT}(h:Lib c)
include h
def bHr{L:Nat}{s:G.Z}(hs:dB s):TSR (bIL c L s) 6:=by
 rw[bIL,aU5];obtain⟨r,s',e,g1,g2,g3⟩:=h.nx s 3 hs (by omega)
 rw[e,jX];obtain⟨w,e1,l1⟩:=DV (l:=([120,121,122]:List UInt8)) (hi:=3) g1 (by omega) (by decide)
 obtain⟨w2,e2,l2⟩:=DV (l:=w) (lo:=0) (hi:=1) (by omega) (by omega) (by omega)
 show TSR (ob (slc ([120,121,122]:List UInt8) r 3) λv1=>ob (slc v1 (0:Int) (1:Int)) λv2=>pL (c 8 [yT v2]) λ(r3:G.T×Unit)=>aa [yR 3 r3.1,yR 0 s']) 6
 rw[e1,cH,e2,cH,h.v,gW];exact .mk (by rw[bAm _ (by omega) (by omega)];omega) g3
def aQ7{L:Nat}{E:List G.E}{d:Int}{B:Nat}(hB:B<1000000)(hr: ∀s,dB s->TSR (c 15 [yS 15 E,yI (IntKind.i64.wrap (d-1)),yR 0 s]) B){f:G.Y}(hf:lU f=ae){b:G.T}{r:Nat}(h3:r<=3):
    ∀(j k m:Nat) (a:List G.T) (s:G.Z),r=k+j->a.length=k->cX a<=(B+1)*k->j<m->dB s->TSR (FV c L m (r:Int) E d (k:Int) a s f b) (6+3*(B+1)):=by
 intro j;induction j with
 |zero=>
  intro k m a s h1 h2 h4 h5 hs;obtain⟨m,rfl⟩:=sK m 1 (by omega)
  have e3:aj ((k:Int)<(r:Int))=ah:=by simp;omega
  rw[FV,aBZ,e3,bL,h.a,gW];refine .mk ?_ hs;have:(B+1)*k<=(B+1)*3:=Nat.mul_le_mul_left _ (by omega)
  rw[zB,aVz hf (by omega)];omega
 |succ j ih=>
  intro k m a s h1 h2 h4 h5 hs;obtain⟨m,rfl⟩:=sK m 1 (by omega)
  have e3:aj ((k:Int)<(r:Int))=ae:=by simp;omega
  obtain⟨t,s',e,g1,g2⟩:=hr s hs;rw[FV,aBZ,e3,bN,e,lB];have e4:an ((a.length+([t]:List G.T).length)*176) 1073741824=ae:=by
   rw[d7];simp only[aM,aX];omega
  simp only[e4,eZ];rw[eC (by omega)]
  refine ih (k+1) m (a++ [t]) s' (by omega) (by simp;omega) ?_ (by omega) g2
  rw[tsz'_app,Nat.mul_add];omega
def aKs{L:Nat}(hL:10<=L){E:List G.E}{d:Int}{B:Nat}(hB:B<1000000)(hB2:204<=B)(hv: ∀s,dB s->TSR (c 18 [yR 0 s]) 6)(ho: ∀s,dB s->OSR (c 26 [yI (1:Int),yR 0 s]) 200)
    (ha: ∀f:G.Y,bId (c 49 [yS 15 E,yR 1 f])) (hr:1<=d->∀s,dB s->TSR (c 15 [yS 15 E,yI (IntKind.i64.wrap (d-1)),yR 0 s]) B) {s:G.Z} (hs:dB s):
    TSR (bIN c L E d s) (bif aj (d<1)then 204 else 6+3*(B+1)):=by
 have lo: ∀(a7:Int) (s':G.Z) (b:G.T),a7<=3->dB s'->TSR (Sl c L a7 E d s' b) 204:=λa7 s' b g1 g2=>by
  rw[Sl,aB0];cases e1:aj (a7<(3:Int))with
  |true=>
   obtain⟨t,s2,e,q1,q2⟩:=hv s' g2;rw[bN,e,lB];exact .mk (by show fV t<=204;omega) q2
  |false=>
   simp only[bC]at e1;have e2:aj (a7=(3:Int))=ae:=by simp;omega
   obtain⟨o,s2,e,q1,q2⟩:=ho s' g2;rw[bL,e2,bN,e,vG,h.k,gW];exact .mk (by show fV (tC o)<=204;rw[bAn];omega) q2
 obtain⟨r,s',e,g1,g2,g3⟩:=h.nx s 12 hs (by omega)
 rw[bIN,aMt,e,jX];cases e1:aj (d<(1:Int))with
 |true=>
  rw[bN,aI];show TSR (JB c L (aj ((3:Int)<r)) r E d s' _) _;rw[JB,aB1];cases e2:aj ((3:Int)<r)with
  |true=>
   rw[bN,show aj ((4:Int)=0)=ah by decide]
   simp only[b8,eZ];exact lo _ _ _ (by have:=Int.tmod_lt_of_pos r (b:=4) (by omega);omega) g3
  |false=>
   simp only[bC]at e2;exact lo _ _ _ (by omega) g3
 |false=>
  rw[bL,aJ];simp only[bC]at e1;show TSR (JB c L ah r E d s' _) _;rw[JB,aB1,bL];by_cases h4:r<=3
  .exact(lo _ _ _ h4 g3).le (by omega)
  have jn: ∀(s2:G.Z) (f:G.Y) (b:G.T),lU f=ae->dB s2->TSR (aBE c L E d s2 f b) (6+3*(B+1)):=λs2 f b hf k1=>by
   obtain⟨k,b2,e,k2⟩:=ha f;rw[aBE,aMs,e,KR];exact aQ7 h hB (hr (by omega)) hf k2 k 0 L [] s2 (by omega) rfl (a8 _) (by omega) k1
  have e2:aj (r<(3:Int))=ah:=by simp;omega
  have e3:aj (r=(3:Int))=ah:=by simp;omega
  obtain⟨lh,eh,hh,nh⟩:=h.hd;obtain⟨lw,ew,hw,nw⟩:=h.ow;obtain⟨q,s2,e4,k1,k2,k3⟩:=h.nx s' 4 g3 (by omega)
  rw[Sl,aB0,e2,bL,e3,bL,eh,aGm,ew,aGm,e4,jX];cases e5:aj (q<(3:Int))with
  |true=>
   obtain⟨i,s3,e6,k4,k5,k6⟩:=h.nx s2 (lh.length:Int) k3 (by omega)
   obtain⟨m,rfl⟩: ∃m:Nat,i=(m:Int):=⟨i.toNat,by omega⟩
   have hm:lh[m]?=aa (lh[m]'(by omega)):=aV _
   simp only[bN];rw[e6,jX];simp only[bV,hm,cH];rw[h.s,aGl];have hz:=aGy nh (List.getElem_mem (l:=lh) (n:=m) (by omega))
   exact jn _ _ _ (a2J hz.1 hz.2) k6
  |false=>
   obtain⟨i,s3,e6,k4,k5,k6⟩:=h.nx s2 (lw.length:Int) k3 (by omega)
   obtain⟨m,rfl⟩: ∃m:Nat,i=(m:Int):=⟨i.toNat,by omega⟩
   have hm:lw[m]?=aa (lw[m]'(by omega)):=aV _
   simp only[bL];rw[e6,jX];simp only[bV,hm,cH];rw[h.u,aGl];have hz:=aGy nw (List.getElem_mem (l:=lw) (n:=m) (by omega))
   exact jn _ _ _ (aGg hz.1 hz.2) k6
def bHR{L:Nat}{E:List G.E}{A B:Nat}(hv: ∀s,dB s->TSR (c 18 [yR 0 s]) 6)
    (h2: ∀s,dB s->TSR (c 15 [yS 15 E,yI (2:Int),yR 0 s]) A) (h1: ∀s,dB s->TSR (c 15 [yS 15 E,yI (1:Int),yR 0 s]) B) {s:G.Z} (hs:dB s):
    TSR (bIH c L E 2 s) (A+B+30):=by
 obtain⟨t,s2,e,g1,g2⟩:=h2 s hs;obtain⟨r,s3,e2,k1,k2,k3⟩:=h.nx s2 8 g2 (by omega)
 rw[bIH,aLL,e,lB,e2,jX];have key: ∀(a:Bool) (b:G.T),TSR (aBB c L a r E 2 s3 t b) (A+B+30):=λa b=>by
  rw[aBB,aLK];cases a with
  |true=>
   rw[bN,h.l,gW];exact .mk (by simp only[zB,cX,JI];omega) k3
  |false=>
   rw[bL];cases aj (r=(2:Int))with
   |true=>
    obtain⟨t2,s4,e,q1,q2⟩:=h1 s3 k3;rw[bN];show TSR (uD (c 15 [yS 15 E,yI (1:Int),yR 0 s3]) _) _;rw[e,lB];simp only[];rw[h.l,gW];simp only[];rw[h.l,gW];exact .mk (by simp only[zB,cX,JI];omega) q2
   |false=>
    rw[bL];cases aj (r=(3:Int))with
    |true=>
     obtain⟨t2,s4,e,q1,q2⟩:=hv s3 k3;rw[bN,e,lB];simp only[];rw[h.l,gW];simp only[];rw[h.l,gW];exact .mk (by simp only[zB,cX,JI];omega) q2
    |false=>
     rw[bL];cases aj (r=(4:Int))with
     |true=>
      obtain⟨t2,s4,e,q1,q2⟩:=h1 s3 k3;rw[bN];show TSR (uD (c 15 [yS 15 E,yI (1:Int),yR 0 s3]) _) _;rw[e,lB];simp only[];rw[h.l,gW];exact .mk (by simp only[zB,cX,JI];omega) q2
     |false=>
      rw[bL];cases aj (r=(5:Int))with
      |true=>
       obtain⟨t1,s4,e,q1,q2⟩:=hv s3 k3;rw[bN,e,lB];obtain⟨t2,s5,e,q3,q4⟩:=h1 s4 q2;show TSR (uD (c 15 [yS 15 E,yI (1:Int),yR 0 s4]) _) _;rw[e,lB];simp only[];rw[h.l,gW];simp only[];rw[h.l,gW];exact .mk (by simp only[zB,cX,JI];omega) q4
      |false=>exact .mk (by omega) k3
 cases aj (r=(0:Int))with
 |true=>exact key _ _
 |false=>exact key _ _
end
def aUr(x:Rt)(B:Nat):Prop:= ∃(l:List G.T) (s:G.Z),x=aa [yS 3 l,yR 0 s]/\cX l<=B/\dB s
def a2Y{W:Type}{a:List G.T}{b:G.Z}{K:List G.T×G.Z×Unit->Option W}:fN (D:=U0.D) [.sl (.rc 3),.rc 0] (aa [yS 3 a,yR 0 b]) K=K (a,b,()):=rfl
end Go.TV
namespace Go.TV
open Go.AI Go.PI Go.Proofs
set_option maxRecDepth 20000
mutual
noncomputable def Dn(a b:G.T):G.T->G.T
 |⟨k,n,v,l⟩=>bif aj (G.T.mk k n v l=a)then b else bif aj (k=3)then⟨k,n,v,BF a b l⟩else⟨k,n,v,l⟩
noncomputable def BF(a b:G.T):List G.T->List G.T
 |[]=>[]
 |x::l=>Dn a b x::BF a b l
end
def rpT'_len(a b:G.T): ∀l:List G.T,(BF a b l).length=l.length
 |[]=>rfl
 |x::l=>by simp[BF,rpT'_len a b l]
def aEF(a b:G.T): ∀t:G.T,fV (Dn a b t)<=fV t*(1+fV b):=λt=>by
 induction t using kX with
 |h k n v l ih=>
  have hl:cX (BF a b l)<=cX l*(1+fV b):=by
   clear k n v;induction l with
   |nil=>exact a8 _
   |cons x l ih2=>
    have h1:=ih x (aH ..);have h2:=ih2 λo ho=>ih o (aG _ ho)
    simp only[BF,cX];rw[Nat.add_mul,Nat.add_mul,Nat.one_mul];omega
  have h0: ∀m:Nat,m<=m*(1+fV b):=λm=>Nat.le_mul_of_pos_right _ (by omega)
  rw[Dn];cases aj (G.T.mk k n v l=a)with
  |true=>
   rw[aI];have h1:4*(1+fV b)<=fV ⟨k,n,v,l⟩*(1+fV b):=Nat.mul_le_mul_right _ (by simp only[fV];omega)
   omega
  |false=>
   rw[aJ];by_cases hk:k=3
   .rw[bF hk,aI];have hb:Ak k n v (BF a b l)=Ak k n v l:=by
     subst hk;simp only[Ak,GQ,rpT'_len,show aj ((3:Int)=1)=ah from rfl,show aj ((3:Int)=2)=ah from rfl,Bool.false_and,Bool.false_or]
    simp only[fV,hb];have:=h0 (4+kE v+Ak k n v l);rw[show 4+kE v+cX l+Ak k n v l=(4+kE v+Ak k n v l)+cX l by omega,Nat.add_mul];omega
   .rw[bG hk,aJ];exact h0 _
def KQ{W:Type}{a b d:G.T}{K:G.T×G.T×G.T×Unit->Option W}:fN (D:=U0.D) [.rc 3,.rc 3,.rc 3] (aa [yR 3 a,yR 3 b,yR 3 d]) K=K (a,b,d,()):=rfl
def HM{N:Type}(x:N): ∀n,(qZ x n).length=n
 |0=>rfl
 |n+1=>by show(qZ x n).length+1=n+1;rw[HM x n]
def aNB{c:bT}{L:Nat}{a b t z:G.T}{al:List G.T}(hb:al.length<1000000000): ∀(l:List G.T) (k m:Nat) (acc:List G.T),al.drop k=l->l.length<m->acc.length=al.length->
    (∀x,x∈l->c 84 [yR 3 x,yR 3 a,yR 3 b]=aa [yR 3 (Dn a b x),yR 3 a,yR 3 b])->
    CR c L m (al.length:Int) al (k:Int) a b acc t z=aa [yR 3 (⟨t.kind,t.name,t.value,acc.take k++BF a b l⟩:G.T),yR 3 a,yR 3 b]:=by
 intro l;induction l with
 |nil=>
  intro k m acc h1 h3 h4 _;obtain⟨m,rfl⟩:=sK m 1 (by simp at h3;omega)
  have e1:=cI h1;have e3:aj ((k:Int)<(al.length:Int))=ah:=by simp;omega
  have e5:acc.take k=acc:=List.take_of_length_le (by omega)
  rw[CR,aBQ,e3,bL,BF,bA,e5]
 |cons x l ih=>
  intro k m acc h1 h3 h4 hc;obtain⟨m,rfl⟩:=sK m 1 (by simp at h3;omega)
  obtain⟨a1,a2,a3⟩:=cL h1;have e3:aj ((k:Int)<(al.length:Int))=ae:=by simp;omega
  have hx:=hc x (aH ..);have hk:k<acc.length:=by omega
  have hi:cR (k:Int) acc.length=ae:=by
   unfold cR;simp;omega
  have e6:(acc.set k (Dn a b x)).take (k+1)=acc.take k++ [Dn a b x]:=by
   rw[List.take_add_one,List.take_set_of_le (aS _)];simp[hk]
  rw[CR,aBQ,e3,bN,bV,a1,cH,hx,KQ]
  try dsimp only
  rw[hi,eZ,bV,aV hk,cH,eC (by omega),Int.toNat_natCast,
   ih (k+1) m (acc.set k (Dn a b x)) a3 (by simp at h3;omega) (by simpa using h4) λz hz=>hc z (aG _ hz),e6,BF,aQ]
  rfl
def a0y(a b:G.T): ∀t:G.T,∀(L n:Nat),fV t<L->3*fV t<=n->fV t<1000000000->bP L n 23 [yR 3 t,yR 3 a,yR 3 b]=aa [yR 3 (Dn a b t)]:=λt=>by
 induction t using kX with
 |h k nm v l ih=>
  intro L n hL hn hw;have h3:=bAk hw;have he: ∀m,3*fV ⟨k,nm,v,l⟩<=m+3->bP L m 21 [yR 3 (⟨k,nm,v,l⟩:G.T),yR 3 a]=aa [yB (aj (G.T.mk k nm v l=a))]:=λm hm=>OD ⟨k,nm,v,l⟩ hw a L m (by omega) (by simp only[fV]at hm⊢;omega)
  simp only[fV]at hw hL hn he;have hlen:=fW l;obtain⟨n,rfl⟩:=sK n 3 (by omega)
  rw[show n+3=n+2+1 from rfl,c23,bP4,aU3,he (n+2) (by omega),eH,Dn]
  try dsimp only
  cases aj (G.T.mk k nm v l=a)with
  |true=>rfl
  |false=>
   rw[bL,aJ];by_cases hk:k=3
   .rw[bF hk,aI];have e1:bP L (n+2) 56 [yR 3 (⟨k,nm,v,l⟩:G.T),yR 3 a,yR 3 b]=aa [yR 3 (⟨k,nm,v,BF a b l⟩:G.T),yR 3 a,yR 3 b]:=by
     have h8:l.length<=8:=by
      rcases h3 with⟨h,_⟩|⟨h,_⟩|⟨_,_,h,_⟩
      .omega
      .omega
      .exact h
     rw[show n+2=n+1+1 from rfl,bQY,bIG,aBR,tP.1,bF hk,bD,bL]
     simp only[tP];rw[bF (by omega:(0:Int)<=(l.length:Int)),bF (Int.le_refl _),bF (by omega:(l.length:Int)*176<=1073741824),bF (by omega:(l.length:Int)<=1073741824)]
     show CR (bP L (n+1)) L L (l.length:Int) l ((0:Nat):Int) a b (qZ _ (Int.toNat (l.length:Int))) ⟨k,nm,v,l⟩ _=_;exact(aNB (c:=bP L (n+1)) (t:=⟨k,nm,v,l⟩) (al:=l) (by omega) l 0 L _ rfl (by omega) (by rw[HM];omega) λx hx=>by
      rw[c84,bPN,aUC,ih x hx L n (by have:=cV hx;omega) (by have:=cV hx;omega) (by have:=cV hx;omega),gW]).trans (by rw[List.take_zero,aW];rfl)
    rw[e1,KQ]
   .rw[bG hk,aJ];have e1:bP L (n+2) 56 [yR 3 (⟨k,nm,v,l⟩:G.T),yR 3 a,yR 3 b]=aa [yR 3 (⟨k,nm,v,l⟩:G.T),yR 3 a,yR 3 b]:=by
     rw[show n+2=n+1+1 from rfl,bQY,bIG,aBR,tP.1,bG hk,b8,bN]
    rw[e1,KQ]
end Go.TV
namespace Go.TV
open Go.AI Go.PI Go.Proofs
def aK9{t:G.T}{s:List UInt8}{k:Int}{L n:Nat}:bP L (n+1) 52 (bJp t s k)=aa (bb (qQ t s k)):=by
 show bP L (n+1) 52 [yR 3 _,yT _,yI _]=_;rw[c52,bPZ,aLJ];simp only[aKF,aLI,qQ];cases t with|mk kk nm v l=>
 cases nm with|mk p q=>
 by_cases e1:kk=3
 .by_cases e2:p=eE
  .by_cases e3:q=s
   .simp[G.T.kind,G.T.name,G.T.args,G.Y.package,G.Y.name,eE,e1,e2,e3,bR,bb]
   .simp[G.T.kind,G.T.name,G.T.args,G.Y.package,G.Y.name,eE,e1,e2,e3,bR,bb]
  .have e2': ¬p=[108,105,115,112]:=e2;simp[G.T.kind,G.T.name,G.T.args,G.Y.package,G.Y.name,eE,e1,e2',bR,bb]
 .simp[G.T.kind,e1,bR,bb]
end Go.TV
namespace Go.TV
open Go.AI Go.PI Go.Proofs
def aCJ:List UInt8:=[110,111,116]
def a8W:List UInt8:=[101,113,117,97,108]
def P4(x:G.T):cX x.args+4<=fV x:=by cases x;simp only[G.T.args,fV];omega
def aAH{x:G.T}{s:List UInt8}{k:Nat}(h:qQ x s (k:Int)=ae):x.args.length=k:=by
 simp only[qQ,aC,aD]at h;omega
def bLg{l:List G.T}(h:l.length=1): ∃p,l=[p]:=by
 match l,h with
 |[p],_=>exact⟨p,rfl⟩
def bLf{l:List G.T}(h:l.length=2): ∃p q,l=[p,q]:=by
 match l,h with
 |[p,q],_=>exact⟨p,q,rfl⟩
end Go.TV
namespace Go.TV
open Go.AI Go.PI Go.Proofs
def bP9:G.T:=⟨0,⟨[],[]⟩,⟨0,[],[],⟨[],[]⟩,[],[]⟩,[]⟩
def JW(t:G.T):Option (G.T×G.T):=match t.args with
 |[x]=>if qQ t aCJ 1 then(match x.args with
  |[a,b]=>if qQ x a8W 2 then aa (a,b)else none
  |_=>none)else none
 |_=>none
def Qb(t:G.T):Rt:=match JW t with
 |some p=>aa [yR 3 p.1,yR 3 p.2,yB ae]
 |none=>aa [yR 3 bP9,yR 3 bP9,yB ah]
def SS{t:G.T}{p:G.T×G.T}(h:JW t=aa p):fV p.1+fV p.2<=fV t:=by
 unfold JW at h;split at h
 .rename_i x hx;split at h
  .split at h
   .rename_i a b hy;split at h
    .simp only[aA]at h;subst h;have h1:=P4 t;have h2:=P4 x;rw[hx]at h1;rw[hy]at h2;simp only[cX]at h1 h2;show fV a+fV b<=fV t;omega
    .cases h
   .cases h
  .cases h
 .cases h
def ZI{t:G.T}{L n:Nat}:bP L (n+2) 20 [yR 3 t]=Qb t:=by
 have h1:bP L (n+1) 52 [yR 3 t,yT aCJ,yI (1:Int)]=aa [yB (qQ t aCJ 1)]:=aK9;simp only[aCJ]at h1;rw[c20,bP6,aLU,h1,eH];change bR (!qQ t aCJ 1) _ _=_;cases e:qQ t aCJ 1 with
 |false=>
  have:JW t=none:=by unfold JW;split<;>simp[e]
  simp only[b8,bN,JA,Sr,Qb,this];rfl
 |true=>
  obtain⟨p,hp⟩:=bLg (aAH (k:=1) e);have hi:cU t.args (0:Int)=aa p:=by rw[hp];rfl
  have h2:bP L (n+1) 52 [yR 3 p,yT a8W,yI (2:Int)]=aa [yB (qQ p a8W 2)]:=aK9;simp only[a8W]at h2;rw[bD,bL,hi,cH,h2,eH];change JA _ _ (!qQ p a8W 2) _ _ _=_;cases e2:qQ p a8W 2 with
  |false=>
   have:JW t=none:=by unfold JW;rw[hp];simp[e,e2];split<;>rfl
   simp only[b8,bN,JA,Sr,Qb,this];rfl
  |true=>
   obtain⟨a,b,hq⟩:=bLf (aAH (k:=2) e2);have h3:cU p.args (0:Int)=aa a:=by rw[hq];rfl
   have h4:cU p.args (1:Int)=aa b:=by rw[hq];rfl
   have:JW t=aa (a,b):=by unfold JW;rw[hp];simp only[e];rw[hq];simp[e2]
   rw[JA,Sr,bD,bL,hi,cH,h3,cH,cH,h4,cH,Qb,this]
end Go.TV
namespace Go.TV
open Go.AI Go.PI Go.Proofs
set_option maxRecDepth 20000
def a8n{a:List G.T}(h:a.length<1000000){L n:Nat}:bP L (n+1) 60 [yS 3 a]=aa [yS 3 a]:=by
 rw[c60,bPT,aUO];cases a with
 |nil=>rfl
 |cons x l=>
  have e1:aj (((x::l).length:Int)=0)=ah:=by simp;omega
  have e2:an ((([]:List G.T).length+(x::l).length)*176) 1073741824=ae:=by
   rw[d7];simp only[aX,Nat.zero_add];omega
  rw[e1,bL,e2];rfl
end Go.TV
namespace Go.TV
open Go.AI Go.PI Go.Proofs
set_option maxRecDepth 20000
def a2W{W:Type}{a:Int}{b:G.T}{K:Int×G.T×Unit->Option W}:fN (D:=U0.D) [.int .i64,.rc 3] (aa [yI a,yR 3 b]) K=K (a,b,()):=rfl
def aRl{c:bT}{L:Nat}{t:G.T}{a:List G.T}(hb:a.length<1000000000): ∀(l:List G.T) (k m:Nat),a.drop k=l->l.length<m->
    (∀x,x∈l->c 148 [yR 3 x,yR 3 t]=aa [yB (aj (x=t)),yR 3 t])->
    ∃i:Int,tH c L m (a.length:Int) a (k:Int) t=aa [yI i,yR 3 t]/\aj (0<=i)=aj (t∈l):=by
 intro l;induction l with
 |nil=>
  intro k m h1 h3 _;obtain⟨m,rfl⟩:=sK m 1 (by simp at h3;omega)
  have e1:=cI h1;have e3:aj ((k:Int)<(a.length:Int))=ah:=by simp;omega
  refine⟨-1,?_,by simp⟩
  rw[tH,Gv,e3,bL]
 |cons x l ih=>
  intro k m h1 h3 hc;obtain⟨m,rfl⟩:=sK m 1 (by simp at h3;omega)
  obtain⟨a1,a2,a3⟩:=cL h1;have e3:aj ((k:Int)<(a.length:Int))=ae:=by simp;omega
  have fw:=hc x (aH ..);by_cases e:x=t
  .subst e;refine⟨k,?_,by simp⟩
   rw[tH,Gv,e3,bN,bV,a1,cH,fw,BQ];simp[bR]
  .have e': ¬t=x:=λh=>e h.symm
   obtain⟨i,h4,h5⟩:=ih (k+1) m a3 (by simp at h3;omega) λz hz=>hc z (aG _ hz)
   refine⟨i,?_,by simpa [e']using h5⟩
   rw[tH,Gv,e3,bN,bV,a1,cH,fw,BQ,eC (by omega)]
   simp only[e,decide_false,bL];exact h4
def bH2{x t:G.T}{L n:Nat}(h: ∀y:G.T,bP L n 21 [yR 3 x,yR 3 y]=aa [yB (aj (x=y))]):bP L (n+1) 148 [yR 3 x,yR 3 t]=aa [yB (aj (x=t)),yR 3 t]:=by
 rw[bO6,a7V,aMu,h t,eH]
def aR3{a:List G.T}{t:G.T}{L n:Nat}(hw:cX a<1000000000)(hL:a.length<L)(h: ∀x∈a,∀y:G.T,bP L n 21 [yR 3 x,yR 3 y]=aa [yB (aj (x=y))]):
    bP L (n+4) 61 [yS 3 a,yR 3 t]=aa [yB (aj (t∈a))]:=by
 have hlen:=fW a;obtain⟨i,h1,h2⟩:=aRl (c:=bP L (n+1)) (L:=L) (t:=t) (a:=a) (by omega) a 0 L rfl hL λx hx=>bH2 (h x hx)
 rw[c61,bPS,aUN,c91,bPG,aUx,bPi,a79,YM];rw[show tH (bP L (n+1)) L L (a.length:Int) a (0:Int) t=aa [yI i,yR 3 t] from h1,a2W,BQ,h2]
end Go.TV
namespace Go.TV
open Go.AI Go.PI Go.Proofs
set_option maxRecDepth 20000
noncomputable def Dj(a:List G.T)(t:G.T):List G.T:=bif aj (t∈a)then a else a++ [t]
def aSf{c:bT}{L:Nat}{a:List G.T}{t:G.T}(hL:3<=L)(ha:a.length<1000000)(h1:c 60 [yS 3 a]=aa [yS 3 a])
    (h2:c 61 [yS 3 a,yR 3 t]=aa [yB (aj (t∈a))]):bIJ c L a [t]=aa [yS 3 (Dj a t)]:=by
 obtain⟨L,rfl⟩:=sK L 2 (by omega)
 have e0:aj ((0:Int)<(([t]:List G.T).length:Int))=ae:=by simp
 have e1:aj ((1:Int)<(([t]:List G.T).length:Int))=ah:=by simp
 have e2:an ((a.length+([t]:List G.T).length)*176) 1073741824=ae:=by
  rw[d7];simp only[aM,aX];omega
 have e4:cU [t] (0:Int)=aa t:=rfl;have e5:IntKind.i64.wrap ((0:Int)+1)=1:=by decide
 rw[bIJ,aLN,h1,aAt];simp only[];rw[FQ,Sq,e0,bN,e4,cH,h2,eH];cases h:aj (t∈a)with
 |true=>
  simp only[bD,bL,aBC,aBV];rw[e5,FQ,Sq,e1,bL,Dj,h];rfl
 |false=>
  simp only[b8,bN];rw[e2,eZ,aBC,aBV,e5,FQ,Sq,e1,bL,Dj,h];rfl
end Go.TV
namespace Go.TV
open Go.AI Go.PI Go.Proofs
set_option maxRecDepth 20000
def aAY{k i:Nat}:aj ((k:Int)=(i:Int))=aj (k=i):=by
 by_cases h:k=i
 .subst h;simp
 .have: ¬(k:Int)=(i:Int):=by omega
  simp[h,this]
def aA9(a:List G.T)(t:G.T):cX (Dj a t)<=cX a+fV t+1:=by
 unfold Dj;cases aj (t∈a)with
 |true=>rw[aI];omega
 |false=>rw[aJ,tsz'_app];omega
def R4(a:List G.T)(t:G.T):(Dj a t).length<=a.length+1:=by
 unfold Dj;cases aj (t∈a)with
 |true=>rw[aI];omega
 |false=>rw[aJ];simp
def a8E{a:List G.T}{t:G.T}{L n:Nat}(hw:cX a<1000000000)(hl:a.length<1000000)(hL:cX a+10<L)(hn:cX a+10<=n):
    bP L n 25 [yS 3 a,yS 3 ([t]:List G.T)]=aa [yS 3 (Dj a t)]:=by
 have hlen:=fW a;obtain⟨n,rfl⟩:=sK n 5 (by omega)
 rw[show n+5=n+4+1 from rfl,c25]
 exact aSf (by omega) hl (a8n (n:=n+3) hl) (aR3 (n:=n) hw (by omega) λx hx y=>OD x (by have:=cV hx;simp only[SH];omega) y L n (by have:=cV hx;omega) (by have:=cV hx;omega))
noncomputable def aDE(i:Nat)(a b:G.T):List G.T->Nat->List G.T->Option (List G.T)
 |[],_,out=>aa out
 |x::l,k,out=>bif aj (k=i)then aDE i a b l (k+1) out else bif aWn (Dn a b x)then aDE i a b l (k+1) (Dj out (Dn a b x))else none
def aC3(x:Option (List G.T)):Rt:=match x with
 |some o=>aa [yS 3 o,yB ae]
 |none=>aa [yS 3 ([]:List G.T),yB ah]
def a6R{i:Nat}{a b:G.T}: ∀(l:List G.T) (k:Nat) (out o:List G.T),aDE i a b l k out=aa o->cX o<=cX out+cX l*(1+fV b):=by
 intro l;induction l with
 |nil=>intro k out o h;cases h;omega
 |cons x l ih=>
  intro k out o h;have hx:=aEF a b x;rw[cX,Nat.add_mul,Nat.add_mul,Nat.one_mul];rw[aDE]at h;cases e:aj (k=i)with
  |true=>rw[e,aI]at h;have:=ih _ _ _ h;omega
  |false=>
   rw[e,aJ]at h;cases e2:aWn (Dn a b x)with
   |true=>rw[e2,aI]at h;have:=ih _ _ _ h;have:=aA9 out (Dn a b x);omega
   |false=>rw[e2]at h;cases h
def aA0{L n:Nat}{a b:G.T}{cl:List G.T}{i:Nat}(hL:1000000000<=L)(hn:1000000000<=n)(fc:cl.length<20001): ∀(l:List G.T) (k m:Nat) (out:List G.T),cl.drop k=l->l.length<m->out.length<=k->cX out+cX l*(1+fV b)<900000000->cX l<300000000->
    R7 (bP L n) L m (cl.length:Int) cl (i:Int) (k:Int) out a b=aC3 (aDE i a b l k out):=by
 intro l;induction l with
 |nil=>
  intro k m out h1 h3 _ _ _;obtain⟨m,rfl⟩:=sK m 1 (by simp at h3;omega)
  have e1:=cI h1;have e3:aj ((k:Int)<(cl.length:Int))=ah:=by simp;omega
  rw[R7,aR8,e3,bL];rfl
 |cons x l ih=>
  intro k m out h1 h3 h4 h5 h6;obtain⟨m,rfl⟩:=sK m 1 (by simp at h3;omega)
  obtain⟨a1,a2,a3⟩:=cL h1;have e3:aj ((k:Int)<(cl.length:Int))=ae:=by simp;omega
  have hx:=aEF a b x;rw[cX,Nat.add_mul,Nat.add_mul,Nat.one_mul]at h5;simp only[cX]at h6;have q: ∀o:List G.T,o.length<=k+1->cX o+cX l*(1+fV b)<900000000->aRf (bP L n) L (R7 (bP L n) L m) (k:Int) (cl.length:Int) cl (i:Int) o a b=aC3 (aDE i a b l (k+1) o):=λo h8 h9=>by
   rw[aRf,a8p,eC (by omega)]
   exact ih (k+1) m o a3 (by simp at h3;omega) h8 h9 (by omega)
  rw[R7,aR8,e3,bN,bV,a1,cH,aAY,aDE];cases aj (k=i)with
  |true=>rw[bN,aI];exact q out (by omega) (by omega)
  |false=>
   rw[bL,aJ,a0y a b x L n (by omega) (by omega) (by omega),gW]
   try dsimp only
   rw[aWr (by omega) (by omega) (by omega) (by omega),eH]
   try dsimp only
   cases aWn (Dn a b x)with
   |false=>rfl
   |true=>
    rw[bD,bL,aI,a8E (by omega) (by omega) (by omega) (by omega),aAt]
    have g1:=aA9 out (Dn a b x);have g2:=R4 out (Dn a b x);exact q (Dj out (Dn a b x)) (by omega) (by omega)
noncomputable def PU(cl:List G.T)(i:Int)(r:Bool):Option (List G.T):=bif aj (i<0)then none else bif aj ((cl.length:Int)<=i)then none else match(cl[i.toNat]?).bind JW with
 |some p=>aDE i.toNat (bif r then p.2 else p.1) (bif r then p.1 else p.2) cl 0 []
 |none=>none
def Du{W:Type}{a b:G.T}{q:Bool}{K:G.T×G.T×Bool×Unit->Option W}:fN (D:=U0.D) [.rc 3,.rc 3,.bool] (aa [yR 3 a,yR 3 b,yB q]) K=K (a,b,q,()):=rfl
def aGF{a b:Nat}(ha:a<=20000)(hb:b<=20000):a*(1+b)<900000000:=by
 have h1:=Nat.mul_le_mul ha (show 1+b<=20001 by omega)
 omega
def a6S{cl:List G.T}{i:Int}{r:Bool}{o:List G.T}(hs:cX cl<=20000)(h:PU cl i r=aa o):cX o<900000000:=by
 unfold PU at h;cases e1:aj (i<0)with
 |true=>rw[e1]at h;cases h
 |false=>
  rw[e1,aJ]at h;cases e2:aj ((cl.length:Int)<=i)with
  |true=>rw[e2]at h;cases h
  |false=>
   rw[e2,aJ]at h;split at h
   .rename_i p hp;rw[Option.bind_eq_some_iff]at hp;obtain⟨x,hx,hp⟩:=hp;have h1:=SS hp;have h2:=cV (ef hx);have h3:=a6R _ _ _ _ h;have h4:fV (bif r then p.1 else p.2)<=20000:=by cases r<;>(try rw[aI])<;>(try rw[aJ])<;>omega
    have h5:=aGF hs h4;simp only[cX]at h3;omega
   .cases h
section
variable{cl:List G.T}{i:Int}{r:Bool}{L n:Nat}(hs:cX cl<=20000)(hL:1000000000<=L)(hn:1000000010<=n)
include hs hL hn
def bGr:bP L n 5 [yS 3 cl,yI i,yB r]=aC3 (PU cl i r):=by
 have hlen:=fW cl;obtain⟨n,rfl⟩:=sK n 1 (by omega)
 rw[c5,F5,a8r,PU];cases e1:aj (i<0)with
 |true=>rw[bN,aI];rfl
 |false=>
  rw[bL,aJ];cases e2:aj ((cl.length:Int)<=i)with
  |true=>rw[aI];rfl
  |false=>
   rw[aJ,a7J,a8q,bL];simp only[bC]at e1 e2;obtain⟨k,rfl⟩: ∃k:Nat,i=(k:Int):=⟨i.toNat,by omega⟩
   have hk:k<cl.length:=by omega
   rw[bV,Int.toNat_natCast,aV hk,cH,aL];have hm:=cV (List.getElem_mem hk);generalize cl[k]=x at hm;have hq:bP L n 20 [yR 3 x]=Qb x:=by
    have:=ZI (t:=x) (L:=L) (n:=n-2)
    rwa [show n-2+2=n by omega]at this
   rw[hq,Qb];cases e:JW x with
   |none=>rw[Du];rfl
   |some p=>
    obtain⟨u,v⟩:=p;have h1:=SS e;have h4: ∀z:G.T,fV z<=20000->cX ([]:List G.T)+cX cl*(1+fV z)<900000000:=λz hz=>by have:=aGF hs hz;simp only[cX];omega
    simp only[]at h1;rw[Du]
    try dsimp only
    rw[bD,bL];cases r with
    |true=>
     rw[bN,aI,aI,aRg,aR9];exact aA0 hL (by omega) (by omega) cl 0 L [] rfl (by omega) (aS _) (h4 u (by omega)) (by omega)
    |false=>
     rw[bL,aJ,aJ,aRg,aR9];exact aA0 hL (by omega) (by omega) cl 0 L [] rfl (by omega) (aS _) (h4 v (by omega)) (by omega)
end
end Go.TV
namespace Go.TV
open Go.AI Go.PI Go.Proofs
set_option maxRecDepth 20000
section
variable{w:List G.E}{env:lQ}{a b:G.T}{va:G.O}(ha:uI w a env va)(hb:uI w b env va)
include ha hb
def aEE: ∀(t:G.T) (x y:G.O),uI w t env x->uI w (Dn a b t) env y->x=y:=kX λk n v l ih x y hx hy=>by
 rw[Dn]at hy;by_cases e:G.T.mk k n v l=a
 .rw[bF e,aI]at hy;rw[e]at hx;rw[vD hx ha,vD hy hb]
 .rw[bG e,aJ]at hy;by_cases e2:k=3
  .rw[bF e2,aI]at hy;refine aEn (t:=⟨k,n,v,l⟩) (u:=⟨k,n,v,BF a b l⟩) e2 e2 rfl (rpT'_len a b l).symm ?_ hx hy;have go: ∀q:List G.T,(∀t∈q,t∈l)->aRa w env q (BF a b q):=by
    intro q;induction q with
    |nil=>exact λ_=>trivial
    |cons t q ihq=>
     intro hq;exact⟨ih t (hq t (aH ..)),ihq λu hu=>hq u (aG _ hu)⟩
   exact go l λ_ h=>h
  .rw[bG e2,aJ]at hy;exact vD hx hy
end
def aGJ{a:List G.T}{t u:G.T}(h:u∈Dj a t):u∈a∨u=t:=by
 unfold Dj at h;cases e:aj (t∈a)with
 |true=>rw[e]at h;exact .inl h
 |false=>
  rw[e,aJ]at h;rcases List.mem_append.1 h with h|h
  .exact .inl h
  .exact .inr (List.mem_singleton.1 h)
def MQ{i:Nat}{a b:G.T}: ∀(l:List G.T) (k:Nat) (out o:List G.T),aDE i a b l k out=aa o->∀u∈o,u∈out∨∃x∈l,u=Dn a b x
 |[],k,out,o,h,u,hu=>by cases h;exact .inl hu
 |x::l,k,out,o,h,u,hu=>by
  rw[aDE]at h;cases e:aj (k=i)with
  |true=>
   rw[e,aI]at h;rcases MQ l (k+1) out o h u hu with h|⟨y,hy,e⟩
   .exact .inl h
   .exact .inr ⟨y,aG _ hy,e⟩
  |false=>
   rw[e,aJ]at h;cases e2:aWn (Dn a b x)with
   |false=>rw[e2]at h;cases h
   |true=>
    rw[e2,aI]at h;rcases MQ l (k+1) _ o h u hu with h|⟨y,hy,e⟩
    .rcases aGJ h with h|h
     .exact .inl h
     .exact .inr ⟨x,aH ..,h⟩
    .exact .inr ⟨y,aG _ hy,e⟩
def Dy{i:Nat}{a b:G.T}: ∀(l:List G.T) (k:Nat) (out o:List G.T),aDE i a b l k out=aa o->o.length<=out.length+l.length/\(k<=i->i<k+l.length->o.length<out.length+l.length)
 |[],k,out,o,h=>by cases h;exact⟨aS _,λh1 h2=>by simp at h2;omega⟩
 |x::l,k,out,o,h=>by
  rw[aDE]at h;simp only[aM];cases e:aj (k=i)with
  |true=>
   rw[e,aI]at h;have:=Dy l (k+1) out o h;exact⟨by omega,λ_ _=>by omega⟩
  |false=>
   rw[e,aJ]at h;have e':=of_decide_eq_false e;cases e2:aWn (Dn a b x)with
   |false=>rw[e2]at h;cases h
   |true=>
    rw[e2,aI]at h;have:=Dy l (k+1) _ o h;have g:=R4 out (Dn a b x);exact⟨by omega,λh1 h2=>by have:=this.2 (by omega) (by omega);omega⟩
def aEj{t:G.T}{p:G.T×G.T}(h:JW t=aa p): ∃e,qQ t QW 1=ae/\t.args=[e]/\qQ e Dg 2=ae/\e.args=[p.1,p.2]:=by
 unfold JW at h;split at h
 .rename_i x hx;split at h
  .rename_i h1;split at h
   .rename_i a b pm;split at h
    .rename_i h2;cases h;exact⟨x,h1,hx,h2,pm⟩
    .cases h
   .cases h
  .cases h
 .cases h
def aQF{cl o:List G.T}{i:Int}{r:Bool}(h:PU cl i r=aa o):o.length<cl.length:=by
 unfold PU at h;cases e1:aj (i<0)with
 |true=>rw[e1]at h;cases h
 |false=>
  rw[e1,aJ]at h;cases e2:aj ((cl.length:Int)<=i)with
  |true=>rw[e2]at h;cases h
  |false=>
   rw[e2,aJ]at h;have e1:=of_decide_eq_false e1;have e2:=of_decide_eq_false e2;cases e3:(cl[i.toNat]?).bind JW with
   |none=>rw[e3]at h;cases h
   |some p=>
    rw[e3]at h
    dsimp only at h
    have ln:=Dy cl 0 [] o h;have:=ln.2 (by omega) (by omega)
    simpa using this
def aNU{w:List G.E}(hw:aNr w){env:lQ}(he: ∀b∈env,vO b.value)(hl:env.length<=1000){t:G.T}(ht:tO t=ae)(ho:aCI w t env=ae){p:G.T×G.T}(hp:JW t=aa p){x:G.O}(hx:uI w p.1 env x∨uI w p.2 env x):vO x:=by
 obtain⟨e,s1,s2,s3,s4⟩:=aEj hp;have te:tO e=ae:=SP ht (by rw[s2];simp)
 have k1:=Q7 s1;have k2:=Q7 s3;have b1:=QP (by omega) (by omega) (K3 s1 (by decide)) (bDb ho)
 rw[s2]at b1;obtain⟨y,hy⟩:=b1.1;have b2:=QP (by omega) (by omega) (K3 s3 (by decide)) hy
 rw[s4]at b2;have key: ∀{u:G.T} {z x:G.O},tO u=ae->OkB w u env z->uI w u env x->vO x:=λ{u z x} hu hz hx=>by
  rw[vD hx hz.v];obtain⟨k,l,q0,q1,q2,q3,q4⟩:=hz;exact a2H hw hu he hl ⟨k,q0,l,q1,q2,q3⟩
 rcases hx with hx|hx
 .obtain⟨z,hz⟩:=b2.1;exact key (SP te (by rw[s4];simp)) hz hx
 .obtain⟨z,hz⟩:=b2.2.1;exact key (SP te (by rw[s4];simp)) hz hx
def aHM{w:List G.E}(hw:aNr w)(hn:bPB w){env:lQ}{cl o:List G.T}{i:Int}{r:Bool}(h:PU cl i r=aa o)(he: ∀b∈env,vO b.value)(hl:env.length<=1000)(tc: ∀t∈cl,tO t=ae)
    (hk: ∀t∈cl,aCI w t env=ae) (gk: ∀t∈o,aCI w t env=ae):o.length<cl.length/\((∃t∈o,tr (JO w t env).1=ae)->∃t∈cl,tr (JO w t env).1=ae):=by
 unfold PU at h;cases e1:aj (i<0)with
 |true=>rw[e1]at h;cases h
 |false=>
  rw[e1,aJ]at h;cases e2:aj ((cl.length:Int)<=i)with
  |true=>rw[e2]at h;cases h
  |false=>
   rw[e2,aJ]at h;have e1:=of_decide_eq_false e1;have e2:=of_decide_eq_false e2;cases e3:(cl[i.toNat]?).bind JW with
   |none=>rw[e3]at h;cases h
   |some p=>
    rw[e3]at h
    dsimp only at h
    have ln:=Dy cl 0 [] o h;refine⟨by have:=ln.2 (by omega) (by omega);simpa using this,?_⟩
    rintro⟨u,hu,ht⟩;obtain⟨t,ht1,ht2⟩:=Option.bind_eq_some_iff.1 e3;have tm:=ef ht1;cases pz:tr (JO w t env).1 with
    |true=>exact⟨t,tm,pz⟩
    |false=>
     obtain⟨e,s1,s2,s3,s4⟩:=aEj ht2;obtain⟨x,x1,x2⟩:=aOx hn s1 s2 (aGe (hk t tm));have nx:Gw x=ah:=by
      unfold tr at pz;rw[x2]at pz;cases hx:Gw x<;>rw[hx]at pz<;>simp at pz⊢
     obtain⟨y,z,y1,z1,yz⟩:=aOy s3 s4 (λq hq=>aNU hw he hl (tc t tm) (hk t tm) ht2 hq) x1
     have hyz:y=z:=by
      by_cases hyz:y=z
      .exact hyz
      .rw[yz,bG hyz]at nx;cases nx
     subst hyz;rcases MQ cl 0 [] o h u hu with jz|⟨s,sm,rfl⟩
     .cases jz
     .refine⟨s,sm,?_⟩;have q1:=aGe (hk s sm);have q2:=aGe (gk _ hu);have:(JO w s env).1=(JO w (Dn (bif r then p.2 else p.1) (bif r then p.1 else p.2) s) env).1:=by
       cases r with
       |true=>exact aEE z1 y1 s _ _ q1 q2
       |false=>exact aEE y1 z1 s _ _ q1 q2
      rw[this];exact ht
end Go.TV
namespace Go.TV
open Go.AI Go.PI Go.Proofs
mutual
noncomputable def aGk(s:G.T):G.T->Bool
 |⟨k,n,v,l⟩=>decide (s=⟨k,n,v,l⟩)||(aj (k=3)&&aGj s l)
noncomputable def aGj(s:G.T):List G.T->Bool
 |[]=>ah
 |x::l=>aGk s x||aGj s l
end
end Go.TV
namespace Go.TV
open Go.AI Go.PI Go.Proofs
def bt(b:Bool)(t:G.T):mK:=[yB b,yR 3 t]
def aKy{c:bT}{L:Nat}{s:G.T}{a:List G.T}(hb:a.length<1000000000): ∀(l:List G.T) (k m:Nat),a.drop k=l->l.length<m->
    (∀x,x∈l->c 83 (aNk x s)=aa (bt (!aGk s x) s))->FK c L m (a.length:Int) a (k:Int) s=aa (bt (!aGj s l) s):=by
 intro l;induction l with
 |nil=>
  intro k m h1 h3 _;obtain⟨m,rfl⟩:=sK m 1 (by simp at h3;omega)
  have e1:=cI h1;have e3:aj ((k:Int)<(a.length:Int))=ah:=by simp;omega
  rw[FK,aBM,e3,bL,aGj];rfl
 |cons x l ih=>
  intro k m h1 h3 hc;obtain⟨m,rfl⟩:=sK m 1 (by simp at h3;omega)
  obtain⟨a1,a2,a3⟩:=cL h1;have e3:aj ((k:Int)<(a.length:Int))=ae:=by simp;omega
  have fw:c 83 [yR 3 x,yR 3 s]=aa [yB (!aGk s x),yR 3 s]:=hc x (aH ..);rw[FK,aBM,e3,bN,bV,a1,cH,fw,BQ,eC (by omega),aGj]
  cases aGk s x with
  |true=>simp[bR,bt]
  |false=>
   simp only[bL,b8,bD];rw[ih (k+1) m a3 (by simp at h3;omega) λz hz=>hc z (aG _ hz)]
   simp
def a7I(s:G.T): ∀(t:G.T),SH t->∀(L n:Nat),fV t<=L->fV t+2<=n->bP L n 83 (aNk t s)=aa (bt (!aGk s t) s):=by
 intro t;induction t using kX with
 |h k nm v l ih=>
  intro hw L n hL hn;have ph:=hw;have hL':=hL;have hn':=hn;simp only[SH,fV]at hw hL hn;have hlen:=fW l;obtain⟨n,rfl⟩:=sK n 2 (by omega)
  have h1:bP L (n+1) 108 [yR 3 ⟨k,nm,v,l⟩,yR 3 s]=aa [yB (!decide ((⟨k,nm,v,l⟩:G.T)=s)),yR 3 s]:=by
   by_cases hnn:fV (⟨k,nm,v,l⟩:G.T)<=n
   .have h2:bP L n 21 [yR 3 ⟨k,nm,v,l⟩,yR 3 s]=aa [yB (aj ((⟨k,nm,v,l⟩:G.T)=s))]:=OD _ ph s L n hL' hnn;rw[bPn,a8f,aNb,h2,eH]
   .omega
  show bP L (n+1+1) 83 [yR 3 _,yR 3 _]=_;rw[c83,bPO,aLw,h1,BQ,aGk];by_cases e:s=⟨k,nm,v,l⟩
  .subst e;simp[bR,bt]
  .have e': ¬(⟨k,nm,v,l⟩:G.T)=s:=λh=>e h.symm
   by_cases e2:k=3
   .subst e2;simp only[e,e',decide_false,decide_true,b8,bD,bL,bN,G.T.kind,G.T.args,Bool.true_and,Bool.false_or];exact aKy (by omega) l 0 L rfl (by omega) λx hx=>ih x hx (by have:=cV hx;simp only[SH];omega) L (n+1) (by have:=cV hx;omega) (by have:=cV hx;omega)
   .simp[e,e',e2,bR,bt,aBy,aLv,G.T.kind]
def aRc(s t:G.T)(hw:SH t)(L n:Nat)(hL:fV t<=L)(hn:fV t+3<=n):bP L n 55 (aNk s t)=aa (bb (aGk s t)):=by
 obtain⟨n,rfl⟩:=sK n 1 (by omega)
 show bP L (n+1) 55 [yR 3 _,yR 3 _]=_;have:bP L n 83 [yR 3 t,yR 3 s]=aa [yB (!aGk s t),yR 3 s]:=a7I s t hw L n hL (by omega)
 rw[c55,bPX,aUT,this,BQ];simp[bb]
end Go.TV
namespace Go.TV
open Go.AI Go.PI Go.Proofs
noncomputable def aTr(t:G.T)(i:Nat):List G.T->Nat->Bool
 |[],_=>ah
 |x::l,k=>(!decide (k=i)&&aGk t x)||aTr t i l (k+1)
def aPx{L n:Nat}{t:G.T}{a:List G.T}{i:Nat}(hb:a.length<1000000000): ∀(l:List G.T) (k m:Nat),a.drop k=l->l.length<m->
    (∀x,x∈l->SH x/\fV x<=L/\fV x+3<=n)->CT (bP L n) L m (a.length:Int) a (i:Int) (k:Int) t=aa (bb (aTr t i l k)):=by
 intro l;induction l with
 |nil=>
  intro k m h1 h3 _;obtain⟨m,rfl⟩: ∃m',m=m'+1:=⟨m-1,by simp at h3;omega⟩
  have e1:=cI h1;have e3:aj ((k:Int)<(a.length:Int))=ah:=by simp;omega
  rw[CT,aBX,e3,bL,aTr];rfl
 |cons x l ih=>
  intro k m h1 h3 hc;obtain⟨m,rfl⟩: ∃m',m=m'+1:=⟨m-1,by simp at h3;omega⟩
  obtain⟨a1,a2,a3⟩:=cL h1;obtain⟨x1,x2,x3⟩:=hc x (aH ..);have e3:aj ((k:Int)<(a.length:Int))=ae:=by simp;omega
  have fw:bP L n 55 [⟨.rc 3,t⟩,⟨.rc 3,x⟩]=aa [⟨.bool,aGk t x⟩]:=aRc t x x1 L n x2 x3;have q:=ih (k+1) m a3 (by simp at h3;omega) λz hz=>hc z (aG _ hz)
  have q2:Sj (bP L n) L (CT (bP L n) L m) ah (k:Int) (a.length:Int) a (i:Int) t=aa (bb (aTr t i l (k+1))):=by
   rw[Sj,aBW,bL,eC (by omega)];exact q
  rw[CT,aBX,e3,bN,bV,a1,cH,aAY,aTr];cases aj (k=i)with
  |true=>rw[bD,bL,q2,Bool.false_and,Bool.false_or]
  |false=>
   rw[b8,bN,fw,eH,Bool.true_and];simp only[];cases aGk t x with
   |true=>rw[Sj,aBW,bN,Bool.true_or];rfl
   |false=>rw[q2,Bool.false_or]
def bGm{a:List G.T}{t:G.T}{i L n:Nat}(hw:cX a<1000000000)(hL:cX a<L)(hn:cX a+4<=n):bP L n 22 [⟨.sl (.rc 3),a⟩,⟨.int .i64,(i:Int)⟩,⟨.rc 3,t⟩]=aa [⟨.bool,aTr t i a 0⟩]:=by
 have hlen:=fW a;obtain⟨n,rfl⟩: ∃n',n=n'+1:=⟨n-1,by omega⟩
 rw[c22];exact aPx (by omega) a 0 L rfl (by omega) λx hx=>⟨by have:=cV hx;simp only[SH];omega,by have:=cV hx;omega,by have:=cV hx;omega⟩
def fR(k:Nat)(a b:Bool):Rt:=aa [⟨.int .i64,(k:Int)⟩,⟨.bool,a⟩,⟨.bool,b⟩]
noncomputable def uE(cl:List G.T)(k:Nat)(t:G.T):Bool:=aj (t.kind=3)&&aTr t k cl 0
noncomputable def aDC(cl:List G.T):List G.T->Nat->Rt
 |[],_=>fR 0 ah ah
 |x::l,k=>match JW x with
  |none=>aDC cl l (k+1)
  |some p=>bif aj (p.1=p.2)then aDC cl l (k+1)else bif uE cl k p.1 then fR k ah ae else bif uE cl k p.2 then fR k ae ae else aDC cl l (k+1)
def aTp(cl:List G.T): ∀(l:List G.T) (k:Nat),∃i a b,aDC cl l k=fR i a b
 |[],k=>⟨0,ah,ah,rfl⟩
 |x::l,k=>by
  rw[aDC];have ih:=aTp cl l (k+1);cases JW x with
  |none=>exact ih
  |some p=>
   simp only[];cases aj (p.1=p.2)with
   |true=>exact ih
   |false=>
    cases uE cl k p.1 with
    |true=>exact⟨_,_,_,rfl⟩
    |false=>
     cases uE cl k p.2 with
     |true=>exact⟨_,_,_,rfl⟩
     |false=>exact ih
def aPk{L n:Nat}{a:List G.T}(hw:cX a<1000000000)(hL:cX a<L)(hn:cX a+8<=n): ∀(l:List G.T) (k m:Nat),a.drop k=l->l.length<m->
    G7 (bP L n) L m (a.length:Int) a a (k:Int)=aDC a l k:=by
 have hlen:=fW a;intro l;induction l with
 |nil=>
  intro k m h1 h3;obtain⟨m,rfl⟩: ∃m',m=m'+1:=⟨m-1,by simp at h3;omega⟩
  have e1:=cI h1;have e3:aj ((k:Int)<(a.length:Int))=ah:=by simp;omega
  rw[G7,aSb,e3,bL,aDC];rfl
 |cons x l ih=>
  intro k m h1 h3;obtain⟨m,rfl⟩: ∃m',m=m'+1:=⟨m-1,by simp at h3;omega⟩
  obtain⟨a1,a2,a3⟩:=cL h1;have hx:x∈a:=ef a1;have hxs:=cV hx;have e3:aj ((k:Int)<(a.length:Int))=ae:=by simp;omega
  have q:aKG (bP L n) L (G7 (bP L n) L m) (k:Int) (a.length:Int) a a=aDC a l (k+1):=by
   rw[aKG,a8u,eC (by omega)]
   exact ih (k+1) m a3 (by simp at h3;omega)
  have hs:bP L n 20 [⟨.rc 3,x⟩]=Qb x:=by
   have:=ZI (t:=x) (L:=L) (n:=n-2)
   rwa [show n-2+2=n by omega]at this
  rw[G7,aSb,e3,bN,bV,a1,cH,hs,aDC,Qb];cases e:JW x with
  |none=>
   simp only[];rw[Du];simp only[b8,bN];rw[aRj,aSa,bN,q]
  |some p=>
   obtain⟨u,v⟩:=p;have hp:=SS e;simp only[]at hp;have hq:bP L n 21 [⟨.rc 3,u⟩,⟨.rc 3,v⟩]=aa [⟨.bool,aj (u=v)⟩]:=OD u (by simp only[SH];omega) v L n (by omega) (by omega)
   have g: ∀t:G.T,bP L n 22 [⟨.sl (.rc 3),a⟩,⟨.int .i64,(k:Int)⟩,⟨.rc 3,t⟩]=aa [⟨.bool,aTr t k a 0⟩]:=λt=>bGm hw hL (by omega)
   simp only[];rw[Du];simp only[bD,bL];rw[hq,eH];simp only[];rw[aRj,aSa];cases aj (u=v)with
   |true=>rw[bN,q];rfl
   |false=>
    have g5: ∀b:Bool,aRh (bP L n) L (G7 (bP L n) L m) b (k:Int) (k:Int) (a.length:Int) a a=bif b then fR k ae ae else aDC a l (k+1):=λb=>by
     rw[aRh,a8s];cases b with
     |true=>rfl
     |false=>rw[bL,q];rfl
    have g4: ∀b:Bool,aRi (bP L n) L (G7 (bP L n) L m) b (k:Int) (k:Int) (a.length:Int) a a v=bif b then fR k ah ae else bif uE a k v then fR k ae ae else aDC a l (k+1):=λb=>by
     rw[aRi,a8t];cases b with
     |true=>rfl
     |false=>
      rw[bL,aJ,uE];cases aj (v.kind=(3:Int))with
      |true=>rw[bN,g,eH,Bool.true_and];exact g5 _
      |false=>rw[bL,Bool.false_and];exact g5 _
    rw[bL,aJ,uE];cases aj (u.kind=(3:Int))with
    |true=>rw[bN,g,eH,Bool.true_and];exact g4 _
    |false=>rw[bL,Bool.false_and];exact g4 _
def bF6{a:List G.T}{L n:Nat}(hw:cX a<1000000000)(hL:cX a<L)(hn:cX a+9<=n):bP L n 4 [⟨.sl (.rc 3),a⟩]=aDC a a 0:=by
 have hlen:=fW a;obtain⟨n,rfl⟩: ∃n',n=n'+1:=⟨n-1,by omega⟩
 rw[c4];exact aPk hw hL (by omega) a 0 L rfl (by omega)
end Go.TV
namespace Go.TV
open Go.AI Go.PI Go.Proofs
set_option maxRecDepth 20000
section
variable(L:Nat){E:List G.E}(hE:a83 E)
def vN{n:Nat}(h:60<=n):Lib (bP (L+7000) n):=by
 obtain⟨m,rfl⟩: ∃m,n=m+60:=⟨n-60,by omega⟩
 exact a3m L m
def aDU{n:Nat}(h:61<=n)(s:G.Z)(hs:dB s):TSR (bP (L+7000) n 18 [yR 0 s]) 6:=by
 obtain⟨m,rfl⟩: ∃m,n=m+1:=⟨n-1,by omega⟩
 rw[c18];exact bHr (vN L (by omega)) hs
def bK7{n:Nat}(h:61<=n)(s:G.Z)(hs:dB s):OSR (bP (L+7000) n 26 [yI (0:Int),yR 0 s]) 20:=by
 obtain⟨m,rfl⟩: ∃m,n=m+1:=⟨n-1,by omega⟩
 rw[bOW];exact Ob0 (vN L (by omega)) hs
def aOT{n:Nat}(h:62<=n)(s:G.Z)(hs:dB s):OSR (bP (L+7000) n 26 [yI (1:Int),yR 0 s]) 200:=by
 obtain⟨m,rfl⟩: ∃m,n=m+1:=⟨n-1,by omega⟩
 rw[bOW];exact Ob1 (vN L (by omega)) (by omega) (bK7 L (by omega)) hs
include hE
def a7i{n:Nat}(h:4<=n)(f:G.Y):bId (bP (L+7000) n 49 [yS 15 E,yR 1 f]):=by
 obtain⟨m,rfl⟩: ∃m,n=m+4:=⟨n-4,by omega⟩
 exact bIc hE f (by omega)
def bJt{n:Nat}(h:63<=n)(s:G.Z)(hs:dB s):TSR (bP (L+7000) n 15 [yS 15 E,yI (0:Int),yR 0 s]) 204:=by
 obtain⟨m,rfl⟩: ∃m,n=m+1:=⟨n-1,by omega⟩
 rw[bO5];exact aKs (vN L (by omega)) (by omega) (B:=204) (by omega) (by omega) (aDU L (by omega)) (aOT L (by omega)) (a7i L hE (by omega)) (λh=>by omega) hs
def aXf{n:Nat}(h:64<=n)(s:G.Z)(hs:dB s):TSR (bP (L+7000) n 15 [yS 15 E,yI (1:Int),yR 0 s]) 621:=by
 obtain⟨m,rfl⟩: ∃m,n=m+1:=⟨n-1,by omega⟩
 rw[bO5];exact aKs (vN L (by omega)) (by omega) (B:=204) (by omega) (by omega) (aDU L (by omega)) (aOT L (by omega)) (a7i L hE (by omega)) (λ_=>bJt L hE (by omega)) hs
def bAo{n:Nat}(h:65<=n)(s:G.Z)(hs:dB s):TSR (bP (L+7000) n 15 [yS 15 E,yI (2:Int),yR 0 s]) 1872:=by
 obtain⟨m,rfl⟩: ∃m,n=m+1:=⟨n-1,by omega⟩
 rw[bO5];exact aKs (vN L (by omega)) (by omega) (B:=621) (by omega) (by omega) (aDU L (by omega)) (aOT L (by omega)) (a7i L hE (by omega)) (λ_=>aXf L hE (by omega)) hs
def bLc{n:Nat}(h:66<=n)(s:G.Z)(hs:dB s):TSR (bP (L+7000) n 50 [yS 15 E,yI (2:Int),yR 0 s]) 2523:=by
 obtain⟨m,rfl⟩: ∃m,n=m+1:=⟨n-1,by omega⟩
 rw[c50];exact bHR (vN L (by omega)) (aDU L (by omega)) (bAo L hE (by omega)) (aXf L hE (by omega)) hs
end
def aXo{E:List G.E}(h:a8K E=ae):a83 E:=by
 simp only[a8K,aDz,aC,bJ]at h;exact⟨bK h.1.2,λe he=>bK (h.2 e he).1,λe he f hf=>bK (((h.2 e he).2 f hf).1)⟩
end Go.TV
namespace Go.TV
open Go.AI Go.PI Go.Proofs
set_option maxRecDepth 20000
def aOD{s:G.Y}(h:lU s=ae):s.package.length<=900/\s.name.length<=900:=by
 unfold lU at h;simp only[aC,b9,aD,d7]at h;refine⟨?_,by omega⟩
 rcases h.1.1 with e|e<;>rw[e]<;>decide
def bC9{n d:fY}(h:aS2 n d=ae):n.length<=900/\d.length<=900:=by
 unfold aS2 at h;rw[List.any_eq_true]at h;obtain⟨p,hp,h⟩:=h;simp only[aC,aD]at h;have all:numL.all (λp=>an p.1.length 900&&an p.2.length 900)=ae:=by decide
 have:=bJ.1 all p hp;simp only[aC,d7]at this;rw[h.1,h.2];exact this
def aSo: ∀o:G.O,kE o<1000000000->vO o:=mP λk n d s t l ih h=>by
 have h2:=Tv h;simp only[kE]at h;simp only[G.O.kind,G.O.num,G.O.den,G.O.sym,G.O.text,G.O.pair,aNn,b9,aC,List.isEmpty_iff]at h2;have mem: ∀{l:List G.O},gV l<1000000000->∀o∈l,kE o<1000000000:=by
  intro l;induction l with
  |nil=>intro _ o ho;cases ho
  |cons x l ih=>
   intro hl o ho;simp only[gV]at hl;rcases List.mem_cons.1 ho with rfl|ho
   .omega
   .exact ih (by omega) o ho
 show bO 900 _=ae;rw[lJ];rcases h2 with(((⟨⟨⟨⟨⟨a1,a2⟩,a3⟩,a4⟩,a5⟩,a6⟩|⟨⟨⟨⟨a1,a2⟩,a3⟩,a4⟩,a5⟩)|⟨⟨⟨⟨⟨a1,a2⟩,a3⟩,a4⟩,a5⟩,a6⟩)|⟨⟨⟨⟨⟨a1,a2⟩,a3⟩,a4⟩,a5⟩,a6⟩)|⟨⟨⟨⟨⟨a1,a2⟩,a3⟩,a4⟩,a5⟩,a6⟩
 .have b1:=of_decide_eq_true a1;have b4:=of_decide_eq_true a4;subst b1 a2 a3 b4 a5 a6;exact⟨a8 _,a8 _,a8 _,a8 _,a8 _,a8 _,rfl⟩
 .have:=bC9 a2;have b1:=of_decide_eq_true a1;have b3:=of_decide_eq_true a3;subst b1 b3 a4 a5;exact⟨this.1,this.2,a8 _,a8 _,a8 _,a8 _,rfl⟩
 .have:=aOD a2;have b1:=of_decide_eq_true a1;subst b1 a3 a4 a5 a6;exact⟨a8 _,a8 _,this.1,this.2,a8 _,a8 _,rfl⟩
 .have:t.length<=10:=by simpa [aSZ,d7]using a2
  have b1:=of_decide_eq_true a1;have b5:=of_decide_eq_true a5;subst b1 a3 a4 b5 a6;exact⟨a8 _,a8 _,a8 _,a8 _,show t.length<=_ by omega,a8 _,rfl⟩
 .have b1:=of_decide_eq_true a1;have b4:=of_decide_eq_true a4;have b6:=of_decide_eq_true a6;subst b1 a2 a3 b4 a5;have hp:UP 900 l=ae:=bO'_of λo ho=>ih o ho (mem (by omega) o ho)
  exact⟨a8 _,a8 _,a8 _,a8 _,a8 _,show l.length<=2 by omega,by show(UP 900 l&&ae)=ae;rw[hp];rfl⟩
def aSv: ∀t:G.T,fV t<1000000000->tO t=ae:=kX λk n v l ih h=>by
 have h2:=aAq h;have hl:=fW l;simp only[fV]at h;have len:l.length<=1000:=by
  simp only[G.T.kind,G.T.name,G.T.value,G.T.args,GQ,b9,aC,List.isEmpty_iff,d7]at h2;rcases h2 with(h2|h2)|h2
  .rw[h2.2];exact a8 _
  .rw[h2.1.2];exact a8 _
  .omega
 rw[JR];refine⟨aSo v (by omega),len,?_⟩
 have go: ∀(q:List G.T),(∀t∈q,t∈l)->aNM q=ae:=by
  intro q;induction q with
  |nil=>exact λ_=>rfl
  |cons x q ihq=>
   intro hq;have hx:=hq x (aH ..);have:=cV hx;simp only[aNM,aC];exact⟨ih x hx (by omega),ihq λt ht=>hq t (aG _ ht)⟩
 exact go l λ_ h=>h
section
variable{c:bT}(h:Lib c)
include h
def aKx{L:Nat}(h0: ∀s,dB s->OSR (c 26 [⟨.int .i64,(1:Int)⟩,⟨.rc 0,s⟩]) 200){b:G.O}{r:Nat}(hr:r<=3):
    ∀(j k m:Nat) (a6:List G.O) (s:G.Z),r=k+j->a6.length=k->gV a6<=201*k->j<m->dB s->OSR (zL c L m (r:Int) 2 (k:Int) a6 s b) 2000:=by
 intro j;induction j with
 |zero=>
  intro k m a6 s h1 h2 h3 h4 hs;obtain⟨m,rfl⟩: ∃m',m=m'+1:=⟨m-1,by omega⟩
  have e3:aj ((k:Int)<(r:Int))=ah:=by simp;omega
  rw[zL,JF,e3,bL]
  match a6,h2 with
  |[],_=>rw[h.l0,vH];exact .mk (by simp[Su,kE,gV,wA,qI]) hs
  |[a],h2=>rw[h.l1,vH];exact .mk (by simp[gV]at h3;simp[Su,Gz,kE,gV,wA,wB,qI,wC];simp only[aM,aX]at h2;omega) hs
  |[a,d],h2=>rw[h.l2,vH];exact .mk (by simp[gV]at h3;simp[Su,Gz,kE,gV,wA,wB,qI,wC];simp only[aM,aX]at h2;omega) hs
  |[a,d,e],h2=>rw[h.l3,vH];exact .mk (by simp[gV]at h3;simp[Su,Gz,kE,gV,wA,wB,qI,wC];simp only[aM,aX]at h2;omega) hs
  |_::_::_::_::l,h2=>simp at h2;omega
 |succ j ih=>
  intro k m a6 s h1 h2 h3 h4 hs;obtain⟨m,rfl⟩: ∃m',m=m'+1:=⟨m-1,by omega⟩
  have e3:aj ((k:Int)<(r:Int))=ae:=by simp;omega
  rw[zL,JF,e3,bN];obtain⟨o,s',e,g1,g2⟩:=h0 s hs;show OSR (tL (c 26 [⟨.int .i64,(1:Int)⟩,⟨.rc 0,s⟩]) _) 2000;rw[e,vG];have e4:an ((a6.length+([o]:List G.O).length)*112) 1073741824=ae:=by
   rw[d7];simp only[aM,aX];omega
  simp only[e4,eZ];rw[eC (by omega)]
  have hz: ∀l:List G.O,gV (l++ [o])=gV l+(kE o+sW o)+1:=by
   intro l;induction l with
   |nil=>simp[gV]
   |cons x l ih=>simp only[aY,gV,ih];omega
  exact ih (k+1) m (a6++ [o]) s' (by omega) (by simp;omega) (by rw[hz];omega) (by omega) g2
def Ob2{L:Nat}(hL:10<=L)(h0: ∀s,dB s->OSR (c 26 [⟨.int .i64,(1:Int)⟩,⟨.rc 0,s⟩]) 200){s:G.Z}(hs:dB s):OSR (aUo c L 2 s) 2000:=by
 rw[aUo,Sp];obtain⟨r,s',e,g1,g2,g3⟩:=h.nx s 14 hs (by omega)
 rw[e,jX];show OSR (CX c L ah r 2 s' _) 2000;rw[CX,So,bL];by_cases h9:r<=9
 .exact(aBw h g3 g1 h9).le (by omega)
 have sd: ∀b,OSR (zN c L ae 2 s' b) 2000:=λb=>by
  rw[zN,JG,bN];obtain⟨q,s2,e,k1,k2,k3⟩:=h.nx s' 4 g3 (by omega)
  rw[e,jX];obtain⟨m,rfl⟩: ∃m:Nat,q=(m:Int):=⟨q.toNat,by omega⟩
  exact aKx h h0 (by omega) m 0 L [] s2 (by omega) rfl (a8 _) (by omega) k3
 rw[IZ,Sn];obtain rfl|rfl|rfl|rfl:r=10∨r=11∨r=12∨r=13:=by omega
 .exact sd _
 .exact sd _
 .exact sd _
 .have pr: ∀b,OSR (zN c L ah 2 s' b) 2000:=λb=>by
   rw[zN,JG,bL];obtain⟨o,s2,e,k1,k2⟩:=h0 s' g3;show OSR (tL (c 26 [⟨.int .i64,(1:Int)⟩,⟨.rc 0,s'⟩]) _) 2000;rw[e,vG];obtain⟨o2,s3,e,k3,k4⟩:=h0 s2 k2;show OSR (tL (c 26 [⟨.int .i64,(1:Int)⟩,⟨.rc 0,s2⟩]) _) 2000;rw[e,vG,h.cn,vH];exact .mk (by simp[Gz,kE,gV,wB,wC];omega) k4
  exact pr aSg
end
def bK6(L:Nat){n:Nat}(h:63<=n)(s:G.Z)(hs:dB s):OSR (bP (L+7000) n 26 [⟨.int .i64,(2:Int)⟩,⟨.rc 0,s⟩]) 2000:=by
 obtain⟨m,rfl⟩: ∃m,n=m+1:=⟨n-1,by omega⟩
 rw[bOW];exact Ob2 (vN L (by omega)) (by omega) (aOT L (by omega)) hs
def envN:List fY:=[[120],[121],[122],[110]]
def aPw{c:bT}(h:Lib c){L:Nat}(ho: ∀s,dB s->OSR (c 26 [⟨.int .i64,(2:Int)⟩,⟨.rc 0,s⟩]) 2000): ∀(l:List fY) (k m:Nat) (acc:lQ) (s:G.Z),envN.drop k=l->l.length<m->k<=4->acc.length=k->(∀b∈acc,vO b.value)->dB s->
    ∃(e:lQ) (s':G.Z),WG c L m (4:Int) envN (k:Int) acc s=aa [⟨.sl (.rc 17),e⟩,⟨.rc 0,s'⟩]/\(∀b∈e,vO b.value)/\e.length=4:=by
 intro l;induction l with
 |nil=>
  intro k m acc s h1 h2 h3 h4 h5 h6;obtain⟨m,rfl⟩: ∃m',m=m'+1:=⟨m-1,by simp at h2;omega⟩
  have e1:=cI h1;have e2:envN.length=4:=rfl;exact⟨acc,s,by rw[WG,aR7,bG (by omega: ¬(k:Int)<4),bL],h5,by omega⟩
 |cons x l ih=>
  intro k m acc s h1 h2 h3 h4 h5 h6;obtain⟨m,rfl⟩: ∃m',m=m'+1:=⟨m-1,by simp at h2;omega⟩
  obtain⟨a1,a2,a3⟩:=cL h1;have e2:envN.length=4:=rfl;obtain⟨o,s',e,g1,g2⟩:=ho s h6;have i1:cU envN (k:Int)=aa x:=(bV _ k).trans a1;have bl:an ((acc.length+ak ([(G.S.mk ⟨DM,x⟩ o)]:lQ))*144) 1073741824=ae:=by rw[d7];simp;omega
  obtain⟨q,q',r1,r2,r3⟩:=ih (k+1) m (acc++ [⟨⟨DM,x⟩,o⟩]) s' a3 (by simp at h2;omega) (by omega) (by simp[h4]) (λb hb=>by
   rcases List.mem_append.1 hb with hb|hb
   .exact h5 b hb
   .rw[List.mem_singleton]at hb;subst hb;exact aSo o (by omega)) g2
  refine⟨q,q',?_,r2,r3⟩;rw[WG,aR7,bF (by omega:(k:Int)<4),bN,i1,cH,h.u,aS3]
  simp only[];rw[e,vG];simp only[];rw[bl,eZ,eC (by omega)]
  exact r1
def bGa(L:Nat){n:Nat}(h:64<=n)(s:G.Z)(hs:dB s): ∃(e:lQ) (s':G.Z),bP (L+7000) n 6 [⟨.rc 0,s⟩]=aa [⟨.sl (.rc 17),e⟩,⟨.rc 0,s'⟩]/\(∀b∈e,vO b.value)/\e.length=4:=by
 obtain⟨m,rfl⟩: ∃m,n=m+1:=⟨n-1,by omega⟩
 rw[c6];exact aPw (vN L (by omega)) (bK6 L (by omega)) envN 0 (L+7000) [] s rfl (by show 4<_;omega) (by omega) rfl (λb hb=>by cases hb) hs
end Go.TV
namespace Go.TV
open Go.AI Go.PI Go.Proofs
def aNs(x:Rt)(B:Nat):Prop:= ∃l:List G.T,x=aa [yS 3 l]/\cX l<=B
def bIe{a:List G.T}{t:G.T}{L n:Nat}(hw:cX a<100000)(hL:cX a+10<L)(hn:cX a<n):aNs (bP L (n+1) 19 [yS 3 a,yS 3 ([t]:List G.T)]) (cX a+fV t+1):=by
 have hlen:=fW a;obtain⟨L,rfl⟩:=sK L 2 (by omega)
 refine(congrArg (λz=>aNs z (cX a+fV t+1)) (c19 a [t] (L+2) n)).mpr ?_
 show aNs (bIK (bP (L+2) n) (L+2) a [t]) _;rw[bIK,aL0];have e0:IntKind.i64.wrap ((a.length:Int)+(([t]:List G.T).length:Int))=((a.length+1:Nat):Int):=eC (by omega)
 have e1:aj ((0:Int)<=((a.length+1:Nat):Int))=ae:=by simp only[aD];omega
 have e2:aj (((a.length+1:Nat):Int)*176<=1073741824)=ae:=by simp only[aD];omega
 have e3:aj (((a.length+1:Nat):Int)<=1073741824)=ae:=by simp only[aD];omega
 have e4:an ((([]:List G.T).length+a.length)*176) 1073741824=ae:=by rw[d7];simp only[aX];omega
 rw[e0,e1,e2,e3,e4];show aNs (FT (bP (L+2) n) (L+2) (L+2) [t] 0 a) _;rw[FT,aLZ,show aj ((0:Int)<(([t]:List G.T).length:Int))=ae by rfl,bN,show cU ([t]:List G.T) 0=aa t from rfl,cH]
 have hc:bP (L+2) n 51 [yS 3 a,yR 3 t]=aa [yB (aj (t∈a))]:=a8m (by omega) (by omega) hn
 rw[hc,eH];have fin: ∀l:List G.T,cX l<=cX a+fV t+1->aNs (aBD (bP (L+2) n) (L+2) (FT (bP (L+2) n) (L+2) (L+1)) 0 [t] l) (cX a+fV t+1):=λl hl=>by
  rw[aBD,aLY];exact⟨l,rfl,hl⟩
 have e5:an ((a.length+([t]:List G.T).length)*176) 1073741824=ae:=by rw[d7];simp only[aM,aX];omega
 cases aj (t∈a)with
 |true=>exact fin a (by omega)
 |false=>
  simp only[b8,bN,cH,e5,eZ];exact fin (a++ [t]) (by rw[tsz'_app];omega)
end Go.TV
namespace Go.TV
open Go.AI Go.PI Go.Proofs
section
variable{c:bT}(h:Lib c){E:List G.E}
include h
set_option linter.unusedSectionVars false in
theorem aR4{L:Nat}{B α:Nat}(hl: ∀s,dB s->TSR (c 50 [yS 15 E,yI (2:Int),yR 0 s]) B)
    (ha: ∀(a:List G.T) (t:G.T),cX a<50000->aNs (c 19 [yS 3 a,yS 3 ([t]:List G.T)]) (cX a+fV t+1)) (hB:B<=10000) (hN:α<=3) {r:Nat} (hr:r<=α):
    ∀(j k m:Nat) (a:List G.T) (s:G.Z),r=k+j->cX a<=(B+1)*k->j<m->dB s->aUr (FU c L m (r:Int) E 2 (k:Int) a s) (α*(B+1)):=by
 intro j;have h3:(B+1)*α<=(B+1)*3:=Nat.mul_le_mul_left _ hN;induction j with
 |zero=>
  intro k m a s h1 h4 h5 hs;obtain⟨m,rfl⟩:=sK m 1 (by omega)
  have e3:aj ((k:Int)<(r:Int))=ah:=by simp;omega
  rw[FU,aBY,e3,bL];have:(B+1)*k<=(B+1)*α:=Nat.mul_le_mul_left _ (by omega)
  exact⟨a,s,rfl,by rw[Nat.mul_comm α];omega,hs⟩
 |succ j ih=>
  intro k m a s h1 h4 h5 hs;obtain⟨m,rfl⟩:=sK m 1 (by omega)
  have e3:aj ((k:Int)<(r:Int))=ae:=by simp;omega
  obtain⟨t,s',e,g1,g2⟩:=hl s hs;have:(B+1)*k<=(B+1)*α:=Nat.mul_le_mul_left _ (by omega)
  obtain⟨a2,e2,g3⟩:=ha a t (by omega)
  rw[FU,aBY,e3,bN,e,lB];simp only[];rw[e2,aAt,eC (by omega)]
  exact ih (k+1) m a2 s' (by omega) (by rw[Nat.mul_add];omega) (by omega) g2
def bH3{L:Nat}{B:Nat}(hL:10<=L)(hl: ∀s,dB s->TSR (c 50 [yS 15 E,yI (2:Int),yR 0 s]) B)
    (ha: ∀(a:List G.T) (t:G.T),cX a<50000->aNs (c 19 [yS 3 a,yS 3 ([t]:List G.T)]) (cX a+fV t+1)) (hB:B<=10000) {s:G.Z} (hs:dB s):aUr (bIM c L E 3 2 s) (3*(B+1)):=by
 obtain⟨r,s',e,g1,g2,g3⟩:=h.nx s 3 hs (by omega)
 rw[bIM,aMi,e,jX];obtain⟨m,rfl⟩: ∃m:Nat,r=(m:Int):=⟨r.toNat,by omega⟩
 have e1:IntKind.i64.wrap ((1:Int)+(m:Int))=((m+1:Nat):Int):=by rw[Int.add_comm];exact eC (by omega)
 simp only[e1];exact aR4 h hl ha hB (α:=3) (by omega) (by omega) (m+1) 0 L [] s' (by omega) (a8 _) (by omega) g3
def aRe{L:Nat}(hv: ∀s,dB s->TSR (c 18 [yR 0 s]) 6){B:Nat}
    (h1: ∀s,dB s->TSR (c 15 [yS 15 E,yI (1:Int),yR 0 s]) B)
    (ha: ∀(a:List G.T) (t:G.T),cX a<50000->aNs (c 19 [yS 3 a,yS 3 ([t]:List G.T)]) (cX a+fV t+1)) {x y:G.T} {A:Nat} (hx:fV x<=A) (hy:fV y<=A) (hA:A<=1890) (hB:B<=1800) {r:Nat} (hr:r<=3):
    ∀(j k m:Nat) (a:List G.T) (s:G.Z),r=k+j->cX a<=8000+3900*k->j<m->dB s->aUr (R8 c L m (r:Int) E (k:Int) a s x y) 20000:=by
 intro j;induction j with
 |zero=>
  intro k m a s q1 q2 q3 hs;obtain⟨m,rfl⟩:=sK m 1 (by omega)
  have e3:aj ((k:Int)<(r:Int))=ah:=by simp;omega
  rw[R8,aSc,e3,bL];exact⟨a,s,rfl,by omega,hs⟩
 |succ j ih=>
  intro k m a s q1 q2 q3 hs;obtain⟨m,rfl⟩:=sK m 1 (by omega)
  have e3:aj ((k:Int)<(r:Int))=ae:=by simp;omega
  obtain⟨q,s3,e5,g3,g4,g5⟩:=h.nx s 5 hs (by omega)
  have fin: ∀(u:G.T) (s4:G.Z),fV u<=3800->dB s4->aUr (aRk c L (R8 c L m) a (k:Int) (r:Int) E s4 u x y) 20000:=λu s4 k1 k2=>by
   obtain⟨a2,e2,g⟩:=ha a u (by omega)
   rw[aRk,a8v,e2,aAt,eC (by omega)]
   exact ih (k+1) m a2 s4 (by omega) (by omega) (by omega) k2
  rw[R8,aSc,e3,bN,h.l,gW];simp only[];rw[h.l,gW];simp only[];rw[e5,jX];simp only[];cases aj (q=(0:Int))with
  |true=>
   obtain⟨v,s4,e6,k1,k2⟩:=hv s3 g5;obtain⟨t,s5,e7,k3,k4⟩:=h1 s4 k2;rw[bN,e6,lB];simp only[];rw[h.l,gW];simp only[];rw[e7,lB];simp only[];rw[h.l,gW];exact fin _ _ (by simp only[zB,cX,JI];omega) k4
  |false=>
   rw[bL];cases aj (q=(1:Int))with
   |true=>
    rw[bN,h.l,gW];exact fin _ _ (by simp only[zB,cX,JI];omega) g5
   |false=>
    rw[bL];cases aj (q=(2:Int))with
    |true=>
     obtain⟨t,s5,e7,k3,k4⟩:=h1 s3 g5;rw[bN,e7,lB];simp only[];rw[h.l,gW];simp only[];rw[h.l,gW];exact fin _ _ (by simp only[zB,cX,JI];omega) k4
    |false=>
     rw[bL];exact fin _ _ (by simp only[zB,cX,JI];omega) g5
def bHS{L:Nat}(hL:10<=L)(hv: ∀s,dB s->TSR (c 18 [yR 0 s]) 6){A B:Nat}(h2: ∀s,dB s->TSR (c 15 [yS 15 E,yI (2:Int),yR 0 s]) A)
    (h1: ∀s,dB s->TSR (c 15 [yS 15 E,yI (1:Int),yR 0 s]) B)
    (hc: ∀s,dB s->aUr (c 16 [yS 15 E,yI (3:Int),yI (2:Int),yR 0 s]) 8000)
    (ha: ∀(a:List G.T) (t:G.T),cX a<50000->aNs (c 19 [yS 3 a,yS 3 ([t]:List G.T)]) (cX a+fV t+1)) (hA:A<=1890) (hB:B<=1800) {s:G.Z} (hs:dB s):aUr (F3 c L E s) 20000:=by
 obtain⟨x,s2,e,g1,g2⟩:=h2 s hs;obtain⟨y,s3,e2,g3,g4⟩:=h2 s2 g2;obtain⟨a,s4,e3,g5,g6⟩:=hc s3 g4;obtain⟨r,s5,e4,g7,g8,g9⟩:=h.nx s4 4 g6 (by omega)
 obtain⟨m,rfl⟩: ∃m:Nat,r=(m:Int):=⟨r.toNat,by omega⟩
 rw[F3,a8w,e,lB];simp only[];rw[e2,lB];simp only[];rw[e3,a2Y];simp only[];rw[e4,jX];exact aRe h hv h1 ha (A:=1890) (by omega) (by omega) (by omega) (by omega) (by omega) m 0 L a s5 (by omega) (by omega) (by omega) g9
end
end Go.TV
namespace Go.TV
open Go.AI Go.PI Go.Proofs
set_option maxRecDepth 20000
section
variable(L:Nat){E:List G.E}(hE:a83 E)
omit hE in
def bHi(hL:100000<=L){n:Nat}(h:60000<=n)(a:List G.T)(t:G.T)(ha:cX a<50000):aNs (bP (L+7000) n 19 [yS 3 a,yS 3 ([t]:List G.T)]) (cX a+fV t+1):=by
 obtain⟨m,rfl⟩: ∃m,n=m+1:=⟨n-1,by omega⟩
 exact bIe (by omega) (by omega) (by omega)
end
end Go.TV
namespace Go.TV
open Go.AI Go.PI Go.Proofs
set_option maxRecDepth 20000
def D9{L n i:Nat}{d out:mK}(h:bP L n i d=aa out):Rn i d out:=⟨max L n,λL' n' h1 h2=>aIm (by omega) n n' (by omega) i d _ h⟩
def aPn{w:List G.E}{f:G.Y}{g:G.F}(h:aCT w f=aa g): ∃e∈w,g∈e.functions:=by
 unfold aCT at h;cases e:aO0 f w 0 with
 |none=>rw[e]at h;cases h
 |some p=>
  obtain⟨i,k⟩:=p;rw[e]at h;obtain⟨_,x,y,h1,h2⟩:=TE e;rw[Nat.sub_zero]at h1
  dsimp only at h
  rw[h1,aL,h2]at h;cases h;refine⟨x,ef h1,?_⟩;have hm:=ef h2;unfold T5 at hm;split at hm
  .exact hm
  .cases hm
def woV{E:List G.E}(h:a8K E=ae):aNr E:=by
 simp only[a8K,aDz,aC,bJ]at h;have len:E.length<=1000:=bK h.1.2;refine⟨⟨len,λe he=>bK (h.2 e he).1⟩,λf g hg=>?_⟩
 obtain⟨e,he,hm⟩:=aPn hg;have:=(h.2 e he).2 g hm;exact⟨this.2,by have:=bK this.1;omega⟩
def noW{E:List G.E}{a x:T3}{R:List G.E}(h:E=aCX (JU 0) a::aCX (JU 1) x::R)(hb:B9 (JU 0).1 a.2.1=ae):bPB E:=by
 subst h;have hs:(JU 0).1=QW:=by kernel_rfl
 unfold B9 at hb;rw[hs,bF rfl,bD,Bool.false_or,aC]at hb;exact⟨⟨⟨eE,QW⟩,[⟨eE,[112]⟩],1,a.1,a.2.1,a.2.2⟩,by kernel_rfl,rfl,hb.2⟩
section
variable(L:Nat){E:List G.E}(hE:a83 E)
include hE
def bOP(hL:100000<=L){n:Nat}(h:70000<=n)(s:G.Z)(hs:dB s):aUr (bP (L+7000) n 16 [⟨.sl (.rc 15),E⟩,⟨.int .i64,(3:Int)⟩,⟨.int .i64,(2:Int)⟩,⟨.rc 0,s⟩]) 8000:=by
 obtain⟨m,rfl⟩: ∃m,n=m+1:=⟨n-1,by omega⟩
 rw[c16];obtain⟨l,s',h1,h2,h3⟩:=bH3 (vN L (n:=m) (by omega)) (L:=L+7000) (by omega) (bLc L hE (by omega)) (bHi L hL (by omega)) (by omega) hs
 exact⟨l,s',h1,by omega,h3⟩
def bLd(hL:100000<=L){n:Nat}(h:80000<=n)(s:G.Z)(hs:dB s):aUr (bP (L+7000) n 3 [⟨.sl (.rc 15),E⟩,⟨.rc 0,s⟩]) 20000:=by
 obtain⟨m,rfl⟩: ∃m,n=m+1:=⟨n-1,by omega⟩
 rw[c3];exact bHS (vN L (by omega)) (by omega) (aDU L (by omega)) (bAo L hE (by omega)) (aXf L hE (by omega)) (bOP L hE hL (by omega)) (bHi L hL (by omega)) (by omega) (by omega) hs
end
def aIz(L n:Nat):bP L (n+1) 1 []=aa [⟨.bool,ae⟩]:=
 aIk (x:=bQE) (T:=tpI) (y:= .t) (by kernel_rfl) (by kernel_rfl) (by kernel_rfl) L n [] (by kernel_rfl)
def bBU{a b:List Int}(ha: ∀x∈a,0<=x/\x<256)(hb: ∀x∈b,0<=x/\x<256):Rn 0 [⟨.sl (.int .u8),a⟩,⟨.sl (.int .u8),b⟩] [⟨.bool,ae⟩]:=by
 refine dR (λL n=>c0 a b L n) ?_
 simp only[F0,a8C];refine lc (D9 (aIz 0 0)) rfl ?_;simp only[bD,bL];have tt:Lp (λL n=>aK8 (bP L n) L ae a b) [⟨.bool,ae⟩]:=by
  simp only[aK8,aSd,bN];exact lr rfl
 cases h1:aj ((80:Int)<(ak a:Int))with
 |true=>simp only[bN];exact tt
 |false=>
  simp only[bL];cases h2:aj ((40:Int)<(ak b:Int))with
  |true=>exact tt
  |false=>
   have h1:=of_decide_eq_false h1;have h2:=of_decide_eq_false h2;obtain⟨E,w1,w2,xa,xx,R,w3,w4⟩:=aDL 0 0;have hW:=woV w2;have hN:=noW w3 w4;obtain⟨cl,s,f1,f2,f3⟩:=bLd 100000 (aXo w2) (by omega) (n:=80000) (by omega) ⟨a,0⟩ ⟨ha,Int.le_refl _,by show(0:Int)<=(a.length:Int);omega,by show a.length<=100;omega⟩
   have hlen:=fW cl;have p1:=bF6 (a:=cl) (L:=1000000) (n:=1000000) (by omega) (by omega) (by omega)
   obtain⟨i,r,q,p2⟩:=aTp cl cl 0;rw[p2]at p1;simp only[aK8,aSd,bL];refine lc (D9 w1) rfl (lc (D9 f1) rfl (lc (D9 p1) rfl ?_));cases q with
   |false=>simp only[b8,bN];exact lr rfl
   |true=>
    simp only[bD,bL];have c1:=bGr (cl:=cl) (i:=(i:Int)) (r:=r) (L:=1000000000) (n:=1000000010) f2 (by omega) (by omega)
    cases e:PU cl (i:Int) r with
    |none=>
     rw[e]at c1;refine lc (D9 c1) rfl ?_;simp only[bL];exact lr rfl
    |some o=>
     rw[e]at c1;refine lc (D9 c1) rfl ?_;simp only[bN];obtain⟨env,s',e1,e2,e3⟩:=bGa 0 (n:=64) (by omega) ⟨b,0⟩ ⟨hb,Int.le_refl _,by show(0:Int)<=(b.length:Int);omega,by show b.length<=100;omega⟩
     have kE:=a6S f2 e;have olen:=fW o;have tc: ∀t∈cl,tO t=ae:=λt ht=>aSv t (by have:=cV ht;omega)
     have td: ∀t∈o,tO t=ae:=λt ht=>aSv t (by have:=cV ht;omega)
     have el:env.length<=1000:=by omega
     have ll:o.length<cl.length:=aQF e;have rD:=Qn hW e2 el (p:=o) (by omega) td
     have rC:=Qn hW e2 el (p:=cl) (by omega) tc
     refine lc (D9 e1) rfl (lc rD rfl (lc rC rfl ?_));have fin:(RN E env o ah).2=ae->(RN E env cl ah).2=ae->(RN E env o ah).1=ae->(RN E env cl ah).1=ae:=by
      intro g1 g2 g3;have k1:=UN hW e2 el td g1;have k2:=UN hW e2 el tc g2;have q:=(aHM hW hN e e2 el tc k2.1 k1.1).2;rw[k1.2,Bool.false_or,List.any_eq_true]at g3;rw[k2.2,Bool.false_or,List.any_eq_true];exact q g3
     simp only[bF (by omega:(o.length:Int)<(cl.length:Int)),bN,a7L,a8B]
     cases g1:(RN E env o ah).2 with
     |false=>simp only[b8,bN];exact lr rfl
     |true=>
      simp only[bD,bL];cases g2:(RN E env cl ah).2 with
      |false=>simp only[b8,bN];exact lr rfl
      |true=>
       simp only[bD,bL];cases g3:(RN E env o ah).1 with
       |false=>simp only[b8,bN];exact lr rfl
       |true=>
        simp only[bD,bL,fin g1 g2 g3];exact lr rfl
end Go.TV
