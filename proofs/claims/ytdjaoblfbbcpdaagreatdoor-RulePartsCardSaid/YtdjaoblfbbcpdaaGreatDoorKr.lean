import Derived.Test.YtdjaoblfbbcpdaaGreatDoorKq
set_option linter.unusedVariables false
set_option linter.unusedSimpArgs false
set_option linter.constructorNameAsVariable false
set_option linter.defProp false
namespace Go.TV
open Go.AI Go.PI Go.Proofs
set_option maxRecDepth 20000
def aE6{E:G.T->Int->aA8}(h: ∀t l,0<=l->0<=(E t l).2.2): ∀(ts:List G.T) (l:Int) (acc:List G.O),0<=l->0<=(nH E ts l acc).2.2
 |[],l,acc,h0=>h0
 |t::ts,l,acc,h0=>by
  rw[nH];split
  .exact aE6 h ts _ _ (h t l h0)
  .exact h t l h0
def P7(w:List G.E): ∀(k:Nat) (t:G.T) (env:qQ) (l:Int),0<=l->0<=(ev w k t env l).2.2:=by
 intro k;induction k with
 |zero=>
  intro t env l h0;by_cases e1:t.kind=1
  .rw[Gg e1];cases FO env t.name<;>exact h0
  .by_cases e2:t.kind=2
   .rw[Gf e1 e2];exact h0
   .by_cases e3:l<1
    .rw[Ko e1 e2 e3];exact h0
    .rw[aZV e1 e2 e3];exact h0
 |succ k ih=>
  intro t env l h0;by_cases e1:t.kind=1
  .rw[Gg e1];cases FO env t.name<;>exact h0
  .by_cases e2:t.kind=2
   .rw[Gf e1 e2];exact h0
   .by_cases e3:l<1
    .rw[Ko e1 e2 e3];exact h0
    .rw[Si e1 e2 e3];have hc:0<=(QY w k t env (l-1)).2.2:=by
      have hl:=aE6 (E:=λt l=>ev w k t env l) (λt l=>ih t env l) t.args (l-1) [] (by omega)
      have i0:=ih (t.args.getD 0 yK) env (l-1) (by omega)
      unfold QY;split
      .split
       .exact i0
       .split
        .exact ih _ _ _ i0
        .exact ih _ _ _ i0
      .split
       .exact hl
       .cases arity t.name with
        |some _=>exact hl
        |none=>exact ih _ _ _ hl
     cases aJG w t.name with
     |none=>show 0<=l-1;omega
     |some n=>
      dsimp only
      split
      .show 0<=l-1;omega
      .split
       .show 0<=l-1;omega
       .exact hc
def aOw{w:List G.E}{t:G.T}{env:qQ}{x:G.O}(h1:t.kind=1)(h:QZ w t env x):FO env t.name=some x:=by
 obtain⟨k,l,_,_,a3,a4⟩:=h;rw[Gg h1]at a3 a4;cases e:FO env t.name with
 |none=>rw[e]at a4;cases a4
 |some o=>rw[e]at a3;rw[<-a3]
def aEF{A B C:G.T->Bool}: ∀{t:G.T},bBb A B C t=true->zT t aJB 3=true/\∃a b c,t.args=[a,b,c]/\A a=true/\B b=true/\C c=true
 |⟨k,⟨p,m⟩,v,[a,b,c]⟩,h=>by
  unfold bBb at h;simp only[aC]at h;have h1:=of_decide_eq_true h.1;have h2:=of_decide_eq_true h.2.1;have h3:=of_decide_eq_true h.2.2.1;subst h1 h2 h3;exact⟨rfl,a,b,c,rfl,h.2.2.2⟩
 |⟨_,⟨_,_⟩,_,[]⟩,h=>by cases h
 |⟨_,⟨_,_⟩,_,[_]⟩,h=>by cases h
 |⟨_,⟨_,_⟩,_,[_,_]⟩,h=>by cases h
 |⟨_,⟨_,_⟩,_,_::_::_::_::_⟩,h=>by cases h
def aBv{n:gH}: ∀{t:G.T},bAY n t=true->t.kind=1/\t.name=⟨dN,n⟩
 |⟨k,⟨p,m⟩,v,l⟩,h=>by
  unfold bAY at h;simp only[aC]at h;have h1:=of_decide_eq_true h.1;have h2:=of_decide_eq_true h.2.1;have h3:=of_decide_eq_true h.2.2;subst h1 h2 h3;exact⟨rfl,rfl⟩
def SI{s:gH}: ∀{t:G.T},a80 s t=true->t.kind=2/\CQ t.value=decide (s=([110,105,108]:gH))
 |⟨k,nm,⟨o,n,d,⟨p,m⟩,x,l⟩,q⟩,h=>by
  unfold a80 at h;simp only[aC]at h;have h1:=of_decide_eq_true h.1;have h2:=of_decide_eq_true h.2.1;have h3:=of_decide_eq_true h.2.2.2.2.1;have h4:=of_decide_eq_true h.2.2.2.2.2.1;subst h1 h2 h3 h4;exact⟨rfl,rfl⟩
structure bIk(w:List G.E):Prop where
 f: ∃g,aAy w ⟨dN,Em⟩=some g/\g.params=[⟨dN,[112]⟩,⟨dN,[113]⟩]/\aZe g.body=true
def aEi{w:List G.E}{B:G.T}{x y v:G.O}(h:aZe B=true)(hv:QZ w B (bnd [⟨dN,[112]⟩,⟨dN,[113]⟩] [x,y]) v):CQ v=(!CQ x&&CQ y):=by
 obtain⟨h1,a,b,c,e,ha,hb,hc⟩:=aEF h;obtain⟨y0,q1,q2,q3⟩:=RS h1 e hv (λk t l=>P7 w k t _ l)
 have va:=aBv ha;have e0:=aOw va.1 q1;rw[va.2]at e0;have ex:y0=x:=by
  have:FO (bnd [⟨dN,[112]⟩,⟨dN,[113]⟩] [x,y]) ⟨dN,[112]⟩=some x:=by simp[bnd,FO]
  rw[this]at e0;exact(Option.some.inj e0).symm
 subst ex;cases hx:CQ y0 with
 |true=>
  have cc:=SI hc;rw[Xc cc.1 (q2 hx),cc.2];rfl
 |false=>
  obtain⟨h2,a',b',c',e',cx,bu,mc⟩:=aEF hb;obtain⟨y1,p1,p2,p3⟩:=RS h2 e' (q3 hx) (λk t l=>P7 w k t _ l)
  have vb:=aBv cx;have e1:=aOw vb.1 p1;rw[vb.2]at e1;have ey:y1=y:=by
   have:FO (bnd [⟨dN,[112]⟩,⟨dN,[113]⟩] [y0,y]) ⟨dN,[113]⟩=some y:=by simp[bnd,FO]
   rw[this]at e1;exact(Option.some.inj e1).symm
  subst ey;cases hy:CQ y1 with
  |true=>
   have cc:=SI mc;rw[Xc cc.1 (p2 hy),cc.2];rfl
  |false=>
   have cc:=SI bu;rw[Xc cc.1 (p3 hy),cc.2];rfl
def aKL{w:List G.E}(hw:bIk w){t a b:G.T}{env:qQ}{v:G.O}(hi:zT t Em 2=true)(e:t.args=[a,b])(h:QZ w t env v): ∃x y,QZ w a env x/\QZ w b env y/\CQ v=(!CQ x&&CQ y):=by
 obtain⟨g,g1,g2,g3⟩:=hw.f;obtain⟨k,l,a1,a2,a3,a4⟩:=h;have hk:t.kind=3:=aOL hi;have hn:t.name=⟨dN,Em⟩:=by
  unfold zT at hi;rw[aC,aC]at hi;exact of_decide_eq_true hi.1.2
 by_cases e3:l<1
 .rw[Ko (by omega) (by omega) e3]at a4;cases a4
 .obtain⟨k,rfl⟩: ∃j,k=j+1:=⟨k-1,by omega⟩
  rw[Si (by omega) (by omega) e3,hn]at a3 a4
  cases e4:aJG w ⟨dN,Em⟩with
  |none=>rw[e4]at a4;cases a4
  |some n=>
   rw[e4]at a3 a4
   dsimp only at a3 a4
   by_cases e5:n≠(t.args.length:Int)
   .rw[bI e5]at a4;cases a4
   .rw[bH e5]at a3 a4;by_cases e6:arity ⟨dN,Em⟩=none/\(yD w ⟨dN,Em⟩).cls≠1
    .rw[bI e6]at a4;cases a4
    .rw[bH e6]at a3 a4;have ni: ¬zT t aJB 3=true:=by
      unfold zT;rw[hn,aC,aC];rintro⟨⟨_,h⟩,_⟩;exact absurd (of_decide_eq_true h) (by decide)
     have ar:arity ⟨dN,Em⟩=none:=by decide+kernel
     have fo:yD w ⟨dN,Em⟩=g:=by unfold yD;rw[g1];rfl
     unfold QY at a3 a4;rw[bH ni,e,hn,ar,fo,g2]at a3 a4;by_cases c1:(ev w k a env (l-1)).2.1=0
     .have l1:=GR w k a env (l-1);have n1:=P7 w k a env (l-1) (by omega)
      by_cases c2:(ev w k b env (ev w k a env (l-1)).2.2).2.1=0
      .have l2:=GR w k b env (ev w k a env (l-1)).2.2;have n2:=P7 w k b env (ev w k a env (l-1)).2.2 n1;have es:nH (λt l=>ev w k t env l) [a,b] (l-1) []=([(ev w k a env (l-1)).1,(ev w k b env (ev w k a env (l-1)).2.2).1],0,(ev w k b env (ev w k a env (l-1)).2.2).2.2):=by
        rw[nH,bI c1,nH,bI c2,nH];rfl
       rw[es,bH (λh=>h rfl)]at a3 a4
       refine⟨_,_,Eb (by omega) (by omega) c1,Eb n1 (by omega) c2,?_⟩
       exact aEi g3 ⟨k,_,n2,by show(ev w k b env (ev w k a env (l-1)).2.2).2.2<=(k:Int);omega,a3,a4⟩
      .have es:nH (λt l=>ev w k t env l) [a,b] (l-1) []=([(ev w k a env (l-1)).1],(ev w k b env (ev w k a env (l-1)).2.2).2.1,(ev w k b env (ev w k a env (l-1)).2.2).2.2):=by
        rw[nH,bI c1,nH,bH c2];rfl
       rw[es,bI c2]at a4;exact absurd a4 c2
     .have es:nH (λt l=>ev w k t env l) [a,b] (l-1) []=([],(ev w k a env (l-1)).2.1,(ev w k a env (l-1)).2.2):=by rw[nH,bH c1]
      rw[es,bI c1]at a4;exact absurd a4 c1
noncomputable def QS(w:List G.E)(t:G.T)(env:qQ):aA8:=ev w 2000 t env 2000
noncomputable def QU(w:List G.E)(t:G.T)(env:qQ):Bool:=decide ((QS w t env).2.1=0)
noncomputable def aOc(w:List G.E)(t:G.T)(env:qQ):G.O:=if(QS w t env).2.1=0 then(QS w t env).1 else Bn
noncomputable def aJv(w:List G.E)(t:G.T)(env:qQ):Bool:= !decide (aOc w t env=aXm)
def aDA{w:List G.E}{t:G.T}{env:qQ}(h:QU w t env=true):QZ w t env (QS w t env).1:=⟨2000,2000,by omega,by omega,rfl,of_decide_eq_true h⟩
def aFu{w:List G.E}{env:qQ}: ∀{t:G.T} {p:List G.T},aPH t p->∀x,QZ w t env x->(∀u∈p,QU w u env=true)->tr x=p.all λu=>tr (QS w u env).1:=by
 intro t p h;induction h with
 |one t=>
  intro x hx hp;have:=Pu hx (aDA (hp t (by simp)))
  subst this;simp
 |two h e hp hq ihp ihq=>
  intro x hx hu;rw[List.all_append];obtain⟨y,y1,y2,y3⟩:=RS h e hx (λk t l=>P7 w k t env l)
  have ia:=ihp y y1 λu fy=>hu u (List.mem_append_left _ fy)
  rw[<-ia];cases hy:CQ y with
  |true=>
   have:x=nlT.value:=Xc rfl (y2 hy);rw[this];unfold tr;rw[hy];rfl
  |false=>
   have ib:=ihq x (y3 hy) λu fy=>hu u (List.mem_append_right _ fy)
   rw[<-ib];unfold tr;rw[hy];rfl
def aAm{w:List G.E}(hw:bIk w){env:qQ}: ∀{t:G.T} {h:List G.T} {d:G.T},a3i t h d->∀x,QZ w t env x->(∀u∈h,QU w u env=true)->QU w d env=true->tr x=(!(h.all λu=>tr (QS w u env).1)||tr (QS w d env).1):=by
 intro t h d hp;induction hp with
 |zero t=>
  intro x hx _ hd;have:=Pu hx (aDA hd);subst this;simp
 |suc hi e hp hq ih=>
  intro x hx hu hd;obtain⟨xa,xb,q1,q2,q3⟩:=aKL hw hi e hx;have ia:=aFu hp xa q1 λu fy=>hu u (List.mem_append_left _ fy)
  have ib:=ih xb q2 (λu fy=>hu u (List.mem_append_right _ fy)) hd
  have e1:tr x=(!tr xa||tr xb):=by unfold tr;rw[q3];cases CQ xa<;>cases CQ xb<;>rfl
  rw[List.all_append,<-ia,e1,ib];cases tr xa<;>simp
section
variable{w:List G.E}(hw:a1T w){env:qQ}(he: ∀b∈env,vO b.value)(hl:env.length<=1000)
include hw he hl
def aBE{t:G.T}(ht:tO t=true):Rn 72 [⟨.rc 3,t⟩,⟨.sl (.rc 17),env⟩,⟨.rc 18,(⟨w,2000⟩:G.W)⟩] (aOg w (QS w t env))/\vO (QS w t env).1:=by
 have h:=XE aZP hw 2000 (by omega) t env 2000 (by omega) (by omega) ht he hl
 exact⟨h.1,h.2.1⟩
def Q8{t:G.T}(ht:tO t=true)(ho:QU w t env=true):aJv w t env=tr (QS w t env).1:=by
 have hv:=(aBE hw he hl ht).2;have h0:(QS w t env).2.1=0:=of_decide_eq_true ho;unfold aJv aOc tr;rw[bI h0];cases e:CQ (QS w t env).1 with
 |true=>rw[bF ((Xk hv).1 e)]
 |false=>rw[bG (λh=>by rw[(Xk hv).2 h]at e;cases e)]
def HY{t:G.T}(ht:tO t=true):Rn 12 [⟨.sl (.rc 15),w⟩,⟨.rc 3,t⟩,⟨.sl (.rc 17),env⟩] [⟨.bool,aJv w t env⟩,⟨.bool,QU w t env⟩]:=by
 have h:=aBE hw he hl ht;have hT: ∃s:Int,Rn 32 [⟨.sl (.rc 15),w⟩,⟨.rc 3,t⟩,⟨.sl (.rc 17),env⟩,⟨.int .i64,(2000:Int)⟩] [⟨.rc 2,aOc w t env⟩,⟨.int .i64,s⟩,⟨.int .i64,(QS w t env).2.1⟩]:=by
  by_cases e:(QS w t env).2.1=0
  .refine⟨IntKind.i64.wrap (2000-(QS w t env).2.2),eC (λL n=>bHH w t env 2000 L n) ?_⟩
   simp only[bAG,aIc,bG (by omega: ¬(2000:Int)<0),aJ]
   refine lc h.1 rfl ?_;simp only[bF e,bD,bM];exact lr (by unfold aOc;rw[bI e,e])
  .refine⟨0,eC (λL n=>bHH w t env 2000 L n) ?_⟩
   simp only[bAG,aIc,bG (by omega: ¬(2000:Int)<0),aJ]
   refine lc h.1 rfl ?_;simp only[bG e,Bool.not_false,bP];exact lr (by unfold aOc;rw[bH e];rfl)
 obtain⟨s,hs⟩:=hT;have wo:wO (aOc w t env):=by
  unfold aOc;split
  .exact aJw h.2
  .rfl
 refine eC (λL n=>c12 w t env L n) ?_
 simp only[bIy,aP2];exact lc hs rfl (lc Bs rfl (lc (aCc (aOc w t env) wo aXm) rfl (lr rfl)))
noncomputable def Xt(w:List G.E)(env:qQ):List G.T->Bool->Bool×Bool
 |[],a=>(a,true)
 |t::l,a=>if QU w t env=true then Xt w env l (a&&aJv w t env)else(false,false)
def aLr{p:List G.T}(hp:p.length<1000000): ∀(l:List G.T) (k:Nat) (a:Bool),p.drop k=l->(∀t∈l,tO t=true)->
    ∃α,∀L n m,α<=L->α<=n->α<=m->Bk (bR L n) L m w p env (k:Int) a=some [⟨.bool,(Xt w env l a).1⟩,⟨.bool,(Xt w env l a).2⟩]:=by
 intro l;induction l with
 |nil=>
  intro k a h1 _;have e1:=dH h1;refine⟨1,λL n m _ _ g3=>?_⟩
  obtain⟨m,rfl⟩: ∃m',m=m'+1:=⟨m-1,by omega⟩
  rw[Bk,YV,bG (by omega: ¬(k:Int)<(p.length:Int)),bM];rfl
 |cons x l ih=>
  intro k a h1 fa;obtain⟨a1,a2,a3⟩:=dL h1;have i1:dE p (k:Int)=some x:=(bW _ k).trans a1;obtain⟨N1,hN1⟩:=HY hw he hl (fa x (aH ..));obtain⟨N2,hN2⟩:=ih (k+1) (a&&aJv w x env) a3 λt ht=>fa t (aG _ ht)
  refine⟨max N1 N2+1,λL n m g1 g2 g3=>?_⟩
  obtain⟨m,rfl⟩: ∃m',m=m'+1:=⟨m-1,by omega⟩
  have c1:bR L n 12 [⟨.sl (.rc 15),w⟩,⟨.rc 3,x⟩,⟨.sl (.rc 17),env⟩]=some [⟨.bool,aJv w x env⟩,⟨.bool,QU w x env⟩]:=hN1 L n (by omega) (by omega)
  have c2:=hN2 L n m (by omega) (by omega) (by omega)
  rw[Bk,YV,bF (by omega:(k:Int)<(p.length:Int)),bP,i1,cM,c1,Xt]
  show bS (!QU w x env) _ (bS a (QM (bR L n) L (Bk (bR L n) L m) (k:Int) w p env (aJv w x env)) (QM (bR L n) L (Bk (bR L n) L m) (k:Int) w p env false))=_;cases e:QU w x env with
  |false=>rfl
  |true=>
   rw[bD,bM,bI rfl,QM,YU,YU,fF (by omega)]
   cases a with
   |true=>rw[bP];exact c2
   |false=>rw[bM];exact c2
def aCb{p:List G.T}(hp:p.length<1000000)(ht: ∀t∈p,tO t=true):Rn 11 [⟨.sl (.rc 15),w⟩,⟨.sl (.rc 3),p⟩,⟨.sl (.rc 17),env⟩] [⟨.bool,(Xt w env p true).1⟩,⟨.bool,(Xt w env p true).2⟩]:=by
 obtain⟨α,hN⟩:=aLr hw he hl hp p 0 true rfl ht;refine eC (λL n=>c11 w p env L n) ⟨α,λL n g1 g2=>?_⟩
 exact hN L n L g1 g2 g1
def aEI: ∀{p:List G.T} {a:Bool},(∀t∈p,tO t=true)->(Xt w env p a).2=true->(∀u∈p,QU w u env=true)/\(Xt w env p a).1=(a&&p.all λu=>tr (QS w u env).1)
 |[],a,_,_=>⟨λu hu=>(by cases hu),by simp[Xt]⟩
 |t::p,a,ht,h=>by
  rw[Xt]at h⊢;by_cases e:QU w t env=true
  .rw[bI e]at h⊢;have i:=aEI (p:=p) (a:=a&&aJv w t env) (λu hu=>ht u (aG _ hu)) h
   refine⟨λu hu=>?_,?_⟩
   .rcases List.mem_cons.1 hu with rfl|hu
    .exact e
    .exact i.1 u hu
   .rw[i.2,Q8 hw he hl (ht t (aH ..)) e,aP,Bool.and_assoc]
  .rw[bH e]at h;cases h
end
end Go.TV
namespace Go.TV
open Go.AI Go.PI Go.Proofs
def OSR(x:Rt)(B:Nat):Prop:= ∃(o:G.O) (s:G.Z),x=some [yR 2 o,yR 0 s]/\tW o+BV o<=B/\cY s
def vK:Qv 2 [] [] ⟨dN,[110,105,108]⟩ [] []=0:=rfl
def OSR.mk{o:G.O}{s:G.Z}{B:Nat}(h:tW o+BV o<=B)(hs:cY s):OSR (some [yR 2 o,yR 0 s]) B:=⟨o,s,rfl,h,hs⟩
def OSR.le{x:Rt}{A B:Nat}(h:OSR x A)(hl:A<=B):OSR x B:=by obtain⟨o,s,h1,h2,h3⟩:=h;exact⟨o,s,h1,by omega,h3⟩
def uU{W:Type}{a:G.O}{K:G.O×Unit->Option W}:eA (some [yR 2 a]) K=K (a,()):=rfl
def uT{W:Type}{a:G.O}{b:G.Z}{K:G.O×G.Z×Unit->Option W}:tG (some [yR 2 a,yR 0 b]) K=K (a,b,()):=rfl
def aW1{W:Type}{a:G.Y}{K:G.Y×Unit->Option W}:pL (some [yR 1 a]) K=K (a,()):=rfl
def DE{N:Type}{l:List N}{lo hi:Int}(h0:0<=lo)(h1:lo<=hi)(h2:hi<=(l.length:Int)): ∃w,slc l lo hi=some w/\(w.length:Int)=hi-lo:=by
 unfold slc;have e1:decide (0<=lo)=true:=by simpa using h0
 have e2:decide (lo<=hi)=true:=by simpa using h1
 have e3:decide (hi<=(l.length:Int))=true:=by simpa using h2
 rw[e1,e2,e3];refine⟨_,rfl,?_⟩;rw[List.length_drop,List.length_take];omega
section
variable{c:bU}(h:Lib c)
include h
def YE{L:Nat}{s:G.Z}(hs:cY s){a5 a1:Int}{b:G.O}(h0:0<=a5)(h9:a5<=9):OSR (G9 c L a5 a1 s b) 20:=by
 have seven: ∀K:Int×G.Z×Unit->Rt,(∀r s',0<=r->r<7->cY s'->OSR (K (r,s',())) 20)->OSR (rB (c 20 [yI (7:Int),yR 0 s]) K) 20:=λK hK=>by
  obtain⟨r,s',e,g1,g2,g3⟩:=h.nx s 7 hs (by omega)
  rw[e,lC];exact hK r s' g1 g2 g3
 have three: ∀K:Int×G.Z×Unit->Rt,(∀r s',0<=r->r<3->cY s'->OSR (K (r,s',())) 20)->OSR (rB (c 20 [yI (3:Int),yR 0 s]) K) 20:=λK hK=>by
  obtain⟨r,s',e,g1,g2,g3⟩:=h.nx s 3 hs (by omega)
  rw[e,lC];exact hK r s' g1 g2 g3
 have obj: ∀{x:Rt} {s':G.Z},G8 x->cY s'->OSR (eA x λ(r:G.O×Unit)=>some [yR 2 r.1,yR 0 s']) 20:=λhx ja=>by
  obtain⟨o,e,g⟩:=hx;rw[e,uU];exact .mk g ja
 rw[G9,QO];obtain rfl|rfl|rfl|rfl|rfl|rfl|rfl|rfl|rfl|rfl:a5=0∨a5=1∨a5=2∨a5=3∨a5=4∨a5=5∨a5=6∨a5=7∨a5=8∨a5=9:=by omega
 .exact obj h.n hs
 .exact obj h.t hs
 .exact seven _ λr s' g1 g2 g3=>obj (h.i r g1 g2) g3
 .exact seven _ λr s' g1 g2 g3=>obj (h.i r g1 g2) g3
 .exact obj h.q1 hs
 .exact obj h.q2 hs
 .refine three _ λr s' g1 g2 g3=>?_
  obtain⟨w,e1,l1⟩:=DE (l:=([97,98,99]:List UInt8)) (hi:=3) g1 (by omega) (by decide)
  obtain⟨w2,e2,l2⟩:=DE (l:=w) (lo:=0) (hi:=1) (by omega) (by omega) (by omega)
  show OSR (ob (slc ([97,98,99]:List UInt8) r 3) λv5=>ob (slc v5 (0:Int) (1:Int)) λv6=>pL (c 15 [yT v6]) λ(r7:G.Y×Unit)=>eA (c 68 [yR 1 r7.1]) λ(r8:G.O×Unit)=>some [yR 2 r8.1,yR 0 s']) 20
  rw[e1,cM,e2,cM,h.u,aW1];exact obj (h.sy _ (RV (by omega) (by omega))) g3
 .refine three _ λr s' g1 g2 g3=>?_
  obtain⟨w,e1,l1⟩:=DE (l:=([112,113]:List UInt8)) (lo:=0) (hi:=r) (by omega) g1 (by show r<=2;omega)
  show OSR (ob (slc ([112,113]:List UInt8) 0 r) λv10=>eA (c 69 [yT v10]) λ(r11:G.O×Unit)=>some [yR 2 r11.1,yR 0 s']) 20
  rw[e1,cM];exact obj (h.x _ (by simp only[a24,Nat.ble_eq];omega)) g3
 .exact obj h.i0 hs
 .exact obj h.i1 hs
def Ob0{L:Nat}{s:G.Z}(hs:cY s):OSR (aPE c L 0 s) 20:=by
 rw[aPE,QQ];obtain⟨r,s',e,g1,g2,g3⟩:=h.nx s 14 hs (by omega)
 rw[e,lC];show OSR (CG c L (decide ((9:Int)<r)) r 0 s' _) 20;rw[CG,QP];cases e2:decide ((9:Int)<r)with
 |true=>
  simp only[aD]at e2;obtain⟨m,rfl⟩: ∃m:Nat,r=((m+8:Nat):Int):=⟨(r-8).toNat,by omega⟩
  rw[bP,show((m+8:Nat):Int)-8=(m:Int) by omega,aBm (by omega)]
  exact YE h g3 (by omega) (by omega)
 |false=>
  simp only[bC]at e2;exact YE h g3 g1 (by omega)
def aNb{L:Nat}(h0: ∀s,cY s->OSR (c 31 [yI (0:Int),yR 0 s]) 20){b:G.O}{r:Nat}(hr:r<=3):
    ∀(j k m:Nat) (a6:List G.O) (s:G.Z),r=k+j->a6.length=k->jA a6<=21*k->j<m->cY s->OSR (yW c L m (r:Int) 1 (k:Int) a6 s b) 200:=by
 intro j;induction j with
 |zero=>
  intro k m a6 s h1 h2 h3 h4 hs;obtain⟨m,rfl⟩:=sK m 1 (by omega)
  have e3:decide ((k:Int)<(r:Int))=false:=by simp;omega
  rw[yW,HC,e3,bM]
  match a6,h2 with
  |[],_=>rw[h.l0,uU];exact .mk (by simp[QV,tW,jA,vK,sW]) hs
  |[a],h2=>rw[h.l1,uU];exact .mk (by simp[jA]at h3;simp[QV,FL,tW,jA,vK,vL,sW,vM];simp only[aM,aX]at h2;omega) hs
  |[a,d],h2=>rw[h.l2,uU];exact .mk (by simp[jA]at h3;simp[QV,FL,tW,jA,vK,vL,sW,vM];simp only[aM,aX]at h2;omega) hs
  |[a,d,e],h2=>rw[h.l3,uU];exact .mk (by simp[jA]at h3;simp[QV,FL,tW,jA,vK,vL,sW,vM];simp only[aM,aX]at h2;omega) hs
  |_::_::_::_::l,h2=>simp at h2;omega
 |succ j ih=>
  intro k m a6 s h1 h2 h3 h4 hs;obtain⟨m,rfl⟩:=sK m 1 (by omega)
  have e3:decide ((k:Int)<(r:Int))=true:=by simp;omega
  rw[yW,HC,e3,bP];obtain⟨o,s',e,g1,g2⟩:=h0 s hs;show OSR (tG (c 31 [yI (0:Int),yR 0 s]) _) 200;rw[e,uT];have e4:Nat.ble ((a6.length+([o]:List G.O).length)*112) 1073741824=true:=by
   rw[Nat.ble_eq];simp only[aM,aX];omega
  simp only[e4,fA];rw[fF (by omega)]
  have hz: ∀l:List G.O,jA (l++ [o])=jA l+(tW o+BV o)+1:=by
   intro l;induction l with
   |nil=>simp[jA]
   |cons x l ih=>simp only[aY,jA,ih];omega
  exact ih (k+1) m (a6++ [o]) s' (by omega) (by simp;omega) (by rw[hz];omega) (by omega) g2
def Ob1{L:Nat}(hL:10<=L)(h0: ∀s,cY s->OSR (c 31 [yI (0:Int),yR 0 s]) 20){s:G.Z}(hs:cY s):OSR (aPE c L 1 s) 200:=by
 rw[aPE,QQ];obtain⟨r,s',e,g1,g2,g3⟩:=h.nx s 14 hs (by omega)
 rw[e,lC];show OSR (CG c L false r 1 s' _) 200;rw[CG,QP,bM];by_cases h9:r<=9
 .exact(YE h g3 g1 h9).le (by omega)
 have wh: ∀b,OSR (zA c L true 1 s' b) 200:=λb=>by
  rw[zA,HD,bP];obtain⟨q,s2,e,k1,k2,k3⟩:=h.nx s' 4 g3 (by omega)
  rw[e,lC];obtain⟨m,rfl⟩: ∃m:Nat,q=(m:Int):=⟨q.toNat,by omega⟩
  exact aNb h h0 (by omega) m 0 L [] s2 (by omega) rfl (Nat.zero_le _) (by omega) k3
 rw[G9,QO];obtain rfl|rfl|rfl|rfl:r=10∨r=11∨r=12∨r=13:=by omega
 .exact wh _
 .exact wh _
 .exact wh _
 .have pr: ∀b,OSR (zA c L false 1 s' b) 200:=λb=>by
   rw[zA,HD,bM];obtain⟨o,s2,e,k1,k2⟩:=h0 s' g3;show OSR (tG (c 31 [yI (0:Int),yR 0 s']) _) 200;rw[e,uT];obtain⟨o2,s3,e,k3,k4⟩:=h0 s2 k2;show OSR (tG (c 31 [yI (0:Int),yR 0 s2]) _) 200;rw[e,uT,h.cn,uU];exact .mk (by simp[FL,tW,jA,vL,vM];omega) k4
  exact pr aN3
end
end Go.TV
namespace Go.TV
open Go.AI Go.PI Go.Proofs
def TSR(x:Rt)(B:Nat):Prop:= ∃(t:G.T) (s:G.Z),x=some [yR 3 t,yR 0 s]/\jV t<=B/\cY s
def TSR.mk{o:G.T}{s:G.Z}{B:Nat}(h:jV o<=B)(hs:cY s):TSR (some [yR 3 o,yR 0 s]) B:=⟨o,s,rfl,h,hs⟩
def TSR.le{x:Rt}{A B:Nat}(h:TSR x A)(hl:A<=B):TSR x B:=by obtain⟨o,s,h1,h2,h3⟩:=h;exact⟨o,s,h1,by omega,h3⟩
def eW{W:Type}{a:G.T}{K:G.T×Unit->Option W}:cL (some [yR 3 a]) K=K (a,()):=rfl
def fS{W:Type}{a:G.T}{b:G.Z}{K:G.T×G.Z×Unit->Option W}:mI (some [yR 3 a,yR 0 b]) K=K (a,b,()):=rfl
def aDG{W:Type}{a:List (List UInt8)}{K:List (List UInt8)×Unit->Option W}:fY (D:=U0.D) [.sl .str] (some [⟨.sl .str,a⟩]) K=K (a,()):=rfl
def aDF{W:Type}{a:G.Y}{K:G.Y×Unit->Option W}:pL (some [yR 1 a]) K=K (a,()):=rfl
def a1q(n:G.Y)(h:bDp n=true):LJ 1 n aN3 []=0:=by
 unfold LJ Pv;rw[h];rfl
def aBl(f:G.Y)(l:List G.T):Nat:=bif qG f&&Nat.ble l.length 8 then 0 else 1000000000
def aQy{f:G.Y}{l:List G.T}(h:qG f=true)(hl:l.length<=8):aBl f l=0:=by
 unfold aBl;rw[h,Nat.ble_eq_true_of_le hl];rfl
def a1s(n:G.Y)(l:List G.T):LJ 3 n aN3 l=aBl n l:=by
 unfold LJ Pv aBl;cases qG n<;>cases Nat.ble l.length 8<;>rfl
def xV:(∀f a,aBl f [a]=wS f)/\(∀f a b,aBl f [a,b]=wS f)/\wS ⟨dN,[110,111,116]⟩=0/\wS ⟨dN,[101,113,117,97,108]⟩=0/\wS ⟨dN,[99,111,110,115,112]⟩=0/\wS ⟨dN,[99,111,110,115]⟩=0/\wS ⟨dN,[60]⟩=0:=
 ⟨λf a=>by unfold aBl wS;cases qG f<;>rfl,λf a b=>by unfold aBl wS;cases qG f<;>rfl,rfl,rfl,rfl,rfl,rfl⟩
def a1r(o:G.O):LJ 2 ⟨[],[]⟩ o []=BV o:=by
 unfold LJ Pv BV;cases decide (o.kind=0)<;>rfl
def aBi:tW aN3=2:=rfl
def a4h(w:List UInt8)(h1:1<=w.length)(h2:w.length<=20):jV (tV w)=6:=by
 have h:LJ 1 ⟨Dr,w⟩ aN3 []=0:=a1q ⟨Dr,w⟩ (a5W h1 h2);simp only[tV,jV,eZ,h,aBi]
def mU(f:G.Y)(l:List G.T):jV (tA f l)=6+eZ l+aBl f l:=by simp only[tA,jV,a1s,aBi]
def a4i(o:G.O):jV (tC o)=4+(tW o+BV o):=by simp only[tC,jV,eZ,a1r];omega
def tsz'_app(l:List G.T)(t:G.T):eZ (l++ [t])=eZ l+jV t+1:=by
 induction l with
 |nil=>simp[eZ]
 |cons x l ih=>simp only[aY,eZ,ih];omega
section
variable{c:bU}(h:Lib c)
include h
def bAc{L:Nat}{s:G.Z}(hs:cY s):TSR (bBo c L s) 6:=by
 rw[bBo,aP1];obtain⟨r,s',e,g1,g2,g3⟩:=h.nx s 3 hs (by omega)
 rw[e,lC];obtain⟨w,e1,l1⟩:=DE (l:=([120,121,122]:List UInt8)) (hi:=3) g1 (by omega) (by decide)
 obtain⟨w2,e2,l2⟩:=DE (l:=w) (lo:=0) (hi:=1) (by omega) (by omega) (by omega)
 show TSR (ob (slc ([120,121,122]:List UInt8) r 3) λv1=>ob (slc v1 (0:Int) (1:Int)) λv2=>cL (c 13 [yT v2]) λ(r3:G.T×Unit)=>some [yR 3 r3.1,yR 0 s']) 6
 rw[e1,cM,e2,cM,h.v,eW];exact .mk (by rw[a4h _ (by omega) (by omega)];omega) g3
def aM6{L:Nat}{E:List G.E}{d:Int}{B:Nat}(hB:B<1000000)(hr: ∀s,cY s->TSR (c 22 [yS 15 E,yI (IntKind.i64.wrap (d-1)),yR 0 s]) B){f:G.Y}(hf:qG f=true){b:G.T}{r:Nat}(h3:r<=3):
    ∀(j k m:Nat) (a:List G.T) (s:G.Z),r=k+j->a.length=k->eZ a<=(B+1)*k->j<m->cY s->TSR (Fi c L m (r:Int) E d (k:Int) a s f b) (6+3*(B+1)):=by
 intro j;induction j with
 |zero=>
  intro k m a s h1 h2 h4 h5 hs;obtain⟨m,rfl⟩:=sK m 1 (by omega)
  have e3:decide ((k:Int)<(r:Int))=false:=by simp;omega
  rw[Fi,YP,e3,bM,h.a,eW];refine .mk ?_ hs;have:(B+1)*k<=(B+1)*3:=Nat.mul_le_mul_left _ (by omega)
  rw[mU,aQy hf (by omega)];omega
 |succ j ih=>
  intro k m a s h1 h2 h4 h5 hs;obtain⟨m,rfl⟩:=sK m 1 (by omega)
  have e3:decide ((k:Int)<(r:Int))=true:=by simp;omega
  obtain⟨t,s',e,g1,g2⟩:=hr s hs;rw[Fi,YP,e3,bP,e,fS];have e4:Nat.ble ((a.length+([t]:List G.T).length)*176) 1073741824=true:=by
   rw[Nat.ble_eq];simp only[aM,aX];omega
  simp only[e4,fA];rw[fF (by omega)]
  refine ih (k+1) m (a++ [t]) s' (by omega) (by simp;omega) ?_ (by omega) g2
  rw[tsz'_app,Nat.mul_add];omega
def aHo{L:Nat}(hL:10<=L){E:List G.E}{d:Int}{B:Nat}(hB:B<1000000)(hB2:204<=B)(hv: ∀s,cY s->TSR (c 23 [yR 0 s]) 6)(ho: ∀s,cY s->OSR (c 31 [yI (1:Int),yR 0 s]) 200)
    (ha: ∀f:G.Y,bAT (c 61 [yS 15 E,yR 1 f])) (hr:1<=d->∀s,cY s->TSR (c 22 [yS 15 E,yI (IntKind.i64.wrap (d-1)),yR 0 s]) B) {s:G.Z} (hs:cY s):
    TSR (bBp c L E d s) (bif decide (d<1)then 204 else 6+3*(B+1)):=by
 have lo: ∀(a7:Int) (s':G.Z) (b:G.T),a7<=3->cY s'->TSR (QL c L a7 E d s' b) 204:=λa7 s' b g1 g2=>by
  rw[QL,YQ];cases e1:decide (a7<(3:Int))with
  |true=>
   obtain⟨t,s2,e,q1,q2⟩:=hv s' g2;rw[bP,e,fS];exact .mk (by show jV t<=204;omega) q2
  |false=>
   simp only[bC]at e1;have e2:decide (a7=(3:Int))=true:=by simp;omega
   obtain⟨o,s2,e,q1,q2⟩:=ho s' g2;rw[bM,e2,bP,e,uT,h.k,eW];exact .mk (by show jV (tC o)<=204;rw[a4i];omega) q2
 obtain⟨r,s',e,g1,g2,g3⟩:=h.nx s 12 hs (by omega)
 rw[bBp,aIj,e,lC];cases e1:decide (d<(1:Int))with
 |true=>
  rw[bP,aI];show TSR (HA c L (decide ((3:Int)<r)) r E d s' _) _;rw[HA,YR];cases e2:decide ((3:Int)<r)with
  |true=>
   rw[bP,show decide ((4:Int)=0)=false by decide]
   simp only[Bool.not_false,fA];exact lo _ _ _ (by have:=Int.tmod_lt_of_pos r (b:=4) (by omega);omega) g3
  |false=>
   simp only[bC]at e2;exact lo _ _ _ (by omega) g3
 |false=>
  rw[bM,aJ];simp only[bC]at e1;show TSR (HA c L false r E d s' _) _;rw[HA,YR,bM];by_cases h4:r<=3
  .exact(lo _ _ _ h4 g3).le (by omega)
  have jn: ∀(s2:G.Z) (f:G.Y) (b:G.T),qG f=true->cY s2->TSR (YI c L E d s2 f b) (6+3*(B+1)):=λs2 f b hf k1=>by
   obtain⟨k,b2,e,k2⟩:=ha f;rw[YI,aIi,e,JI];exact aM6 h hB (hr (by omega)) hf k2 k 0 L [] s2 (by omega) rfl (Nat.zero_le _) (by omega) k1
  have e2:decide (r<(3:Int))=false:=by simp;omega
  have e3:decide (r=(3:Int))=false:=by simp;omega
  obtain⟨lh,eh,hh,nh⟩:=h.hd;obtain⟨lw,ew,hw,nw⟩:=h.ow;obtain⟨q,s2,e4,k1,k2,k3⟩:=h.nx s' 4 g3 (by omega)
  rw[QL,YQ,e2,bM,e3,bM,eh,aDG,ew,aDG,e4,lC];cases e5:decide (q<(3:Int))with
  |true=>
   obtain⟨i,s3,e6,k4,k5,k6⟩:=h.nx s2 (lh.length:Int) k3 (by omega)
   obtain⟨m,rfl⟩: ∃m:Nat,i=(m:Int):=⟨i.toNat,by omega⟩
   have hm:lh[m]?=some (lh[m]'(by omega)):=aV _
   simp only[bP];rw[e6,lC];simp only[bW,hm,cM];rw[h.s,aDF];have hz:=aDQ nh (List.getElem_mem (l:=lh) (n:=m) (by omega))
   exact jn _ _ _ (aWZ hz.1 hz.2) k6
  |false=>
   obtain⟨i,s3,e6,k4,k5,k6⟩:=h.nx s2 (lw.length:Int) k3 (by omega)
   obtain⟨m,rfl⟩: ∃m:Nat,i=(m:Int):=⟨i.toNat,by omega⟩
   have hm:lw[m]?=some (lw[m]'(by omega)):=aV _
   simp only[bM];rw[e6,lC];simp only[bW,hm,cM];rw[h.u,aDF];have hz:=aDQ nw (List.getElem_mem (l:=lw) (n:=m) (by omega))
   exact jn _ _ _ (RV hz.1 hz.2) k6
def bAy{L:Nat}{E:List G.E}{A B:Nat}(hv: ∀s,cY s->TSR (c 23 [yR 0 s]) 6)
    (h2: ∀s,cY s->TSR (c 22 [yS 15 E,yI (2:Int),yR 0 s]) A) (h1: ∀s,cY s->TSR (c 22 [yS 15 E,yI (1:Int),yR 0 s]) B) {s:G.Z} (hs:cY s):
    TSR (a3l c L E 2 s) (A+B+30):=by
 obtain⟨t,s2,e,g1,g2⟩:=h2 s hs;obtain⟨r,s3,e2,k1,k2,k3⟩:=h.nx s2 8 g2 (by omega)
 rw[a3l,YT,e,fS,e2,lC];have key: ∀(a:Bool) (b:G.T),TSR (HB c L a r E 2 s3 t b) (A+B+30):=λa b=>by
  rw[HB,YS];cases a with
  |true=>
   rw[bP,h.l,eW];exact .mk (by simp only[mU,eZ,xV];omega) k3
  |false=>
   rw[bM];cases decide (r=(2:Int))with
   |true=>
    obtain⟨t2,s4,e,q1,q2⟩:=h1 s3 k3;rw[bP];show TSR (mI (c 22 [yS 15 E,yI (1:Int),yR 0 s3]) _) _;rw[e,fS];simp only[];rw[h.l,eW];simp only[];rw[h.l,eW];exact .mk (by simp only[mU,eZ,xV];omega) q2
   |false=>
    rw[bM];cases decide (r=(3:Int))with
    |true=>
     obtain⟨t2,s4,e,q1,q2⟩:=hv s3 k3;rw[bP,e,fS];simp only[];rw[h.l,eW];simp only[];rw[h.l,eW];exact .mk (by simp only[mU,eZ,xV];omega) q2
    |false=>
     rw[bM];cases decide (r=(4:Int))with
     |true=>
      obtain⟨t2,s4,e,q1,q2⟩:=h1 s3 k3;rw[bP];show TSR (mI (c 22 [yS 15 E,yI (1:Int),yR 0 s3]) _) _;rw[e,fS];simp only[];rw[h.l,eW];exact .mk (by simp only[mU,eZ,xV];omega) q2
     |false=>
      rw[bM];cases decide (r=(5:Int))with
      |true=>
       obtain⟨t1,s4,e,q1,q2⟩:=hv s3 k3;rw[bP,e,fS];obtain⟨t2,s5,e,q3,q4⟩:=h1 s4 q2;show TSR (mI (c 22 [yS 15 E,yI (1:Int),yR 0 s4]) _) _;rw[e,fS];simp only[];rw[h.l,eW];simp only[];rw[h.l,eW];exact .mk (by simp only[mU,eZ,xV];omega) q4
      |false=>exact .mk (by omega) k3
 cases decide (r=(0:Int))with
 |true=>exact key _ _
 |false=>exact key _ _
end
end Go.TV
namespace Go.TV
open Go.AI Go.PI Go.Proofs
set_option maxRecDepth 20000
section
variable(L:Nat){E:List G.E}(hE:a3h E)
def uZ{n:Nat}(h:60<=n):Lib (bR (L+7000) n):=by
 obtain⟨m,rfl⟩: ∃m,n=m+60:=⟨n-60,by omega⟩
 exact aXy L m
def ZE{n:Nat}(h:61<=n)(s:G.Z)(hs:cY s):TSR (bR (L+7000) n 23 [yR 0 s]) 6:=by
 obtain⟨m,rfl⟩: ∃m,n=m+1:=⟨n-1,by omega⟩
 rw[c23];exact bAc (uZ L (by omega)) hs
def bDC{n:Nat}(h:61<=n)(s:G.Z)(hs:cY s):OSR (bR (L+7000) n 31 [yI (0:Int),yR 0 s]) 20:=by
 obtain⟨m,rfl⟩: ∃m,n=m+1:=⟨n-1,by omega⟩
 rw[bHI];exact Ob0 (uZ L (by omega)) hs
def aK4{n:Nat}(h:62<=n)(s:G.Z)(hs:cY s):OSR (bR (L+7000) n 31 [yI (1:Int),yR 0 s]) 200:=by
 obtain⟨m,rfl⟩: ∃m,n=m+1:=⟨n-1,by omega⟩
 rw[bHI];exact Ob1 (uZ L (by omega)) (by omega) (bDC L (by omega)) hs
include hE
def a1z{n:Nat}(h:4<=n)(f:G.Y):bAT (bR (L+7000) n 61 [yS 15 E,yR 1 f]):=by
 obtain⟨m,rfl⟩: ∃m,n=m+4:=⟨n-4,by omega⟩
 exact bAS hE f (by omega)
def a4k{n:Nat}(h:63<=n)(s:G.Z)(hs:cY s):TSR (bR (L+7000) n 22 [yS 15 E,yI (0:Int),yR 0 s]) 204:=by
 obtain⟨m,rfl⟩: ∃m,n=m+1:=⟨n-1,by omega⟩
 rw[bHK];exact aHo (uZ L (by omega)) (by omega) (B:=204) (by omega) (by omega) (ZE L (by omega)) (aK4 L (by omega)) (a1z L hE (by omega)) (λh=>by omega) hs
def aJ1{n:Nat}(h:64<=n)(s:G.Z)(hs:cY s):TSR (bR (L+7000) n 22 [yS 15 E,yI (1:Int),yR 0 s]) 621:=by
 obtain⟨m,rfl⟩: ∃m,n=m+1:=⟨n-1,by omega⟩
 rw[bHK];exact aHo (uZ L (by omega)) (by omega) (B:=204) (by omega) (by omega) (ZE L (by omega)) (aK4 L (by omega)) (a1z L hE (by omega)) (λ_=>a4k L hE (by omega)) hs
def a4j{n:Nat}(h:65<=n)(s:G.Z)(hs:cY s):TSR (bR (L+7000) n 22 [yS 15 E,yI (2:Int),yR 0 s]) 1872:=by
 obtain⟨m,rfl⟩: ∃m,n=m+1:=⟨n-1,by omega⟩
 rw[bHK];exact aHo (uZ L (by omega)) (by omega) (B:=621) (by omega) (by omega) (ZE L (by omega)) (aK4 L (by omega)) (a1z L hE (by omega)) (λ_=>aJ1 L hE (by omega)) hs
def bDM{n:Nat}(h:66<=n)(s:G.Z)(hs:cY s):TSR (bR (L+7000) n 21 [yS 15 E,yI (2:Int),yR 0 s]) 2523:=by
 obtain⟨m,rfl⟩: ∃m,n=m+1:=⟨n-1,by omega⟩
 rw[bJm];exact bAy (uZ L (by omega)) (ZE L (by omega)) (a4j L hE (by omega)) (aJ1 L hE (by omega)) hs
end
def aR8{E:List G.E}(h:aR9 E=true):a3h E:=by
 simp only[aR9,aBe,aC,bJ]at h;exact⟨bK h.1.2,λe he=>bK (h.2 e he).1,λe he f hf=>bK (((h.2 e he).2 f hf).1)⟩
end Go.TV
namespace Go.TV
open Go.AI Go.PI Go.Proofs
set_option maxRecDepth 20000
def aKO{s:G.Y}(h:qG s=true):s.package.length<=900/\s.name.length<=900:=by
 unfold qG at h;simp only[aC,Bool.or_eq_true,aD,Nat.ble_eq]at h;refine⟨?_,by omega⟩
 rcases h.1.1 with e|e<;>rw[e]<;>decide
def a5Y{n d:gH}(h:bDq n d=true):n.length<=900/\d.length<=900:=by
 unfold bDq at h;rw[List.any_eq_true]at h;obtain⟨p,hp,h⟩:=h;simp only[aC,aD]at h;have all:numL.all (λp=>Nat.ble p.1.length 900&&Nat.ble p.2.length 900)=true:=by decide
 have:=bJ.1 all p hp;simp only[aC,Nat.ble_eq]at this;rw[h.1,h.2];exact this
def aN8: ∀o:G.O,tW o<1000000000->vO o:=wF λk n d s t l ih h=>by
 have h2:=RW h;simp only[tW]at h;simp only[G.O.kind,G.O.num,G.O.den,G.O.sym,G.O.text,G.O.pair,aJA,Bool.or_eq_true,aC,List.isEmpty_iff]at h2;have mem: ∀{l:List G.O},jA l<1000000000->∀o∈l,tW o<1000000000:=by
  intro l;induction l with
  |nil=>intro _ o ho;cases ho
  |cons x l ih=>
   intro hl o ho;simp only[jA]at hl;rcases List.mem_cons.1 ho with rfl|ho
   .omega
   .exact ih (by omega) o ho
 show bO 900 _=true;rw[lJ];rcases h2 with(((⟨⟨⟨⟨⟨a1,a2⟩,a3⟩,a4⟩,a5⟩,a6⟩|⟨⟨⟨⟨a1,a2⟩,a3⟩,a4⟩,a5⟩)|⟨⟨⟨⟨⟨a1,a2⟩,a3⟩,a4⟩,a5⟩,a6⟩)|⟨⟨⟨⟨⟨a1,a2⟩,a3⟩,a4⟩,a5⟩,a6⟩)|⟨⟨⟨⟨⟨a1,a2⟩,a3⟩,a4⟩,a5⟩,a6⟩
 .have b1:=of_decide_eq_true a1;have b4:=of_decide_eq_true a4;subst b1 a2 a3 b4 a5 a6;exact⟨Nat.zero_le _,Nat.zero_le _,Nat.zero_le _,Nat.zero_le _,Nat.zero_le _,Nat.zero_le _,rfl⟩
 .have:=a5Y a2;have b1:=of_decide_eq_true a1;have b3:=of_decide_eq_true a3;subst b1 b3 a4 a5;exact⟨this.1,this.2,Nat.zero_le _,Nat.zero_le _,Nat.zero_le _,Nat.zero_le _,rfl⟩
 .have:=aKO a2;have b1:=of_decide_eq_true a1;subst b1 a3 a4 a5 a6;exact⟨Nat.zero_le _,Nat.zero_le _,this.1,this.2,Nat.zero_le _,Nat.zero_le _,rfl⟩
 .have:t.length<=10:=by simpa [a24,Nat.ble_eq]using a2
  have b1:=of_decide_eq_true a1;have b5:=of_decide_eq_true a5;subst b1 a3 a4 b5 a6;exact⟨Nat.zero_le _,Nat.zero_le _,Nat.zero_le _,Nat.zero_le _,show t.length<=_ by omega,Nat.zero_le _,rfl⟩
 .have b1:=of_decide_eq_true a1;have b4:=of_decide_eq_true a4;have b6:=of_decide_eq_true a6;subst b1 a2 a3 b4 a5;have hp:SQ 900 l=true:=bO'_of λo ho=>ih o ho (mem (by omega) o ho)
  exact⟨Nat.zero_le _,Nat.zero_le _,Nat.zero_le _,Nat.zero_le _,Nat.zero_le _,show l.length<=2 by omega,by show(SQ 900 l&&true)=true;rw[hp];rfl⟩
def aBM: ∀t:G.T,jV t<1000000000->tO t=true:=C3 λk n v l ih h=>by
 have h2:=Xd h;have hl:=oH l;simp only[jV]at h;have len:l.length<=1000:=by
  simp only[G.T.kind,G.T.name,G.T.value,G.T.args,Pv,Bool.or_eq_true,aC,List.isEmpty_iff,Nat.ble_eq]at h2;rcases h2 with(h2|h2)|h2
  .rw[h2.2];exact Nat.zero_le _
  .rw[h2.1.2];exact Nat.zero_le _
  .omega
 rw[Re];refine⟨aN8 v (by omega),len,?_⟩
 have go: ∀(q:List G.T),(∀t∈q,t∈l)->aJ0 q=true:=by
  intro q;induction q with
  |nil=>exact λ_=>rfl
  |cons x q ihq=>
   intro hq;have hx:=hq x (aH ..);have:=mM hx;simp only[aJ0,aC];exact⟨ih x hx (by omega),ihq λt ht=>hq t (aG _ ht)⟩
 exact go l λ_ h=>h
section
variable{c:bU}(h:Lib c)
include h
def aHt{L:Nat}(h0: ∀s,cY s->OSR (c 31 [⟨.int .i64,(1:Int)⟩,⟨.rc 0,s⟩]) 200){b:G.O}{r:Nat}(hr:r<=3):
    ∀(j k m:Nat) (a6:List G.O) (s:G.Z),r=k+j->a6.length=k->jA a6<=201*k->j<m->cY s->OSR (yW c L m (r:Int) 2 (k:Int) a6 s b) 2000:=by
 intro j;induction j with
 |zero=>
  intro k m a6 s h1 h2 h3 h4 hs;obtain⟨m,rfl⟩: ∃m',m=m'+1:=⟨m-1,by omega⟩
  have e3:decide ((k:Int)<(r:Int))=false:=by simp;omega
  rw[yW,HC,e3,bM]
  match a6,h2 with
  |[],_=>rw[h.l0,uU];exact .mk (by simp[QV,tW,jA,vK,sW]) hs
  |[a],h2=>rw[h.l1,uU];exact .mk (by simp[jA]at h3;simp[QV,FL,tW,jA,vK,vL,sW,vM];simp only[aM,aX]at h2;omega) hs
  |[a,d],h2=>rw[h.l2,uU];exact .mk (by simp[jA]at h3;simp[QV,FL,tW,jA,vK,vL,sW,vM];simp only[aM,aX]at h2;omega) hs
  |[a,d,e],h2=>rw[h.l3,uU];exact .mk (by simp[jA]at h3;simp[QV,FL,tW,jA,vK,vL,sW,vM];simp only[aM,aX]at h2;omega) hs
  |_::_::_::_::l,h2=>simp at h2;omega
 |succ j ih=>
  intro k m a6 s h1 h2 h3 h4 hs;obtain⟨m,rfl⟩: ∃m',m=m'+1:=⟨m-1,by omega⟩
  have e3:decide ((k:Int)<(r:Int))=true:=by simp;omega
  rw[yW,HC,e3,bP];obtain⟨o,s',e,g1,g2⟩:=h0 s hs;show OSR (tG (c 31 [⟨.int .i64,(1:Int)⟩,⟨.rc 0,s⟩]) _) 2000;rw[e,uT];have e4:Nat.ble ((a6.length+([o]:List G.O).length)*112) 1073741824=true:=by
   rw[Nat.ble_eq];simp only[aM,aX];omega
  simp only[e4,fA];rw[fF (by omega)]
  have hz: ∀l:List G.O,jA (l++ [o])=jA l+(tW o+BV o)+1:=by
   intro l;induction l with
   |nil=>simp[jA]
   |cons x l ih=>simp only[aY,jA,ih];omega
  exact ih (k+1) m (a6++ [o]) s' (by omega) (by simp;omega) (by rw[hz];omega) (by omega) g2
def Ob2{L:Nat}(hL:10<=L)(h0: ∀s,cY s->OSR (c 31 [⟨.int .i64,(1:Int)⟩,⟨.rc 0,s⟩]) 200){s:G.Z}(hs:cY s):OSR (aPE c L 2 s) 2000:=by
 rw[aPE,QQ];obtain⟨r,s',e,g1,g2,g3⟩:=h.nx s 14 hs (by omega)
 rw[e,lC];show OSR (CG c L false r 2 s' _) 2000;rw[CG,QP,bM];by_cases h9:r<=9
 .exact(YE h g3 g1 h9).le (by omega)
 have wh: ∀b,OSR (zA c L true 2 s' b) 2000:=λb=>by
  rw[zA,HD,bP];obtain⟨q,s2,e,k1,k2,k3⟩:=h.nx s' 4 g3 (by omega)
  rw[e,lC];obtain⟨m,rfl⟩: ∃m:Nat,q=(m:Int):=⟨q.toNat,by omega⟩
  exact aHt h h0 (by omega) m 0 L [] s2 (by omega) rfl (Nat.zero_le _) (by omega) k3
 rw[G9,QO];obtain rfl|rfl|rfl|rfl:r=10∨r=11∨r=12∨r=13:=by omega
 .exact wh _
 .exact wh _
 .exact wh _
 .have pr: ∀b,OSR (zA c L false 2 s' b) 2000:=λb=>by
   rw[zA,HD,bM];obtain⟨o,s2,e,k1,k2⟩:=h0 s' g3;show OSR (tG (c 31 [⟨.int .i64,(1:Int)⟩,⟨.rc 0,s'⟩]) _) 2000;rw[e,uT];obtain⟨o2,s3,e,k3,k4⟩:=h0 s2 k2;show OSR (tG (c 31 [⟨.int .i64,(1:Int)⟩,⟨.rc 0,s2⟩]) _) 2000;rw[e,uT,h.cn,uU];exact .mk (by simp[FL,tW,jA,vL,vM];omega) k4
  exact pr aN3
end
def bDB(L:Nat){n:Nat}(h:63<=n)(s:G.Z)(hs:cY s):OSR (bR (L+7000) n 31 [⟨.int .i64,(2:Int)⟩,⟨.rc 0,s⟩]) 2000:=by
 obtain⟨m,rfl⟩: ∃m,n=m+1:=⟨n-1,by omega⟩
 rw[bHI];exact Ob2 (uZ L (by omega)) (by omega) (aK4 L (by omega)) hs
def envN:List gH:=[[120],[121],[122],[110]]
def aLE{c:bU}(h:Lib c){L:Nat}(ho: ∀s,cY s->OSR (c 31 [⟨.int .i64,(2:Int)⟩,⟨.rc 0,s⟩]) 2000): ∀(l:List gH) (k m:Nat) (acc:qQ) (s:G.Z),envN.drop k=l->l.length<m->k<=4->acc.length=k->(∀b∈acc,vO b.value)->cY s->
    ∃(e:qQ) (s':G.Z),Fj c L m (4:Int) envN (k:Int) acc s=some [⟨.sl (.rc 17),e⟩,⟨.rc 0,s'⟩]/\(∀b∈e,vO b.value)/\e.length=4:=by
 intro l;induction l with
 |nil=>
  intro k m acc s h1 h2 h3 h4 h5 h6;obtain⟨m,rfl⟩: ∃m',m=m'+1:=⟨m-1,by simp at h2;omega⟩
  have e1:=dH h1;have e2:envN.length=4:=rfl;exact⟨acc,s,by rw[Fj,YW,bG (by omega: ¬(k:Int)<4),bM],h5,by omega⟩
 |cons x l ih=>
  intro k m acc s h1 h2 h3 h4 h5 h6;obtain⟨m,rfl⟩: ∃m',m=m'+1:=⟨m-1,by simp at h2;omega⟩
  obtain⟨a1,a2,a3⟩:=dL h1;have e2:envN.length=4:=rfl;obtain⟨o,s',e,g1,g2⟩:=ho s h6;have i1:dE envN (k:Int)=some x:=(bW _ k).trans a1;have bl:Nat.ble ((acc.length+List.length ([(G.S.mk ⟨Dr,x⟩ o)]:qQ))*144) 1073741824=true:=by rw[Nat.ble_eq];simp;omega
  obtain⟨q,q',r1,r2,r3⟩:=ih (k+1) m (acc++ [⟨⟨Dr,x⟩,o⟩]) s' a3 (by simp at h2;omega) (by omega) (by simp[h4]) (λb hb=>by
   rcases List.mem_append.1 hb with hb|hb
   .exact h5 b hb
   .rw[List.mem_singleton]at hb;subst hb;exact aN8 o (by omega)) g2
  refine⟨q,q',?_,r2,r3⟩;rw[Fj,YW,bF (by omega:(k:Int)<4),bP,i1,cM,h.u,Xf]
  simp only[];rw[e,uT];simp only[];rw[bl,fA,fF (by omega)]
  exact r1
def a8K(L:Nat){n:Nat}(h:64<=n)(s:G.Z)(hs:cY s): ∃(e:qQ) (s':G.Z),bR (L+7000) n 10 [⟨.rc 0,s⟩]=some [⟨.sl (.rc 17),e⟩,⟨.rc 0,s'⟩]/\(∀b∈e,vO b.value)/\e.length=4:=by
 obtain⟨m,rfl⟩: ∃m,n=m+1:=⟨n-1,by omega⟩
 rw[c10];exact aLE (uZ L (by omega)) (bDB L (by omega)) envN 0 (L+7000) [] s rfl (by show 4<_;omega) (by omega) rfl (λb hb=>by cases hb) hs
end Go.TV
namespace Go.TV
open Go.AI Go.PI Go.Proofs
set_option maxRecDepth 20000
def bDK(r:Rt):Bool:=match r with|some [⟨.sl (.rc 16),l⟩]=>Nat.ble 1 l.length&&Nat.ble l.length 500&&l.all λx=>Nat.ble (jV x.formula) 1000|_=>false
def aXx{r:Rt}(h:bDK r=true): ∃l:List G.L,r=some [yS 16 l]/\(1<=l.length/\l.length<=500)/\∀x∈l,jV x.formula<=1000:=by
 unfold bDK at h;split at h
 .rename_i l;simp only[aC,Nat.ble_eq,bJ]at h;exact⟨l,rfl,h.1,h.2⟩
 .cases h
def lmW(L M:Nat):bDK (cD L M 59 19 [])=true:=by kernel_rfl
def bDJ(L:Nat){n:Nat}(h:158<=n): ∃l:List G.L,bR (L+7000) n 19 []=some [yS 16 l]/\(1<=l.length/\l.length<=500)/\∀x∈l,jV x.formula<=1000:=by
 obtain⟨m,rfl⟩: ∃m,n=m+158:=⟨n-158,by omega⟩
 have h1:=aXx (lmW L m);rw[Qq,show m+99+59=m+158 by omega]at h1
 exact h1
def aW9{W:Type}{l:List G.L}{K:List G.L×Unit->Option W}:fY (D:=U0.D) [.sl (.rc 16)] (some [yS 16 l]) K=K (l,()):=rfl
def Dj:(∀f a b d,aBl f [a,b,d]=wS f)/\wS ⟨dN,[105,110,116,101,103,101,114,112]⟩=0/\wS ⟨dN,[105,102]⟩=0/\wS ⟨dN,[105,109,112,108,105,101,115]⟩=0:=⟨λf a b d=>by unfold aBl wS;cases qG f<;>rfl,rfl,rfl,rfl⟩
section
variable{c:bU}(h:Lib c)
include h
def a1Y{L:Nat}{E:List G.E}{A B:Nat}(hv: ∀s,cY s->TSR (c 23 [yR 0 s]) 6)
    (h2: ∀s,cY s->TSR (c 22 [yS 15 E,yI (1:Int),yR 0 s]) A) (h1: ∀s,cY s->TSR (c 22 [yS 15 E,yI (0:Int),yR 0 s]) B) {s:G.Z} (hs:cY s):
    TSR (a3l c L E 1 s) (A+B+30):=by
 obtain⟨t,s2,e,g1,g2⟩:=h2 s hs;obtain⟨r,s3,e2,k1,k2,k3⟩:=h.nx s2 8 g2 (by omega)
 rw[a3l,YT,e,fS,e2,lC];have key: ∀(a:Bool) (b:G.T),TSR (HB c L a r E 1 s3 t b) (A+B+30):=λa b=>by
  rw[HB,YS];cases a with
  |true=>
   rw[bP,h.l,eW];exact .mk (by simp only[mU,eZ,xV,Dj];omega) k3
  |false=>
   rw[bM];cases decide (r=(2:Int))with
   |true=>
    obtain⟨t2,s4,e,q1,q2⟩:=h1 s3 k3;rw[bP];show TSR (mI (c 22 [yS 15 E,yI (0:Int),yR 0 s3]) _) _;rw[e,fS];simp only[];rw[h.l,eW];simp only[];rw[h.l,eW];exact .mk (by simp only[mU,eZ,xV,Dj];omega) q2
   |false=>
    rw[bM];cases decide (r=(3:Int))with
    |true=>
     obtain⟨t2,s4,e,q1,q2⟩:=hv s3 k3;rw[bP,e,fS];simp only[];rw[h.l,eW];simp only[];rw[h.l,eW];exact .mk (by simp only[mU,eZ,xV,Dj];omega) q2
    |false=>
     rw[bM];cases decide (r=(4:Int))with
     |true=>
      obtain⟨t2,s4,e,q1,q2⟩:=h1 s3 k3;rw[bP];show TSR (mI (c 22 [yS 15 E,yI (0:Int),yR 0 s3]) _) _;rw[e,fS];simp only[];rw[h.l,eW];exact .mk (by simp only[mU,eZ,xV,Dj];omega) q2
     |false=>
      rw[bM];cases decide (r=(5:Int))with
      |true=>
       obtain⟨t1,s4,e,q1,q2⟩:=hv s3 k3;rw[bP,e,fS];obtain⟨t2,s5,e,q3,q4⟩:=h1 s4 q2;show TSR (mI (c 22 [yS 15 E,yI (0:Int),yR 0 s4]) _) _;rw[e,fS];simp only[];rw[h.l,eW];simp only[];rw[h.l,eW];exact .mk (by simp only[mU,eZ,xV,Dj];omega) q4
      |false=>exact .mk (by omega) k3
 cases decide (r=(0:Int))with
 |true=>exact key _ _
 |false=>exact key _ _
end
def a6J(L:Nat){E:List G.E}(hE:a3h E){n:Nat}(h:66<=n)(s:G.Z)(hs:cY s):TSR (bR (L+7000) n 21 [yS 15 E,yI (1:Int),yR 0 s]) 855:=by
 obtain⟨m,rfl⟩: ∃m,n=m+1:=⟨n-1,by omega⟩
 rw[bJm];exact a1Y (uZ L (by omega)) (ZE L (by omega)) (aJ1 L hE (by omega)) (a4k L hE (by omega)) hs
def nlD(L M:Nat):cD L M 59 24 []=some [yR 3 nlT]:=by kernel_rfl
def bDE(L:Nat){n:Nat}(h:158<=n):bR (L+7000) n 24 []=some [yR 3 nlT]:=by
 obtain⟨m,rfl⟩: ∃m,n=m+158:=⟨n-158,by omega⟩
 have h1:=nlD L m;rw[Qq,show m+99+59=m+158 by omega]at h1
 exact h1
def AB{W:Type}{i:Int}{s:G.Z}{K:Int×G.Z×Unit->Option W}:rB (some [yI i,yR 0 s]) K=K (i,s,()):=rfl
structure bJp(c:bU)(E:List G.E):Prop where
 h:Lib c
 lm: ∃l:List G.L,c 19 []=some [yS 16 l]/\(1<=l.length/\l.length<=500)/\∀x∈l,jV x.formula<=1000
 nl:c 24 []=some [yR 3 nlT]
 l2: ∀s,cY s->TSR (c 21 [yS 15 E,yI (2:Int),yR 0 s]) 2523
 l1: ∀s,cY s->TSR (c 21 [yS 15 E,yI (1:Int),yR 0 s]) 855
 t2: ∀s,cY s->TSR (c 22 [yS 15 E,yI (2:Int),yR 0 s]) 1872
 t1: ∀s,cY s->TSR (c 22 [yS 15 E,yI (1:Int),yR 0 s]) 621
 v: ∀s,cY s->TSR (c 23 [yR 0 s]) 6
def aXh:jV nlT<=20:=by decide
def Xv{c:bU}{E:List G.E}(C:bJp c E){L:Nat}{z:G.T}{r:Int}(hr:r<=10): ∀(q:Nat) (i:Int) (m:Nat) (s:G.Z) (t:G.T) (B:Nat),0<=i->r=i+q->q<=2->q<m->cY s->jV t<=B->
    TSR (QF c L m r E i s t z) (B+q*1800)
 |0,i,m,s,t,B,h0,h1,_,h3,hs,ht=>by
  obtain⟨m,rfl⟩:=sK m 1 (by omega)
  rw[QF,aN0,bG (by omega: ¬i<r),bM]
  exact .mk (by omega) hs
 |q+1,i,m,s,t,B,h0,h1,h2,h3,hs,ht=>by
  obtain⟨m,rfl⟩:=sK m 1 (by omega)
  obtain⟨a,s1,e1,b1,g1⟩:=C.l1 s hs;obtain⟨x,s2,e2,k1,k2,g2⟩:=C.h.nx s1 2 g1 (by omega)
  have st: ∀(a:G.T) (s:G.Z),cY s->jV a<=1745->TSR (aNc c L (QF c L m) i r E s a t z) (B+(q+1)*1800):=λa s hs ha=>by
   simp only[aNc,a2F];rw[C.h.l,eW];simp only[];rw[show IntKind.i64.wrap (i+1)=i+1 from by
    obtain⟨j,rfl⟩: ∃j:Nat,i=(j:Int):=⟨i.toNat,by omega⟩
    exact(fF (by omega)).trans (by omega)]
   exact(Xv C hr q (i+1) m s _ (B+1800) (by omega) (by omega) (by omega) (by omega) hs (by simp only[mU,eZ,xV,Dj];omega)).le (by omega)
  rw[QF,aN0,bF (by omega:i<r),bP,e1,fS,e2,AB]
  simp only[];cases decide (x=(0:Int))with
  |true=>
   obtain⟨b,s3,e3,b3,g3⟩:=C.l1 s2 g2;have hz:=aXh;rw[bP,e3,fS];simp only[];rw[C.nl,eW];simp only[];rw[C.h.l,eW];exact st _ _ g3 (by simp only[mU,eZ,xV,Dj];omega)
  |false=>
   rw[bM];exact st _ _ g2 (by omega)
def a8I{c:bU}{E:List G.E}(C:bJp c E){L:Nat}(hL:10<=L){s:G.Z}(hs:cY s):TSR (F3 c L E s) 7000:=by
 obtain⟨l,e0,⟨l1,l2⟩,hl⟩:=C.lm;have hw:IntKind.i64.wrap ((2:Int)*(l.length:Int))=((2*l.length:Nat):Int):=by
  have:=fF (k:=2*l.length-1) (by omega)
  rw[show(((2*l.length-1:Nat):Int)+1)=(2:Int)*(l.length:Int) by omega]at this
  rw[this];omega
 obtain⟨r,s1,e1,k1,k2,g1⟩:=C.h.nx s ((2*l.length:Nat):Int) hs (by omega)
 have fin: ∀(t:G.T) (s:G.Z),cY s->jV t<=3200->TSR (aNd c L E s t bA5) 7000:=λt s hs ht=>by
  simp only[aNd,a2H];obtain⟨x,s2,e2,q1,q2,g2⟩:=C.h.nx s 3 hs (by omega)
  rw[e2,AB];simp only[];have h9:x.toNat<=2:=by omega
  have h8:=Nat.mul_le_mul_right 1800 h9;exact(Xv C (L:=L) (r:=x) (by omega) x.toNat 0 L s2 t 3200 (by omega) (by omega) (by omega) (by omega) g2 ht).le (by omega)
 have pre: ∀(b:Bool) (t:G.T) (s:G.Z),cY s->jV t<=1000->(b=true->1<t.args.length)->TSR (aNe c L b s t bA5) 7000:=λb t s hs ht hb=>by
  simp only[aNe,a2I,a14,a2G];cases b with
  |false=>rw[bM];exact .mk (by omega) hs
  |true=>
   obtain⟨u,eu,su⟩:=BX (t:=t) (k:=1) (hb rfl);have iu:dE t.args (1:Int)=some u:=(bW t.args 1).trans eu;rw[bP,iu,cM];exact .mk (by omega) hs
 rw[F3,a2J,e0,aW9];simp only[];rw[hw,e1,AB];simp only[];cases hr:decide (r<(l.length:Int))with
 |true=>
  have hr:=of_decide_eq_true hr;obtain⟨j,rfl⟩: ∃j:Nat,r=(j:Int):=⟨r.toNat,by omega⟩
  have hj:l[j]?=some l[j]:=aV (by omega)
  have ci:=hl l[j] (List.getElem_mem (by omega))
  obtain⟨x,s2,e2,q1,q2,g2⟩:=C.h.nx s1 4 g1 (by omega)
  rw[bP,bW,hj,cM,e2,AB];simp only[];cases decide (x=(0:Int))with
  |true=>rw[bP];exact pre _ _ _ g2 ci (λh=>by have:=of_decide_eq_true h;omega)
  |false=>rw[bM];exact pre _ _ _ g2 ci (λh=>by cases h)
 |false=>
  obtain⟨t,s2,e2,b2,g2⟩:=C.l2 s1 g1;obtain⟨x,s3,e3,q1,q2,g3⟩:=C.h.nx s2 6 g2 (by omega)
  rw[bM,e2,fS];simp only[];rw[e3,AB];simp only[];cases decide (x=(0:Int))with
  |true=>
   obtain⟨a,s4,e4,b4,g4⟩:=C.t2 s3 g3;obtain⟨b,s5,e5,b5,g5⟩:=C.t1 s4 g4;rw[bP,e4,fS];simp only[];rw[e5,fS];simp only[];rw[C.h.l,eW];exact fin _ _ g5 (by simp only[mU,eZ,xV,Dj];omega)
  |false=>
   rw[bM];cases decide (x=(1:Int))with
   |true=>
    obtain⟨a,s4,e4,b4,g4⟩:=C.t2 s3 g3;rw[bP,e4,fS];simp only[];rw[C.h.l,eW];exact fin _ _ g4 (by simp only[mU,eZ,xV,Dj];omega)
   |false=>
    rw[bM];cases decide (x=(2:Int))with
    |true=>
     obtain⟨a,s4,e4,b4,g4⟩:=C.t2 s3 g3;obtain⟨b,s5,e5,b5,g5⟩:=C.t1 s4 g4;rw[bP,e4,fS];simp only[];rw[e5,fS];simp only[];rw[C.h.l,eW];simp only[];rw[C.h.l,eW];exact fin _ _ g5 (by simp only[mU,eZ,xV,Dj];omega)
    |false=>
     rw[bM];cases decide (x=(3:Int))with
     |true=>
      obtain⟨a,s4,e4,b4,g4⟩:=C.t1 s3 g3;obtain⟨b,s5,e5,b5,g5⟩:=C.t1 s4 g4;obtain⟨d,s6,e6,b6,g6⟩:=C.v s5 g5;rw[bP,e4,fS];simp only[];rw[e5,fS];simp only[];rw[C.h.l,eW];simp only[];rw[e6,fS];simp only[];rw[C.h.l,eW];exact fin _ _ g6 (by simp only[mU,eZ,xV,Dj];omega)
     |false=>rw[bM];exact fin _ _ g3 (by omega)
def bGg(L:Nat){E:List G.E}(hE:a3h E){n:Nat}(h:159<=n)(s:G.Z)(hs:cY s):TSR (bR (L+7000) n 3 [yS 15 E,yR 0 s]) 7000:=by
 obtain⟨m,rfl⟩: ∃m,n=m+1:=⟨n-1,by omega⟩
 rw[c3];exact a8I ⟨uZ L (by omega),bDJ L (by omega),bDE L (by omega),bDM L hE (by omega),a6J L hE (by omega),a4j L hE (by omega),aJ1 L hE (by omega),ZE L (by omega)⟩ (by omega) hs
end Go.TV
namespace Go.TV
open Go.AI Go.PI Go.Proofs
def aA7{c:bU}{L:Nat}{a b:List G.T}(hl:a.length=b.length)(hb:a.length<1000000000): ∀(l r:List G.T) (k m:Nat),a.drop k=l->b.drop k=r->l.length<m->
    (∀x,x∈l->∀y,c 7 (a4e x y)=some (bb (decide (x=y))))->Up c L m a b (k:Int)=some (bb (decide (l=r))):=by
 intro l;induction l with
 |nil=>
  intro r k m h1 h2 h3 _;obtain⟨m,rfl⟩:=sK m 1 (by simp at h3;omega)
  have e1:=dH h1;have e2:r=[]:=by rw[<-h2];exact List.drop_eq_nil_of_le (by omega)
  have e3:decide ((k:Int)<(a.length:Int))=false:=by simp;omega
  rw[Up,aNZ,e3,e2];simp only[bM,decide_true];rfl
 |cons x l ih=>
  intro r k m h1 h2 h3 hc;obtain⟨m,rfl⟩:=sK m 1 (by simp at h3;omega)
  obtain⟨a1,a2,a3⟩:=dL h1;cases r with
  |nil=>have:=dH h2;omega
  |cons y r=>
   obtain⟨b1,b2,b3⟩:=dL h2;have e3:decide ((k:Int)<(a.length:Int))=true:=by simp;omega
   have me:c 7 [yR 3 x,yR 3 y]=some [yB (decide (x=y))]:=hc x (aH ..) y;rw[Up,aNZ,e3,bP,bW,bW,a1,b1,cM,cM,me,jY,fF (by omega)]
   by_cases e:x=y
   .subst e;simp only[decide_true,bD,bM];rw[ih r (k+1) m a3 b3 (by simp at h3;omega) λz hz=>hc z (aG _ hz)]
    simp
   .simp only[e,decide_false,Bool.not_false,bP];simp[e,bb]
def aM9{a b:List G.T}{L n:Nat}(hw:eZ a<1000000000)(hL:eZ a<L)(hn:eZ a<n):bR L n 6 (bDL a b)=some (bb (decide (a=b))):=by
 have hlen:=oH a;obtain⟨n,rfl⟩:=sK n 1 (by omega)
 show bR L (n+1) 6 [yS 3 _,yS 3 _]=_;rw[c6];simp only[F6,a2C];by_cases e6:(a.length:Int)=(b.length:Int)
 .simp only[e6,decide_true,bD,bM];exact aA7 (c:=bR L n) (L:=L) (by omega) (by omega) a b 0 L rfl rfl (by omega) λx hx y=>UN x (by have:=mM hx;simp only[a3F];omega) y L n (by have:=mM hx;omega) (by have:=mM hx;omega)
 .have e7: ¬a=b:=λh=>e6 (by rw[h])
  simp[e6,e7,bS,bb]
end Go.TV
namespace Go.AI
section
variable{P:Program}
def Qp(aw:FuncId)(c0:FuncId->Array Value->St->Option (Value×St))(f:FuncId)(args:Array Value)(H:St):Option (Value×St):=
 bif Nat.beq f aw then(match args.toList with
 |[]=>some (.bool true,H)
 |_=>none)else c0 f args H
def aFD{w0:W0}{aw:FuncId}{c0:FuncId->Array Value->St->Option (Value×St)}(h0:CallOK w0 P c0)
    (ha : ∀ w, Kept w0.toWorld w → (∃ fn c, P.funcs[aw]? = some fn ∧ fn.body = some c ∧ (fn.name == "runtime.NumGoroutine") = false) ∧ Calls P aw #[] w fun e w' => e = .returned (.bool true) ∧ Kept w w') : CallOK w0 P (Qp aw c0) := by
 intro f args args' H H' w Y r h ρ hargs;unfold Qp at h;cases hf:Nat.beq f aw with
 |false=>rw[hf]at h;exact h0 f args args' H H' w Y r h ρ hargs
 |true=>
  rw[hf,aI]at h;rw[aE hf];split at h
  .rename_i he;simp only[aA,aB]at h;obtain⟨rfl,rfl⟩:=h;rw[he]at hargs;have q3:args'= #[]:=by rw[<-Array.toArray_toList (xs:=args'),hargs.nil_inv]
   subst q3;obtain⟨g1,g2⟩:=ha w ρ.kept.toKept;exact⟨g1,g2.mono λe w' ⟨h5,h6⟩=>⟨Y,_,h5,.same _ rfl,ρ.keep h6,.refl _ _,aS _⟩⟩
  .cases h
end
end Go.AI
namespace Go.PI
open Go.AI
def BT(aw:FuncId)(pc:gT):gT:=λf args p=>
 bif Nat.beq f aw then(match args with
 |[]=>some (.v (.bool true),false,p)
 |_=>none)else pc f args p
def aAM{aw:FuncId}{pc:gT}{ac:FuncId->Array Value->St->Option (Value×St)}(h0:lP pc ac):lP (BT aw pc) (Qp aw ac):=by
 intro g args p v own p' h J I H us M r ho;unfold BT at h;unfold Qp;cases hf:Nat.beq g aw with
 |false=>rw[hf]at h;exact h0 g args p v own p' h J I H us M r ho
 |true=>
  rw[hf,aI]at h;simp only[aI];split at h
  .simp only[aA,aB]at h;obtain⟨rfl,rfl,rfl⟩:=h;have hu:us.toList=[]:=List.length_eq_zero_iff.1 (by have:=r.1;simpa using this.symm)
   rw[hu];exact⟨_,H,J,I,rfl,R.v _ rfl,λh=>(by cases h),M,Adv.refl J I p H,λj _ h=>h⟩
  .cases h
end Go.PI
namespace Go.TV
open Go.AI Go.PI
section
variable{U:hY}{T:TP U.D}
def bH9(aw:FuncId):QJ:=⟨aw,[],[],[],[.bool],false⟩
def SO(T:TP U.D)(aw:FuncId)(tc:nF U.D):nF U.D:=λi d=>match T.sig i with
 |some s=>bif Nat.beq s.f aw then(match d with
  |[]=>some [⟨.bool,true⟩]
  |_=>none)else tc i d
 |none=>none
def aAL{aw:FuncId}{tc:nF U.D}{pc:gT}(h0:CallOK U T tc pc)(hs: ∀i s,T.sig i=some s->s.f=aw->s=bH9 aw):CallOK U T (SO T aw tc) (BT aw pc):=by
 intro i s d out h1 h p cc args S0 M0 hin;unfold SO at h;rw[h1]at h;simp only at h;unfold BT;cases hf:Nat.beq s.f aw with
 |false=>rw[hf]at h;exact h0 i s d out h1 h p cc args S0 M0 hin
 |true=>
  rw[hf,aI]at h;have e:=hs i s h1 (aE hf);subst e;split at h
  .simp only[aA]at h;subst h;have hl:args=[]:=List.length_eq_zero_iff.1 hin.len;subst hl;refine⟨.v (.bool true),false,p,rfl,?_⟩;exact⟨⟨fI _,bV _ _⟩,⟨[],rfl,λj x hj=>(by cases hj)⟩,rfl,λ_ _ _=>rfl,λ_ _ _=>rfl,λid h=> .inl h,λid h=>h,λid h=> .inl h⟩
  .cases h
end
end Go.TV
namespace Go.TV
open Go.AI Go.PI Go.Proofs
set_option maxRecDepth 20000
def At{L n i:Nat}{d out:kA}(h:bR L n i d=some out):Rn i d out:=⟨max L n,λL' n' h1 h2=>aFy (by omega) n n' (by omega) i d _ h⟩
def aLy{w:List G.E}{f:G.Y}{g:G.F}(h:aAy w f=some g): ∃e∈w,g∈e.functions:=by
 unfold aAy at h;cases e:aLa f w 0 with
 |none=>rw[e]at h;cases h
 |some p=>
  obtain⟨i,k⟩:=p;rw[e]at h;obtain⟨_,x,y,h1,h2⟩:=R2 e;rw[Nat.sub_zero]at h1
  dsimp only at h
  rw[h1,aL,h2]at h;cases h;refine⟨x,List.mem_of_getElem? h1,?_⟩;have hm:=List.mem_of_getElem? h2;unfold Sg at hm;split at hm
  .exact hm
  .cases hm
def woV{E:List G.E}(h:aR9 E=true):a1T E:=by
 simp only[aR9,aBe,aC,bJ]at h;have len:E.length<=1000:=bK h.1.2;refine⟨⟨len,λe he=>bK (h.2 e he).1⟩,λf g hg=>?_⟩
 obtain⟨e,he,hm⟩:=aLy hg;have:=(h.2 e he).2 g hm;exact⟨this.2,by have:=bK this.1;omega⟩
def imW{E:List G.E}{a x:T3}{R:List G.E}(h:E=aAC (HT 0) a::aAC (HT 1) x::R)(hb:BU (HT 1).1 x.2.1=true):bIk E:=by
 subst h;have hs:(HT 1).1=Em:=by kernel_rfl
 unfold BU at hb;rw[hs,bF rfl,bD,Bool.false_or,aC]at hb;exact⟨⟨⟨dN,Em⟩,[⟨dN,[112]⟩,⟨dN,[113]⟩],1,x.1,x.2.1,x.2.2⟩,by kernel_rfl,rfl,hb.2⟩
noncomputable def cA(L n:Nat):bU:=SO tpI 4 (bR L n)
def a9c(L n:Nat):cA L n 1 []=some [⟨.bool,true⟩]:=by kernel_rfl
def a81(L n:Nat)(d:kA):cA L n 2 d=bR L n 2 d:=by kernel_rfl
def a87(L n:Nat)(d:kA):cA L n 3 d=bR L n 3 d:=by kernel_rfl
def a85(L n:Nat)(d:kA):cA L n 4 d=bR L n 4 d:=by kernel_rfl
def a84(L n:Nat)(d:kA):cA L n 5 d=bR L n 5 d:=by kernel_rfl
def a83(L n:Nat)(d:kA):cA L n 6 d=bR L n 6 d:=by kernel_rfl
def a88(L n:Nat)(d:kA):cA L n 7 d=bR L n 7 d:=by kernel_rfl
def a9b(L n:Nat)(d:kA):cA L n 8 d=bR L n 8 d:=by kernel_rfl
def a9a(L n:Nat)(d:kA):cA L n 9 d=bR L n 9 d:=by kernel_rfl
def a89(L n:Nat)(d:kA):cA L n 10 d=bR L n 10 d:=by kernel_rfl
def a86(L n:Nat)(d:kA):cA L n 11 d=bR L n 11 d:=by kernel_rfl
def a82(L n:Nat)(d:kA):cA L n 12 d=bR L n 12 d:=by kernel_rfl
def WE{a:List G.T}(h:eZ a<1000000):Rn 6 (bDL a a) (bb true):=by
 have:=aM9 (a:=a) (b:=a) (L:=1000000) (n:=1000000) (by omega) (by omega) (by omega)
 rw[bF rfl]at this;exact At this
def aU3{t:G.T}(h:jV t<1000000):Rn 7 (a4e t t) (bb true):=by
 have:=UN t (by simp only[a3F];omega) t 1000000 1000000 (by omega) (by omega)
 rw[bF rfl]at this;exact At this
def a5f{a b:List Int}(ha: ∀x∈a,0<=x/\x<256)(hb: ∀x∈b,0<=x/\x<256):Lp (λL n=>F0 (cA L n) L a b) [⟨.bool,true⟩]:=by
 simp only[F0,a2R,a9c,jY,bD,bM];have tt:Lp (λL n=>aHV (cA L n) L true a b) [⟨.bool,true⟩]:=by
  simp only[aHV,aN1,bP];exact lr rfl
 cases h1:decide ((80:Int)<(List.length a:Int))with
 |true=>simp only[bP];exact tt
 |false=>
  simp only[bM];cases h2:decide ((40:Int)<(List.length b:Int))with
  |true=>exact tt
  |false=>
   have h1:=of_decide_eq_false h1;have h2:=of_decide_eq_false h2;obtain⟨E,w1,w2,xa,xx,R,w3,w4⟩:=NY 0 0;have hW:=woV w2;have hI:=imW w3 w4;obtain⟨f,s,f1,f2,f3⟩:=bGg 0 (aR8 w2) (n:=159) (by omega) ⟨a,0⟩ ⟨ha,Int.le_refl _,by show(0:Int)<=(a.length:Int);omega,by show a.length<=100;omega⟩
   obtain⟨hs,d,p1,p2,p3,p4⟩:=a5P f 10000000 10000000 (by omega) (by omega) (by omega)
   obtain⟨cj,c1,c2,c3,_⟩:=aO1 f 10000000 10000000 (by omega) (by omega) (by omega)
   obtain⟨env,s',e1,e2,e3⟩:=a8K 0 (n:=64) (by omega) ⟨b,0⟩ ⟨hb,Int.le_refl _,by show(0:Int)<=(b.length:Int);omega,by show b.length<=100;omega⟩
   have to: ∀t∈hs,tO t=true:=λt ht=>aBM t (by have:=mM ht;omega)
   have td:tO d=true:=aBM d (by omega)
   have tf:tO f=true:=aBM f (by omega)
   have hlen:hs.length<1000000:=by have:=oH hs;omega
   have el:env.length<=1000:=by omega
   have rH:=aCb hW e2 el hlen to;have rD:=HY hW e2 el td;have rF:=HY hW e2 el tf;have fin:(Xt E env hs true).2=true->QU E d env=true->QU E f env=true->aJv E f env=(!(Xt E env hs true).1||aJv E d env):=by
    intro g1 g2 g3;have k:=aEI hW e2 el to g1;have q:=aAm hI p4 _ (aDA g3) k.1 g2;rw[Q8 hW e2 el tf g3,Q8 hW e2 el td g2,k.2,Bool.true_and,q]
   simp only[aHV,aN1,bM,a81,a87,a85,a84,a83,a88,a9b,a9a];refine lc (At w1) rfl (lc (At f1) rfl (lc (At p1) rfl (lc (At p2) rfl (lc (WE (a:=hs) (by omega)) rfl ?_))))
   simp only[bD,bM];refine lc (aU3 (t:=d) (by omega)) rfl ?_
   simp only[bD,bM];refine lc (At c1) rfl (lc (At c2) rfl (lc (WE (a:=cj) (by omega)) rfl ?_))
   simp only[bD,a17,a2Q,a16,a2P,bM,a89,a86,a82];refine lc (At e1) rfl (lc rH rfl (lc rD rfl (lc rF rfl ?_)));simp only[];cases g1:(Xt E env hs true).2 with
   |false=>simp only[Bool.not_false,bP];exact lr rfl
   |true=>
    simp only[bD,bM];cases g2:QU E d env with
    |false=>simp only[Bool.not_false,bP];exact lr rfl
    |true=>
     simp only[bD,bM];cases g3:QU E f env with
     |false=>simp only[Bool.not_false,bP];exact lr rfl
     |true=>
      simp only[bD,bM];have q:=fin g1 g2 g3;cases g4:(Xt E env hs true).1 with
      |false=>
       rw[g4]at q;simp only[Bool.not_false,bP];exact lr (by rw[q];rfl)
      |true=>
       rw[g4]at q;simp only[bD,bM];exact lr (by rw[q];simp)
end Go.TV
