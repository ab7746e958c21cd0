import Derived.Test.YtmebgielemmehaaGreatDoorKai
set_option linter.unusedVariables false
set_option linter.unusedSimpArgs false
set_option linter.constructorNameAsVariable false
set_option linter.defProp false
namespace Go.Proofs.Q
open Go.AI
set_option maxRecDepth 100000
noncomputable def cmK(L:Nat):Cm:=⟨7,Ic.cmH,Ic.headA Ic.cmB,L⟩
def Xl:Tryz.f7.body=some (G9 (Ic.preA Ic.cmB) (Ic.tailA Ic.cmB)):=by kernel_rfl
def aNx:(Ic.preA Ic.cmB).all (dX Tryz.prog Tryz.f7.ntmps)=true:=by kernel_rfl
def aNy:(Ic.preA Ic.cmB).all mL=true:=by kernel_rfl
def aNv:dX Tryz.prog Tryz.f7.ntmps (Ic.tailA Ic.cmB)=true:=by kernel_rfl
def aWn:LB (Ic.tailA Ic.cmB)=true:=by kernel_rfl
def cm_ok{w0:W0}{c0:FuncId->Array Value->St->Option (Value×St)}(dt:Tryz.prog.toTables.follows .mixedOrders=true)(h0:CallOK w0 Tryz.prog c0)(L:Nat):CallOK w0 Tryz.prog (Ej Tryz.prog (cmK L) c0):=by
 refine Xt (fn0:=Tryz.f7) (k:=3) Tryz.func7 Xl (by kernel_rfl) dt aNx aNy aNv rfl rfl (λS H l h1 h2 h3 h4=>?_) h0
 obtain⟨n,fl,S',H',e,h5,v,h6,h7⟩:=R9 h1 h2 h3 h4;refine⟨n,fl,S',H',v,(aCR (P:=Tryz.prog) (call':=lO Tryz.prog n n) _ _ _ aWn).trans e,h5,?_,h7⟩;rw[Tryz.results7];simp only[cO,oH,h6]
end Go.Proofs.Q
namespace Go.TV
open Go.AI Go.PI Go.Proofs
def aAg{c:cJ}{L:Nat}{a b:G.O}(hl:a.pair.length=b.pair.length)(hb:a.pair.length<1000000000): ∀(l r:List G.O) (k m:Nat),a.pair.drop k=l->b.pair.drop k=r->l.length<m->
    (∀x,x∈l->∀y,c 82 (oo x y)=some (bb (decide (x=y))))->Cn c L m (k:Int) a b=some (bb (decide (l=r))):=by
 intro l;induction l with
 |nil=>
  intro r k m h1 h2 h3 _;obtain⟨m,rfl⟩:=sK m 1 (by simp at h3;omega)
  have e1:=dJ h1;have e2:r=[]:=by rw[<-h2];exact List.drop_eq_nil_of_le (by omega)
  have e3:decide ((k:Int)<(a.pair.length:Int))=false:=by simp;omega
  rw[Cn,Rr,e3,e2];simp only[bU,bM];rfl
 |cons x l ih=>
  intro r k m h1 h2 h3 hc;obtain⟨m,rfl⟩:=sK m 1 (by simp at h3;omega)
  obtain⟨a1,a2,a3⟩:=dL h1;cases r with
  |nil=>have:=dJ h2;omega
  |cons y r=>
   obtain⟨b1,b2,b3⟩:=dL h2;have e3:decide ((k:Int)<(a.pair.length:Int))=true:=by simp;omega
   have ml:c 82 [yR 2 x,yR 2 y]=some [yB (decide (x=y))]:=hc x (aH ..) y;rw[Cn,Rr,e3,cC,bZ,bZ,a1,b1,cY,cY,ml,lZ,dU (by omega)]
   by_cases e:x=y
   .subst e;simp only[bM,bD,bU];rw[ih r (k+1) m a3 b3 (by simp at h3;omega) λz hz=>hc z (aG _ hz)]
    simp
   .simp only[e,decide_false,Bool.not_false,cC];simp[e,bb]
def aAf: ∀(a:G.O),aXw a->∀(b:G.O) (L n:Nat),E3 a<=L->E3 a<=n->cG L n 82 (oo a b)=some (bb (decide (a=b))):=by
 intro a;induction a using aCi with
 |h k nu d s t l ih=>
  intro hw b L n hL hn;simp only[aXw,E3]at hw hL hn;have hlen:=PZ l;obtain⟨n,rfl⟩:=sK n 1 (by omega)
  cases b with|mk k' nu' d' s' t' l'=>
  show cG L (n+1) 82 [yR 2 _,yR 2 _]=_;rw[a3W];simp only[aXO,aAq,ZR,aAp,G.O.kind,G.O.num,G.O.den,G.O.sym,G.O.text,G.O.pair,G.O.mk.injEq];by_cases e1:k=k'
  .by_cases e2:nu=nu'
   .by_cases e3:d=d'
    .by_cases e4:s=s'
     .by_cases e5:t=t'
      .by_cases e6:(l.length:Int)=(l'.length:Int)
       .simp only[e1,e2,e3,e4,e5,e6,bM,bD,bU,true_and];have:=aAg (c:=cG L n) (L:=L) (a:=⟨k,nu,d,s,t,l⟩) (b:=⟨k',nu',d',s',t',l'⟩) (by show l.length=l'.length;omega) (by show l.length<_;omega) l l' 0 L rfl rfl (by omega) λx hx y=>ih x hx (by have:=Am hx;simp only[aXw];omega) y L n (by have:=Am hx;omega) (by have:=Am hx;omega)
        subst e1 e2 e3 e4 e5;exact this
       .have e7: ¬l=l':=λh=>e6 (by rw[h])
        simp[e1,e2,e3,e4,e5,e6,e7,cH,bb]
      .simp[e1,e2,e3,e4,e5,cH,bb]
     .simp[e1,e2,e3,e4,cH,bb]
    .simp[e1,e2,e3,cH,bb]
   .simp[e1,e2,cH,bb]
  .simp[e1,cH,bb]
end Go.TV
namespace Go.TV
open Go.AI Go.PI Go.Proofs
def aAi{c:cJ}{L:Nat}{a b:List G.T}(hl:a.length=b.length)(hb:a.length<1000000000): ∀(l r:List G.T) (k m:Nat),a.drop k=l->b.drop k=r->l.length<m->
    (∀x,x∈l->∀y,c 62 (aXz x y)=some (bb (decide (x=y))))->Cl c L m a b (k:Int)=some (bb (decide (l=r))):=by
 intro l;induction l with
 |nil=>
  intro r k m h1 h2 h3 _;obtain⟨m,rfl⟩:=sK m 1 (by simp at h3;omega)
  have e1:=dJ h1;have e2:r=[]:=by rw[<-h2];exact List.drop_eq_nil_of_le (by omega)
  have e3:decide ((k:Int)<(a.length:Int))=false:=by simp;omega
  rw[Cl,Rq,e3,e2];simp only[bU,bM];rfl
 |cons x l ih=>
  intro r k m h1 h2 h3 hc;obtain⟨m,rfl⟩:=sK m 1 (by simp at h3;omega)
  obtain⟨a1,a2,a3⟩:=dL h1;cases r with
  |nil=>have:=dJ h2;omega
  |cons y r=>
   obtain⟨b1,b2,b3⟩:=dL h2;have e3:decide ((k:Int)<(a.length:Int))=true:=by simp;omega
   have ml:c 62 [yR 3 x,yR 3 y]=some [yB (decide (x=y))]:=hc x (aH ..) y;rw[Cl,Rq,e3,cC,bZ,bZ,a1,b1,cY,cY,ml,lZ,dU (by omega)]
   by_cases e:x=y
   .subst e;simp only[bM,bD,bU];rw[ih r (k+1) m a3 b3 (by simp at h3;omega) λz hz=>hc z (aG _ hz)]
    simp
   .simp only[e,decide_false,Bool.not_false,cC];simp[e,bb]
def aAh{a b:List G.T}{L n:Nat}(hw:a.length<1000000000)(hL:a.length<L)(hx: ∀x,x∈a->∀y,cG L n 62 (aXz x y)=some (bb (decide (x=y)))):
    cG L (n+1) 83 (ll2 a b)=some (bb (decide (a=b))):=by
 show cG L (n+1) 83 [yS 3 _,yS 3 _]=_;rw[c83];simp only[a2Y,aAo];by_cases e6:(a.length:Int)=(b.length:Int)
 .simp only[e6,bM,bD,bU];exact aAi (c:=cG L n) (L:=L) (by omega) hw a b 0 L rfl rfl hL hx
 .have e7: ¬a=b:=λh=>e6 (by rw[h])
  simp[e6,e7,cH,bb]
def aOl: ∀(a:G.T),aXv a->∀(b:G.T) (L n:Nat),kA a<=L->kA a<=n->cG L n 62 (aXz a b)=some (bb (decide (a=b))):=by
 intro a;induction a using sO with
 |h k nm v l ih=>
  intro hw b L n hL hn;simp only[aXv,kA]at hw hL hn;have hlen:=mA l;obtain⟨n,rfl⟩:=sK n 2 (by omega)
  cases b with|mk k' nm' v' l'=>
  show cG L (n+1+1) 62 [yR 3 _,yR 3 _]=_;rw[c62];have hv:cG L (n+1) 82 [yR 2 v,yR 2 v']=some [yB (decide (v=v'))]:=aAf v (by simp only[aXw];omega) v' L (n+1) (by omega) (by omega)
  have hl:cG L (n+1) 83 [yS 3 l,yS 3 l']=some [yB (decide (l=l'))]:=aAh (by omega) (by omega) λx hx y=>ih x hx (by have:=fJ hx;simp only[aXv];omega) y L n (by have:=fJ hx;omega) (by have:=fJ hx;omega)
  simp only[a24,aAw,ZU,aAv,G.T.kind,G.T.name,G.T.value,G.T.args,G.T.mk.injEq,hv,hl,lZ];by_cases e1:k=k'
  .by_cases e2:nm=nm'
   .by_cases e3:v=v'
    .simp[e1,e2,e3,cH,bb]
    .simp[e1,e2,e3,cH,bb]
   .simp[e1,e2,cH,bb]
  .simp[e1,cH,bb]
end Go.TV
namespace Go.TV
open Go.AI Go.PI Go.Proofs
def aAj{c:cJ}{L:Nat}{t:G.T}{a:List G.T}(hb:a.length<1000000000): ∀(l:List G.T) (k m:Nat),a.drop k=l->l.length<m->
    (∀x,x∈l->c 62 (aXz x t)=some (bb (decide (x=t))))->Cy c L m a (k:Int) t=some (bb (decide (t∈l))):=by
 intro l;induction l with
 |nil=>
  intro k m h1 h3 _;obtain⟨m,rfl⟩:=sK m 1 (by simp at h3;omega)
  have e1:=dJ h1;have e3:decide ((k:Int)<(a.length:Int))=false:=by simp;omega
  rw[Cy,RG,e3,bU];simp[bb]
 |cons x l ih=>
  intro k m h1 h3 hc;obtain⟨m,rfl⟩:=sK m 1 (by simp at h3;omega)
  obtain⟨a1,a2,a3⟩:=dL h1;have e3:decide ((k:Int)<(a.length:Int))=true:=by simp;omega
  have ml:c 62 [yR 3 x,yR 3 t]=some [yB (decide (x=t))]:=hc x (aH ..);rw[Cy,RG,e3,cC,bZ,a1,cY,ml,lZ,dU (by omega)]
  by_cases e:x=t
  .subst e;simp[cH,bb]
  .have e': ¬t=x:=λh=>e h.symm
   simp only[e,decide_false,bU];rw[ih (k+1) m a3 (by simp at h3;omega) λz hz=>hc z (aG _ hz)]
   simp[e']
def aOm{a:List G.T}{t:G.T}{L n:Nat}(hw:dH a<1000000000)(hL:dH a<L)(hn:dH a<n):cG L n 40 (lt2 a t)=some (bb (decide (t∈a))):=by
 have hlen:=mA a;obtain⟨n,rfl⟩:=sK n 1 (by omega)
 show cG L (n+1) 40 [yS 3 _,yR 3 _]=_;rw[c40];exact aAj (by omega) a 0 L rfl (by omega) λx hx=>aOl x (by have:=fJ hx;simp only[aXv];omega) t L n (by have:=fJ hx;omega) (by have:=fJ hx;omega)
def args_ok{t:G.T}{L n:Nat}:cG L (n+1) 41 [yR 3 t]=some (aXB (if t.kind=3 then t.args else [])):=by
 rw[a36];by_cases h:t.kind=3<;>simp[aXS,aIq,h,cH,aXB]
end Go.TV
namespace Go.TV
open Go.AI Go.PI Go.Proofs
def Bl{W:Type}{b:List G.Y}{K:List G.Y×Unit->Option W}:IM (some [yS 1 b]) K=K (b,()):=rfl
def nD(out:List G.Y)(s:G.Y):List G.Y:=if s∈out then out else out++ [s]
def gG:List G.Y->List G.Y->List G.Y
 |out,[]=>out
 |out,s::r=>gG (nD out s) r
mutual
def mY:G.T->List G.Y
 |⟨k,nm,_,l⟩=>if k=1 then [nm]else if k=3 then iY [] l else []
def iY(out:List G.Y):List G.T->List G.Y
 |[]=>out
 |x::l=>iY (gG out (mY x)) l
end
def aF9(a:List G.Y):oB:=[yS 1 a]
def XJ{t:G.T}{L n:Nat}(h:t.kind=3):cG L (n+1) 41 [yR 3 t]=some (aXB t.args):=args_ok.trans (by rw[bI h])
def aEA{t:G.T}{L n:Nat}(h: ¬t.kind=3):cG L (n+1) 41 [yR 3 t]=some (aXB []):=args_ok.trans (by rw[bH h])
def aFo{c:cJ}{L:Nat}{t:G.Y}{a:List G.Y}(hb:a.length<1000000000): ∀(l:List G.Y) (k m:Nat),a.drop k=l->l.length<m->
    Cw c L m a (k:Int) t=some (bb (decide (t∈l))):=by
 intro l;induction l with
 |nil=>
  intro k m h1 h3;obtain⟨m,rfl⟩:=sK m 1 (by simp at h3;omega)
  have e1:=dJ h1;have e3:decide ((k:Int)<(a.length:Int))=false:=by simp;omega
  rw[Cw,RF,e3,bU];simp[bb]
 |cons x l ih=>
  intro k m h1 h3;obtain⟨m,rfl⟩:=sK m 1 (by simp at h3;omega)
  obtain⟨a1,a2,a3⟩:=dL h1;have e3:decide ((k:Int)<(a.length:Int))=true:=by simp;omega
  rw[Cw,RF,e3,cC,bZ,a1,cY,dU (by omega)]
  by_cases e:x=t
  .subst e;simp[cH,bb]
  .have e': ¬t=x:=λh=>e h.symm
   simp only[e,decide_false,bU];rw[ih (k+1) m a3 (by simp at h3;omega)]
   simp[e']
def aXs{a:List G.Y}{t:G.Y}{L n:Nat}(hb:a.length<1000000000)(hL:a.length<L):cG L (n+1) 42 [yS 1 a,yR 1 t]=some [yB (decide (t∈a))]:=by
 rw[a35];exact aFo hb a 0 L rfl hL
def KM(out:List G.Y)(s:G.Y):(nD out s).length<=out.length+1:=by
 unfold nD;split<;>simp
def tI: ∀(r out:List G.Y),(gG out r).length<=out.length+r.length
 |[],out=>by simp[gG]
 |s::r,out=>by
  have h1:=tI r (nD out s);have h2:=KM out s;simp only[gG,aM];omega
def vD{l:List G.T}(ih: ∀x∈l,(mY x).length<=kA x): ∀out,(iY out l).length<=out.length+dH l:=by
 induction l with
 |nil=>intro out;simp[iY,dH]
 |cons x l ih2=>
  intro out;simp only[iY,dH];have h1:=ih2 (λy hy=>ih y (aG _ hy)) (gG out (mY x))
  have h2:=ih x (aH ..);have h3:=tI (mY x) out;omega
def rF: ∀(t:G.T),(mY t).length<=kA t:=by
 intro t;induction t using sO with
 |h k n v l ih=>
  simp only[mY,kA];split
  .simp;omega
  .split
   .have:=vD ih [];simp at this;omega
   .simp
def aGB{a:Nat}(h:a<30000000):Nat.ble ((a+1)*32) 1073741824=true:=by
 apply Nat.ble_eq_true_of_le;omega
def aWW{L n:Nat}{n1:List G.T->Int->List G.Y->Rt}{a:List G.T}{k4:Int}{p:List G.Y}(hp:p.length<30000000): ∀(l out:List G.Y) (k m:Nat),p.drop k=l->l.length<m->out.length+l.length<30000000->out.length+l.length<L->
    zK (cG L (n+1)) L n1 m p (k:Int) k4 a out=n1 a (IntKind.i64.wrap (k4+1)) (gG out l):=by
 intro l;induction l with
 |nil=>
  intro out k m h1 h3 _ _;obtain⟨m,rfl⟩:=sK m 1 (by simp at h3;omega)
  have e1:=dJ h1;have e3:decide ((k:Int)<(p.length:Int))=false:=by simp;omega
  rw[zK,RR,e3,bU];rfl
 |cons x l ih=>
  intro out k m h1 h3 h4 h5;obtain⟨m,rfl⟩:=sK m 1 (by simp at h3;omega)
  obtain⟨a1,a2,a3⟩:=dL h1;simp only[aM]at h4 h5;have e3:decide ((k:Int)<(p.length:Int))=true:=by simp;omega
  rw[zK,RR,e3,cC,bZ,a1,cY,aXs (by omega) (by omega),lZ,gG]
  by_cases e:x∈out
  .have ea:nD out x=out:=by simp[nD,e]
   simp only[e,bM,bD,bU,Rj,RQ];rw[dU (by omega),ih out (k+1) m a3 (by simp at h3;omega) (by omega) (by omega),ea]
  .have ea:nD out x=out++ [x]:=by simp[nD,e]
   simp only[e,decide_false,Bool.not_false,cC,Rj,RQ,cY,aM,aX,Nat.zero_add,aGB (show out.length<30000000 by omega),eH]
   rw[dU (by omega),ih (out++ [x]) (k+1) m a3 (by simp at h3;omega) (by simp;omega) (by simp;omega),ea]
def QS{L n:Nat}{a:List G.T}(hb:a.length<1000000000): ∀(l:List G.T) (out:List G.Y) (k m:Nat),a.drop k=l->l.length<m->out.length+dH l<30000000->out.length+dH l<L->
    (∀x,x∈l->x.kind=3->cG L (n+1) 17 [yS 3 x.args]=some (aF9 (iY [] x.args)))->
    (∀x,x∈l->cG L (n+1) 17 [yS 3 ([]:List G.T)]=some (aF9 []))->uA (cG L (n+1)) L m a (k:Int) out=some (aF9 (iY out l)):=by
 intro l;induction l with
 |nil=>
  intro out k m h1 h3 _ _ _ _;obtain⟨m,rfl⟩:=sK m 1 (by simp at h3;omega)
  have e1:=dJ h1;have e3:decide ((k:Int)<(a.length:Int))=false:=by simp;omega
  rw[uA,K0,e3,bU];rfl
 |cons x l ih=>
  intro out k m h1 h3 h4 h5 hc hz;obtain⟨m,rfl⟩:=sK m 1 (by simp at h3;omega)
  obtain⟨a1,a2,a3⟩:=dL h1;simp only[dH]at h4 h5;have hv:=rF x;have e3:decide ((k:Int)<(a.length:Int))=true:=by simp;omega
  have key:zK (cG L (n+1)) L (uA (cG L (n+1)) L m) L (mY x) 0 (k:Int) a out=some (aF9 (iY out (x::l))):=by
   have h0:=aWW (L:=L) (n:=n) (n1:=uA (cG L (n+1)) L m) (a:=a) (k4:=(k:Int)) (p:=mY x) (by omega) (mY x) out 0 L rfl (by omega) (by omega) (by omega)
   refine h0.trans ?_;have hl:=tI (mY x) out;rw[dU (by omega),iY]
   exact ih (gG out (mY x)) (k+1) m a3 (by simp at h3;omega) (by omega) (by omega) (λy hy=>hc y (aG _ hy)) (λy hy=>hz y (aG _ hy))
  rw[uA,K0,e3,cC,bZ,a1,cY];simp only[cY,ZW,aAA];cases x with|mk kk nm v al=>
  by_cases e1:kk=1
  .have:mY ⟨kk,nm,v,al⟩=[nm]:=by simp[mY,e1]
   rw[this]at key;simp only[G.T.kind,G.T.name,e1,bM,cC];rw[<-e1];exact key
  .have a15: ∃q:List G.T,cG L (n+1) 41 [yR 3 ⟨kk,nm,v,al⟩]=some [yS 3 q]/\cG L (n+1) 17 [yS 3 q]=some [yS 1 (mY ⟨kk,nm,v,al⟩)]:=by
    by_cases e2:kk=3
    .refine⟨al,XJ (t:=⟨kk,nm,v,al⟩) e2,?_⟩;have:mY ⟨kk,nm,v,al⟩=iY [] al:=by simp[mY,e2]
     rw[this];exact hc ⟨kk,nm,v,al⟩ (aH ..) e2
    .refine⟨[],aEA (t:=⟨kk,nm,v,al⟩) e2,?_⟩;have:mY ⟨kk,nm,v,al⟩=[]:=by simp[mY,e1,e2]
     rw[this];exact hz ⟨kk,nm,v,al⟩ (aH ..)
   obtain⟨q,q1,q2⟩:=a15;have e1':decide ((G.T.mk kk nm v al).kind=1)=false:=by simp[G.T.kind,e1]
   rw[e1',bU,q1,Vr,q2,Bl];exact key
end Go.TV
namespace Go.TV
open Go.AI Go.PI Go.Proofs
set_option maxRecDepth 20000
def aBB{c:cJ}{L:Nat}{t:G.Y}{a:List G.Y}(hb:a.length<1000000000): ∀(l:List G.Y) (k m:Nat),a.drop k=l->l.length<m->
    ∃r:Int,uU c L m (a.length:Int) a (k:Int) t=some [⟨.int .i64,r⟩]/\decide (0<=r)=decide (t∈l):=by
 intro l;induction l with
 |nil=>
  intro k m h1 h3;obtain⟨m,rfl⟩: ∃m',m=m'+1:=⟨m-1,by simp at h3;omega⟩
  have e1:=dJ h1;have e3:decide ((k:Int)<(a.length:Int))=false:=by simp;omega
  rw[uU,Gt,e3,bU];exact⟨-1,rfl,by simp⟩
 |cons x l ih=>
  intro k m h1 h3;obtain⟨m,rfl⟩: ∃m',m=m'+1:=⟨m-1,by simp at h3;omega⟩
  obtain⟨a1,a2,a3⟩:=dL h1;have e3:decide ((k:Int)<(a.length:Int))=true:=by simp;omega
  rw[uU,Gt,e3,cC,bZ,a1,cY,dU (by omega)]
  by_cases e:t=x
  .rw[bF e,cC];exact⟨k,rfl,by subst e;simp⟩
  .rw[bG e,bU];obtain⟨r,h5,h6⟩:=ih (k+1) m a3 (by simp at h3;omega)
   exact⟨r,h5,by rw[h6];simp[e]⟩
def aQr{a:List G.Y}{t:G.Y}{L n:Nat}(hb:a.length<1000000000)(hL:a.length<L):cG L (n+2) 105 [⟨.sl (.rc 1),a⟩,⟨.rc 1,t⟩]=some [⟨.bool,decide (t∈a)⟩]:=by
 obtain⟨r,h1,h2⟩:=aBB (c:=cG L n) (L:=L) (t:=t) hb a 0 L rfl hL;have h3:cG L (n+1) 131 [⟨.sl (.rc 1),a⟩,⟨.rc 1,t⟩]=some [⟨.int .i64,r⟩]:=by
  rw[a2C];exact h1
 rw[<-h2,a2I,aOj,aAW,h3];rfl
mutual
def Db(out:List G.Y):G.T->List G.Y
 |⟨k,nm,_,l⟩=>if k=3 then B3 (if k=1 then nD out nm else out) l else if k=1 then nD out nm else out
def B3(out:List G.Y):List G.T->List G.Y
 |[]=>out
 |x::l=>B3 (Db out x) l
end
def VV{x s:G.Y}{out:List G.Y}:x∈nD out s↔x∈out∨x=s:=by
 unfold nD;split
 .rename_i h;exact⟨.inl,λh'=>h'.elim id λe=>e▸h⟩
 .simp
def DQ{x:G.Y}: ∀{r out:List G.Y},x∈gG out r↔x∈out∨x∈r
 |[],out=>by simp[gG]
 |s::r,out=>by rw[gG,DQ,VV,List.mem_cons];exact or_assoc
def Cj(s:G.Y): ∀(r out:List G.Y),gG out (r++ [s])=nD (gG out r) s
 |[],out=>rfl
 |x::r,out=>by rw[aY,gG,Cj s r,gG]
def MM(out a:List G.Y)(s:G.Y):gG out (nD a s)=nD (gG out a) s:=by
 by_cases h:s∈a
 .rw[nD,bI h,nD,bI (DQ.2 (.inr h))]
 .rw[nD,bH h,Cj]
def zI(out:List G.Y): ∀(b a:List G.Y),gG out (gG a b)=gG (gG out a) b
 |[],a=>rfl
 |s::b,a=>by rw[gG,zI out b,MM,gG]
def GW(out:List G.Y): ∀(l:List G.T) (acc:List G.Y),gG out (iY acc l)=iY (gG out acc) l
 |[],acc=>by rw[iY,iY]
 |x::l,acc=>by rw[iY,GW out l,zI,iY]
def Qx{l:List G.T}(h: ∀x∈l,∀out,Db out x=gG out (mY x)): ∀out,B3 out l=iY out l:=by
 induction l with
 |nil=>intro out;rw[B3,iY]
 |cons x l ih=>intro out;rw[B3,iY,h x (aH ..),ih λy hy=>h y (aG _ hy)]
def Qw: ∀(t:G.T) (out:List G.Y),Db out t=gG out (mY t):=by
 intro t;induction t using sO with
 |h k nm v l ih=>
  intro out;rw[Db,mY];by_cases h3:k=3
  .have h1: ¬k=1:=by omega
   rw[bI h3,bH h1,bH h1,bI h3,Qx ih,GW];rfl
  .rw[bH h3];by_cases h1:k=1
   .rw[bI h1,bI h1];rfl
   .rw[bH h1,bH h1,bH h3];rfl
def aEj(l:List G.T)(out:List G.Y):B3 out l=iY out l:=Qx (λx _=>Qw x) out
def Kl(t:G.T)(out:List G.Y):(Db out t).length<=out.length+kA t:=by
 rw[Qw];have h1:=tI (mY t) out;have h2:=rF t;omega
def aJr(out:List G.Y):oB:=[⟨.bool,true⟩,⟨.int .i64,(1:Int)⟩,⟨.sl (.rc 1),out⟩]
def E7{W:Type}{b:Bool}{i:Int}{l:List G.Y}{K:Bool×Int×List G.Y×Unit->Option W}:fZ (D:=U0.D) [.bool,.int .i64,.sl (.rc 1)] (some [⟨.bool,b⟩,⟨.int .i64,i⟩,⟨.sl (.rc 1),l⟩]) K=K (b,i,l,()):=rfl
def aWp{t:G.T}{out:List G.Y}{L n:Nat}(h:out.length<30000000)(hL:out.length<L):cG L (n+3) 84 [⟨.rc 3,t⟩,⟨.int .i64,(1:Int)⟩,⟨.sl (.rc 1),out⟩]=some (aJr (if t.kind=1 then nD out t.name else out)):=by
 rw[c84,a2X,aAn];by_cases hk:t.kind=1
 .rw[bF hk,cC,aQr (by omega) hL,lZ,bI hk]
  simp only[ZQ,aAm,ZP,aAl];by_cases hm:t.name∈out
  .rw[bF hm,nD,bI hm];rfl
  .rw[bG hm,Bool.not_false,cC,nD,bH hm];show jC (Nat.ble ((out.length+1)*32) 1073741824) _=_;rw[aGB h,eH];rfl
 .rw[bG hk,bU,bH hk];rfl
def aBl{L n:Nat}{a:List G.T}(hb:a.length<1000000000): ∀(l:List G.T) (k m:Nat) (out:List G.Y),a.drop k=l->l.length<m->out.length+dH l<30000000->out.length+dH l<L->
    (∀x∈l,∀out:List G.Y,out.length+kA x<30000000->out.length+kA x<L->cG L n 63 [⟨.rc 3,x⟩,⟨.int .i64,(1:Int)⟩,⟨.sl (.rc 1),out⟩]=some (aJr (Db out x)))->
    Cq (cG L n) L m (a.length:Int) a (k:Int) (1:Int) out=some (aJr (B3 out l)):=by
 intro l;induction l with
 |nil=>
  intro k m out h1 h3 _ _ _;obtain⟨m,rfl⟩: ∃m',m=m'+1:=⟨m-1,by simp at h3;omega⟩
  have e1:=dJ h1;have e3:decide ((k:Int)<(a.length:Int))=false:=by simp;omega
  rw[Cq,Rx,e3,bU];rfl
 |cons x l ih=>
  intro k m out h1 h3 h4 h5 hc;obtain⟨m,rfl⟩: ∃m',m=m'+1:=⟨m-1,by simp at h3;omega⟩
  obtain⟨a1,a2,a3⟩:=dL h1;simp only[dH]at h4 h5;have hl:=Kl x out;have e3:decide ((k:Int)<(a.length:Int))=true:=by simp;omega
  have hx:=hc x (aH ..) out (by omega) (by omega)
  rw[aJr]at hx;rw[Cq,Rx,e3,cC,bZ,a1,cY,hx,E7,dU (by omega)]
  simp only[bD];rw[bU,B3];exact ih (k+1) m (Db out x) a3 (by simp at h3;omega) (by omega) (by omega) (λy hy=>hc y (aG _ hy))
def aO9: ∀(t:G.T) (L n:Nat) (out:List G.Y),out.length+kA t<30000000->out.length+kA t<L->kA t+3<=n->cG L n 63 [⟨.rc 3,t⟩,⟨.int .i64,(1:Int)⟩,⟨.sl (.rc 1),out⟩]=some (aJr (Db out t)):=by
 intro t;induction t using sO with
 |h k nm v l ih=>
  intro L n out hw hL hn;have hlen:=mA l;have htz:kA ⟨k,nm,v,l⟩=kA ⟨k,nm,v,l⟩:=rfl;simp only[kA]at hw hL hn;obtain⟨n,rfl⟩: ∃n',n=n'+4:=⟨n-4,by omega⟩
  have h1:=aWp (t:=⟨k,nm,v,l⟩) (out:=out) (L:=L) (n:=n) (by omega) (by omega)
  rw[aJr]at h1;rw[c63,a23,aAu,h1,E7];simp only[bD];rw[bU,Db];have hl1:(if(G.T.mk k nm v l).kind=1 then nD out (G.T.mk k nm v l).name else out).length<=out.length+1:=by
   split
   .exact KM out nm
   .omega
  by_cases h3:k=3
  .rw[show decide ((G.T.mk k nm v l).kind=3)=true from bF h3,cC,bI h3]
   refine aBl (a:=l) (by omega) l 0 L _ rfl (by omega) (by omega) (by omega) λx hx out' g1 g2=>ih x hx L (n+3) out' g1 g2 (by have:=fJ hx;omega)
  .rw[show decide ((G.T.mk k nm v l).kind=3)=false from bG h3,bU,bH h3];rfl
def aEm{L n:Nat}{a:List G.T}(hb:a.length<1000000000): ∀(l:List G.T) (k m:Nat) (out:List G.Y),a.drop k=l->l.length<m->out.length+dH l<30000000->out.length+dH l<L->dH l+3<=n->
    Cv (cG L n) L m (a.length:Int) a (k:Int) (1:Int) out=some [⟨.sl (.rc 1),B3 out l⟩]:=by
 intro l;induction l with
 |nil=>
  intro k m out h1 h3 _ _ _;obtain⟨m,rfl⟩: ∃m',m=m'+1:=⟨m-1,by simp at h3;omega⟩
  have e1:=dJ h1;have e3:decide ((k:Int)<(a.length:Int))=false:=by simp;omega
  rw[Cv,RE,e3,bU];rfl
 |cons x l ih=>
  intro k m out h1 h3 h4 h5 h6;obtain⟨m,rfl⟩: ∃m',m=m'+1:=⟨m-1,by simp at h3;omega⟩
  obtain⟨a1,a2,a3⟩:=dL h1;simp only[dH]at h4 h5 h6;have hl:=Kl x out;have e3:decide ((k:Int)<(a.length:Int))=true:=by simp;omega
  have hx:=aO9 x L n out (by omega) (by omega) (by omega)
  rw[aJr]at hx;rw[Cv,RE,e3,cC,bZ,a1,cY,hx,E7,dU (by omega),B3]
  exact ih (k+1) m (Db out x) a3 (by simp at h3;omega) (by omega) (by omega) (by omega)
def aFw(l:List G.T)(hw:dH l<30000000)(L n:Nat)(hL:dH l<L)(hn:dH l+5<=n):cG L n 19 [⟨.sl (.rc 3),l⟩]=some [⟨.sl (.rc 1),iY [] l⟩]:=by
 have hlen:=mA l;obtain⟨n,rfl⟩: ∃n',n=n'+2:=⟨n-2,by omega⟩
 have h:=aEm (L:=L) (n:=n) (a:=l) (by omega) l 0 L [] rfl (by omega) (by simp;omega) (by simp;omega) (by omega)
 have h2:cG L (n+1) 43 [⟨.sl (.rc 3),l⟩,⟨.int .i64,(1:Int)⟩]=some [⟨.sl (.rc 1),B3 [] l⟩]:=by
  rw[c43];exact h
 rw[c19,a3c,aIw,h2,Bl,aEj]
def YV{L n:Nat}(hL:0<L):cG L (n+1) 17 [⟨.sl (.rc 3),([]:List G.T)⟩]=some (aF9 []):=by
 obtain⟨L,rfl⟩: ∃n',L=n'+1:=⟨L-1,by omega⟩
 rw[a2A,a3d,aAB,uA,K0];have e3:decide ((0:Int)<(([]:List G.T).length:Int))=false:=by simp
 rw[e3,bU];rfl
def aN1: ∀(t:G.T),kA t<30000000->∀(L n:Nat),kA t<L->kA t<=n->cG L n 17 [⟨.sl (.rc 3),t.args⟩]=some (aF9 (iY [] t.args)):=by
 intro t;induction t using sO with
 |h k nm v l ih=>
  intro hw L n hL hn;simp only[kA]at hw hL hn;have hlen:=mA l;obtain⟨n,rfl⟩: ∃n',n=n'+2:=⟨n-2,by omega⟩
  show cG L (n+1+1) 17 [⟨.sl (.rc 3),l⟩]=some (aF9 (iY [] l));rw[a2A];exact QS (n:=n) (by omega) l [] 0 L rfl (by omega) (by simp;omega) (by simp;omega)
   (λx hx _=>ih x hx (by have:=fJ hx;omega) L (n+1) (by have:=fJ hx;omega) (by have:=fJ hx;omega))
   (λx hx=>YV (by omega))
def aN2(l:List G.T)(hw:dH l<30000000)(L n:Nat)(hL:dH l<L)(hn:dH l+2<=n):cG L n 17 [⟨.sl (.rc 3),l⟩]=some (aF9 (iY [] l)):=by
 have hlen:=mA l;obtain⟨n,rfl⟩: ∃n',n=n'+2:=⟨n-2,by omega⟩
 rw[a2A];exact QS (n:=n) (by omega) l [] 0 L rfl (by omega) (by simp;omega) (by simp;omega)
  (λx hx _=>aN1 x (by have:=fJ hx;omega) L (n+1) (by have:=fJ hx;omega) (by have:=fJ hx;omega))
  (λx hx=>YV (by omega))
end Go.TV
namespace Go.TV
open Go.AI Go.PI Go.Proofs
set_option maxRecDepth 20000
def aOM(x:Rt)(B α:Nat):Prop:= ∃l:List G.T,x=some [⟨.sl (.rc 3),l⟩]/\dH l<=B/\l.length<=α
def aXt{a:List G.T}{t:G.T}{L n:Nat}(hw:dH a<100000)(hL:dH a+10<L)(hn:dH a<n):aOM (cG L (n+1) 16 [⟨.sl (.rc 3),a⟩,⟨.sl (.rc 3),([t]:List G.T)⟩]) (dH a+kA t+1) (a.length+1):=by
 have hlen:=mA a;obtain⟨L,rfl⟩: ∃L',L=L'+2:=⟨L-2,by omega⟩
 refine(congrArg (λz=>aOM z (dH a+kA t+1) (a.length+1)) (c16 a [t] (L+2) n)).mpr ?_
 show aOM (aXV (cG (L+2) n) (L+2) a [t]) _ _;rw[aXV,aAE];have e0:IntKind.i64.wrap ((a.length:Int)+(([t]:List G.T).length:Int))=((a.length+1:Nat):Int):=dU (by omega)
 have e1:decide ((0:Int)<=((a.length+1:Nat):Int))=true:=by simp only[aD];omega
 have e2:decide (((a.length+1:Nat):Int)*176<=1073741824)=true:=by simp only[aD];omega
 have e3:decide (((a.length+1:Nat):Int)<=1073741824)=true:=by simp only[aD];omega
 have e4:Nat.ble ((([]:List G.T).length+a.length)*176) 1073741824=true:=by rw[Nat.ble_eq];simp only[aX];omega
 rw[e0,e1,e2,e3,e4];show aOM (CD (cG (L+2) n) (L+2) (L+2) [t] 0 a) _ _;rw[CD,aAD,show decide ((0:Int)<(([t]:List G.T).length:Int))=true by rfl,cC,show eK ([t]:List G.T) 0=some t from rfl,cY]
 have hc:cG (L+2) n 40 [⟨.sl (.rc 3),a⟩,⟨.rc 3,t⟩]=some [⟨.bool,decide (t∈a)⟩]:=aOm (by omega) (by omega) hn
 rw[hc,lZ];have iG: ∀l:List G.T,dH l<=dH a+kA t+1->l.length<=a.length+1->aOM (Rm (cG (L+2) n) (L+2) (CD (cG (L+2) n) (L+2) (L+1)) 0 [t] l) (dH a+kA t+1) (a.length+1):=λl hl hl2=>by
  rw[Rm,aAC];exact⟨l,rfl,hl,hl2⟩
 have e5:Nat.ble ((a.length+([t]:List G.T).length)*176) 1073741824=true:=by rw[Nat.ble_eq];simp only[aM,aX];omega
 cases decide (t∈a)with
 |true=>exact iG a (by omega) (by omega)
 |false=>
  simp only[Bool.not_false,cC,cY,e5,eH];exact iG (a++ [t]) (by rw[tsz'_app];omega) (by simp)
def aK8:G.T:=⟨0,⟨[],[]⟩,⟨0,[],[],⟨[],[]⟩,[],[]⟩,[]⟩
def aNO:List G.I->G.Y->Option G.T
 |[],_=>none
 |a::l,v=>if a.var=v then some a.term else aNO l v
def aWv:Option G.T->oB
 |some t=>[⟨.rc 3,t⟩,⟨.bool,true⟩]
 |none=>[⟨.rc 3,aK8⟩,⟨.bool,false⟩]
def QG: ∀{l:List G.I} {v:G.Y} {t:G.T},aNO l v=some t->∃a∈l,a.term=t
 |a::l,v,t,h=>by
  unfold aNO at h;split at h
  .cases h;exact⟨a,aH ..,rfl⟩
  .obtain⟨b,h1,h2⟩:=QG h;exact⟨b,aG _ h1,h2⟩
def aEz{c:cJ}{L:Nat}{v:G.Y}{a:List G.I}(hb:a.length<1000000000): ∀(l:List G.I) (k m:Nat),a.drop k=l->l.length<m->
    CA c L m a (k:Int) v aK8=some (aWv (aNO l v)):=by
 intro l;induction l with
 |nil=>
  intro k m h1 h3;obtain⟨m,rfl⟩: ∃m',m=m'+1:=⟨m-1,by simp at h3;omega⟩
  have e1:=dJ h1;have e3:decide ((k:Int)<(a.length:Int))=false:=by simp;omega
  rw[CA,RI,e3,bU];rfl
 |cons x l ih=>
  intro k m h1 h3;obtain⟨m,rfl⟩: ∃m',m=m'+1:=⟨m-1,by simp at h3;omega⟩
  obtain⟨a1,a2,a3⟩:=dL h1;have e3:decide ((k:Int)<(a.length:Int))=true:=by simp;omega
  rw[CA,RI,e3,cC,bZ,a1,cY,cY,dU (by omega),aNO]
  by_cases e:x.var=v
  .rw[bF e,cC,bI e];rfl
  .rw[bG e,bU,bH e];exact ih (k+1) m a3 (by simp at h3;omega)
def aWw{a:List G.I}{v:G.Y}{L n:Nat}(hb:a.length<1000000000)(hL:a.length<L):cG L (n+1) 38 [⟨.sl (.rc 4),a⟩,⟨.rc 1,v⟩]=some (aWv (aNO a v)):=by
 rw[a38];exact aEz hb a 0 L rfl hL
def aOK(x:Rt)(B:Nat):Prop:= ∃t:G.T,x=some [⟨.rc 3,t⟩]/\kA t<=B
def a4g(x:Rt)(B:Nat):Prop:= ∃l:List G.T,x=some [⟨.sl (.rc 3),l⟩]/\dH l<=B
def aBF{L n:Nat}{s:List G.I}{a:List G.T}(hb:a.length<1000000): ∀(l:List G.T) (k m:Nat) (acc:List G.T),a.drop k=l->l.length<m->acc.length=k->
    (∀x∈l,aOK (cG L n 15 [⟨.rc 3,x⟩,⟨.sl (.rc 4),s⟩]) (2*kA x))->a4g (Cz (cG L n) L m a s (k:Int) acc) (dH acc+2*dH l):=by
 intro l;induction l with
 |nil=>
  intro k m acc h1 h3 h4 _;obtain⟨m,rfl⟩: ∃m',m=m'+1:=⟨m-1,by simp at h3;omega⟩
  have e1:=dJ h1;have e3:decide ((k:Int)<(a.length:Int))=false:=by simp;omega
  rw[Cz,RH,e3,bU];exact⟨acc,rfl,by omega⟩
 |cons x l ih=>
  intro k m acc h1 h3 h4 hc;obtain⟨m,rfl⟩: ∃m',m=m'+1:=⟨m-1,by simp at h3;omega⟩
  obtain⟨a1,a2,a3⟩:=dL h1;have e3:decide ((k:Int)<(a.length:Int))=true:=by simp;omega
  obtain⟨y,hy,hs⟩:=hc x (aH ..);have e4:Nat.ble ((acc.length+([y]:List G.T).length)*176) 1073741824=true:=by
   rw[Nat.ble_eq];simp only[aM,aX];omega
  rw[Cz,RH,e3,cC,bZ,a1,cY,hy,jN];simp only[e4,eH];rw[dU (by omega)]
  obtain⟨r,h5,h6⟩:=ih (k+1) m (acc++ [y]) a3 (by simp at h3;omega) (by simp;omega) (λz hz=>hc z (aG _ hz))
  refine⟨r,h5,?_⟩;rw[tsz'_app]at h6;simp only[dH];omega
def aQf{s:List G.I}(hs: ∀a∈s,kA a.term<=6)(hl:s.length<1000000): ∀t:G.T,∀L n:Nat,kA t<L->s.length<L->kA t+4<=n->kA t<1000000->
    aOK (cG L n 15 [⟨.rc 3,t⟩,⟨.sl (.rc 4),s⟩]) (2*kA t):=by
 intro t;induction t using sO with
 |h k nm v l ih=>
  intro L n hL hL2 hn hw;have h4:4<=kA ⟨k,nm,v,l⟩:=by simp only[kA];omega
  have hll:=mA l;have htl:dH l+4<=kA ⟨k,nm,v,l⟩:=by simp only[kA];omega
  obtain⟨n,rfl⟩: ∃n',n=n'+3:=⟨n-3,by omega⟩
  rw[c15,a3e,aAF];have iG: ∀z:G.T,aOK (ZX (cG L (n+2)) L ⟨k,nm,v,l⟩ z) (2*kA ⟨k,nm,v,l⟩):=λz=>⟨_,rfl,by omega⟩
  by_cases h1:k=1
  .rw[show decide ((G.T.mk k nm v l).kind=1)=true from bF h1,cC,aWw (by omega) hL2]
   cases e:aNO s (G.T.mk k nm v l).name with
   |none=>exact iG aK8
   |some t=>
    obtain⟨a,g1,g2⟩:=QG e;have:=hs a g1;exact⟨t,rfl,by rw[<-g2];omega⟩
  .rw[show decide ((G.T.mk k nm v l).kind=1)=false from bG h1,bU]
   by_cases h3:k=3
   .rw[show decide ((G.T.mk k nm v l).kind=3)=true from bF h3,cC]
    have hc:a4g (cG L (n+2) 39 [⟨.sl (.rc 3),l⟩,⟨.sl (.rc 4),s⟩]) (2*dH l):=by
     rw[c39];obtain⟨r,h5,h6⟩:=aBF (L:=L) (n:=n+1) (s:=s) (a:=l) (by omega) l 0 L [] rfl (by omega) rfl (λx hx=>by
      have:=fJ hx;exact ih x hx L (n+1) (by omega) hL2 (by omega) (by omega))
     exact⟨r,h5,by simpa [dH]using h6⟩
    obtain⟨r,h5,h6⟩:=hc;show aOK (fZ (D:=U0.D) [.sl (.rc 3)] (cG L (n+2) 39 [⟨.sl (.rc 3),l⟩,⟨.sl (.rc 4),s⟩]) _) _;rw[h5,Vr];have ha:cG L (n+1+1) 34 [⟨.rc 1,nm⟩,⟨.sl (.rc 3),r⟩]=some [⟨.rc 3,tA nm r⟩]:=by rw[a39];rfl
    show aOK (qB (cG L (n+1+1) 34 [⟨.rc 1,nm⟩,⟨.sl (.rc 3),r⟩]) _) _;rw[ha,jN];exact⟨_,rfl,by rw[tS];omega⟩
   .rw[show decide ((G.T.mk k nm v l).kind=3)=false from bG h3,bU]
    exact iG _
end Go.TV
namespace Go.TV
open Go.AI Go.PI Go.Proofs
set_option maxRecDepth 20000
def aXl(x:Rt):Prop:= ∃(l:List G.T) (s:G.Z),x=some [⟨.sl (.rc 3),l⟩,⟨.rc 0,s⟩]/\l.length<=6/\dH l<=31000
structure Clc(c:cJ)(E:List G.E):Prop where
 h:Lib c
 li: ∀s,eB s->TSR (c 14 [⟨.sl (.rc 15),E⟩,⟨.int .i64,(2:Int)⟩,⟨.rc 0,s⟩]) 2523
 su: ∀(t:G.T) (s:List G.I),kA t<=2523->(∀a∈s,kA a.term<=6)->s.length<=3->aOK (c 15 [⟨.rc 3,t⟩,⟨.sl (.rc 4),s⟩]) 5046
 ad: ∀(a:List G.T) (t:G.T),dH a<50000->aOM (c 16 [⟨.sl (.rc 3),a⟩,⟨.sl (.rc 3),([t]:List G.T)⟩]) (dH a+kA t+1) (a.length+1)
section
variable{c:cJ}{E:List G.E}(h:Clc c E)
include h
def aEn{L:Nat}{n1:Int->List G.E->Int->List G.T->G.Z->Rt}{a5:List G.T}{a7 a6:Int}(ha:dH a5<50000){Q:Rt->Prop}
    (hk: ∀(a:List G.T) (s:G.Z),dH a<=dH a5+5047->a.length<=a5.length+1->eB s->Q (n1 a6 E (IntKind.i64.wrap (a7+1)) a s)):
    ∀(j k m:Nat) (acc:List G.I) (s:G.Z),k+j=3->acc.length=k->(∀a∈acc,kA a.term<=6)->j<m->eB s->
      Q (NE c L n1 m (3:Int) ([[120],[121],[122]]:List (List UInt8)) (k:Int) a5 acc a7 a6 E s):=by
 intro j;induction j with
 |zero=>
  intro k m acc s h1 h2 h3 h4 hs;obtain⟨m,rfl⟩: ∃m',m=m'+1:=⟨m-1,by omega⟩
  have e3:decide ((k:Int)<(3:Int))=false:=by simp;omega
  rw[NE,aFd,e3,bU];obtain⟨t,s2,e,g1,g2⟩:=h.li s hs;rw[e,qA];obtain⟨t2,e,g3⟩:=h.su t acc g1 h3 (by omega)
  simp only[];rw[e,jN];obtain⟨a2,e,g4,g5⟩:=h.ad a5 t2 ha;simp only[];rw[e,Vr];exact hk a2 s2 (by omega) g5 g2
 |succ j ih=>
  intro k m acc s h1 h2 h3 h4 hs;obtain⟨m,rfl⟩: ∃m',m=m'+1:=⟨m-1,by omega⟩
  have e3:decide ((k:Int)<(3:Int))=true:=by simp;omega
  obtain⟨w,hw⟩: ∃w,([[120],[121],[122]]:List (List UInt8))[k]?=some w:=⟨_,aV (by simp;omega)⟩
  rw[NE,aFd,e3,cC,bZ,hw,cY,h.h.u,Lz];obtain⟨r,s',e,g1,g2,g3⟩:=h.h.nx s 6 hs (by omega)
  simp only[];rw[e];show Q (ob (slc ([117,118,119,120,121,122]:List UInt8) r 6) λv3=>ob (slc v3 (0:Int) (1:Int)) λv4=>qB (c 13 [⟨.str,v4⟩]) _)
  obtain⟨w1,e1,l1⟩:=uE (l:=([117,118,119,120,121,122]:List UInt8)) (hi:=6) g1 (by omega) (by decide)
  obtain⟨w2,e2,l2⟩:=uE (l:=w1) (lo:=0) (hi:=1) (by omega) (by omega) (by omega)
  rw[e1,cY,e2,cY,h.h.v,jN];have e4:Nat.ble ((acc.length+([(⟨⟨GX,w⟩,tV w2⟩:G.I)]:List G.I).length)*208) 1073741824=true:=by
   rw[Nat.ble_eq];simp only[aM,aX];omega
  simp only[e4,eH];rw[dU (by omega)]
  refine ih (k+1) m (acc++ [⟨⟨GX,w⟩,tV w2⟩]) s' (by omega) (by simp;omega) (λa ha=>?_) (by omega) g3
  rcases List.mem_append.1 ha with h5|h5
  .exact h3 a h5
  .rw[List.mem_singleton.1 h5];show kA (tV w2)<=6;rw[aFz];exact aS _
def aEp{L:Nat}(hL:10<=L){r:Nat}(hr:r<=6): ∀(j k m:Nat) (a:List G.T) (s:G.Z),k+j=r->a.length<=k->dH a<=5047*k->j<m->eB s->
    aXl (NF c L m (r:Int) E (k:Int) a s):=by
 intro j;induction j with
 |zero=>
  intro k m a s h1 h2 h3 h4 hs;obtain⟨m,rfl⟩: ∃m',m=m'+1:=⟨m-1,by omega⟩
  have e3:decide ((k:Int)<(r:Int))=false:=by simp;omega
  rw[NF,aFe,e3,bU];exact⟨a,s,rfl,by omega,by omega⟩
 |succ j ih=>
  intro k m a s h1 h2 h3 h4 hs;obtain⟨m,rfl⟩: ∃m',m=m'+1:=⟨m-1,by omega⟩
  have e3:decide ((k:Int)<(r:Int))=true:=by simp;omega
  rw[NF,aFe,e3,cC];refine aEn h (by omega) (Q:=aXl) (λa2 s2 g1 g2 g3=>?_) 3 0 L [] s rfl rfl (λ_ h=>by cases h) (by omega) hs
  rw[dU (by omega)]
  exact ih (k+1) m a2 s2 (by omega) (by omega) (by omega) (by omega) g3
def SQ{L:Nat}(hL:10<=L){s:G.Z}(hs:eB s):aXl (F4 c L E s):=by
 obtain⟨r,s',e,g1,g2,g3⟩:=h.h.nx s 7 hs (by omega)
 rw[F4,aOq,e,lV];obtain⟨m,rfl⟩: ∃m:Nat,r=(m:Int):=⟨r.toNat,by omega⟩
 exact aEp h hL (by omega) m 0 L [] s' (by omega) (by simp) (by simp[dH]) (by omega) g3
end
end Go.TV
namespace Go.PI
open Go.AI
def kW(l:List Nat):List PV:=l.map λ(x:Nat)=> .v (.int .i64 (x:Int))
def a2c(gs:List (List Nat)):PV:=dD 1 (gs.map λg=>dD 1 (kW g))
def yZ:List PV->Option (List Nat)
 |[]=>some []
 | .v (.int .i64 n)::r=>bif decide (0<=n)then(yZ r).map (n.toNat:: ·)else none
 |_=>none
def Aq:PV->Option (List Nat)
 | .sl z es=>bif Nat.beq z 1 then yZ es else none
 | .emp=>some []
 | .nil=>some []
 |_=>none
structure a3g where
 f:Nat
 c:PC
 rs:List ResultVar
 L:Nat
def Ca(P:Program)(K:a3g)(pc:fI):fI:=λf args p=>
 bif Nat.beq f K.f then(match yQ P pc K.L K.c K.rs args p with
 |some (v,_,p')=>match Aq v with
  |some l=>bif okL l then some (a2c (Ic.grp l),false,p')else none
  |none=>none
 |none=>none)else pc f args p
section
variable{J:Nu}{I:Ga}{H:St}{p:PSt}{P:Program}
def IQ{off:Nat}: ∀{es:List PV} {l:List Nat} {rcs:List Value},yZ es=some l->(∀(i:Nat) (x:PV) (u:Value),es[i]?=some x->rcs[i]?=some u->R J H x u)->rcs.length=es.length->rW rcs=some l
 |[],l,rcs,h,_,hl=>by
  cases h;cases rcs with
  |nil=>rfl
  |cons a r=>cases hl
 |x::es,l,rcs,h,hr,hl=>by
  cases rcs with
  |nil=>cases hl
  |cons u rcs=>
  unfold yZ at h;split at h
  .cases ‹x::es=[]›
  .rename_i n r e;cases e;cases hd:decide (0<=n)with
   |false=>rw[hd]at h;cases h
   |true=>
    rw[hd,aI,aF]at h;obtain⟨y,h1,rfl⟩:=h;have hu:u= .int .i64 n:=R.int_inv (hr 0 _ u rfl rfl);subst hu;have ih:=IQ (off:=off) h1 (λi x v h2 h3=>hr (i+1) x v (by simpa using h2) (by simpa using h3)) (by simpa using hl)
    simp only[rW,hd,aI,ih,aK]
  .cases h
def SG{v:PV}{u:Value}{l:List Nat}(h:R J H v u)(hl:Aq v=some l):xH H u=some l/\HL H u=true:=by
 unfold Aq at hl;split at hl
 .rename_i z es;cases hz:Nat.beq z 1 with
  |false=>rw[hz]at hl;cases hl
  |true=>
   rw[hz,aI]at hl;cases aE hz;cases h with
   |sl _ _ id off c rcs m hz1 hs hr hm hb hh=>
    have fm:eD es=es:=by
     unfold eD;have: ∀es:List PV,(∀e∈es,e.cells=[e])->es.flatMap PV.cells=es:=by
      intro es;induction es with
      |nil=>intro _;rfl
      |cons e es ih=>intro h;rw[aN,h e (aH ..),ih λx hx=>h x (aG _ hx)];rfl
     refine this es ?_;have: ∀(es:List PV) (l:List Nat),yZ es=some l->∀e∈es,e.cells=[e]:=by
      intro es;induction es with
      |nil=>intro l _ e he;cases he
      |cons x es ih=>
       intro l h e he;unfold yZ at h;split at h
       .cases ‹x::es=[]›
       .rename_i n r e1;cases e1;cases hd:decide (0<=n)with
        |false=>rw[hd]at h;cases h
        |true=>
         rw[hd,aI,aF]at h;obtain⟨y,h1,_⟩:=h;rcases List.mem_cons.1 he with rfl|he
         .rfl
         .exact ih y h1 e he
       .cases h
     exact this es l hl
    rw[fm]at hh;have hc:cut rcs off es.length=some ((rcs.drop off).take es.length):=by
     unfold cut;have:Nat.beq ((rcs.drop off).take es.length).length es.length=true:=by
      rw[cQ,aD,List.length_take,List.length_drop];omega
     simp only[this,aI]
    have hn:rW ((rcs.drop off).take es.length)=some l:=by
     refine IQ (J:=J) (H:=H) (off:=off) hl (λi x u h1 h2=>?_) (by rw[List.length_take,List.length_drop];omega)
     rw[List.getElem?_take]at h2;split at h2
     .rw[List.getElem?_drop]at h2;exact hh i x u h1 h2
     .cases h2
    refine⟨?_,?_⟩
    .simp only[xH,hr.1,hc,hn]
    .cases he:es.length with
     |zero=>rfl
     |succ n=>simp only[HL,hr.1,hm,Nat.beq_refl]
 .cases hl;cases h with
  |emp0=>exact⟨rfl,rfl⟩
  |emp1 id off c rcs m hr=>
   refine⟨?_,rfl⟩;have hc:cut rcs off 0=some []:=by simp[cut]
   simp only[xH,hr.1,hc,rW]
  |emp2 b o s c=>exact⟨rfl,rfl⟩
 .cases hl;cases h;exact⟨rfl,rfl⟩
 .cases hl
def SX(M:Mem J I p H)(gs:List (List Nat))(I1:Ga):Keep J I1 H (kJ H gs):=by
 have bh: ∀{a ob},H.get a=some ob->a<H.next:=λ{a ob} h=>by
  rcases Nat.lt_or_ge a H.next with h1|h1
  .exact h1
  .rw[M.free a h1]at h;cases h
 refine⟨pO _ _,by rw[mG];omega,λa h=>?_,λa _ cs m h=>⟨m.tip,by rw[eY (bh h),h],id,λ_=>rfl⟩⟩
 cases e:H.get a with
 |none=>rfl
 |some ob=>rw[eY (bh e),e]at h;cases h
def aNA(M:Mem J I p H)(gs:List (List Nat)):Mem J I p (kJ H gs)/\Adv J I p H J I p (kJ H gs)/\R J (kJ H gs) (a2c gs) (aEq H.next gs):=by
 have kp:=λI1=>SX M gs I1
 have bh: ∀{a ob},H.get a=some ob->a<H.next:=λ{a ob} h=>by
  rcases Nat.lt_or_ge a H.next with h1|h1
  .exact h1
  .rw[M.free a h1]at h;cases h
 refine⟨⟨M.le,λid a h=>by rw[mG];have:=M.lt id a h;omega,M.inj,M.live,λid o h=>?_,λa h=>?_,λg=>?_⟩,⟨kp I,.refl H J,.refl H I,.refl p,λa cs m h=>⟨cs,m.tip,by rw[eY (bh h),h]⟩,λid a h _=>⟨eY (M.lt id a h),h⟩⟩,?_⟩
 .exact(M.get id o h).keep (I1:=λ_=>some .out) (kp _) (.refl H J) rfl (λa h1=>eY (M.lt id a h1)) (λi off h1 _=>⟨rfl,h1⟩)
 .rw[mG]at h;rw[B8 h];exact M.free a (by omega)
 .have:=M.ver g;simp only[St.ver,pO]at this⊢;exact this
 .have fz: ∀{id cs},H.next<=id->(kJ H gs).get id=some (.cells cs aA0)->Fz J (kJ H gs) id cs aA0:=λ{id cs} h1 h2=>
   ⟨row_of_get h2 rfl,λk hk=>by have:=M.lt k id hk;omega⟩
  have inner: ∀(g:List Nat) (j:Nat),gs[j]?=some g->R J (kJ H gs) (dD 1 (kW g)) (.slice (some ⟨H.next+1+j,0,none⟩) g.length (g.length+1)):=by
   intro g j hj;have hz:=fz (by omega) (Av (H:=H) hj)
   cases g with
   |nil=>exact .emp1 _ _ _ _ _ hz
   |cons x g=>
    have hlen:(kW (x::g)).length=(x::g).length:=by simp[kW]
    have bu: ∀e∈kW (x::g),e.cells=[e]/\e.pur=true:=by
     intro e he;unfold kW at he;obtain⟨y,_,rfl⟩:=List.mem_map.1 he;exact⟨rfl,rfl⟩
    have fm:eD (kW (x::g))=kW (x::g):=by
     unfold eD;have: ∀es:List PV,(∀e∈es,e.cells=[e])->es.flatMap PV.cells=es:=by
      intro es;induction es with
      |nil=>intro _;rfl
      |cons e es ih=>intro h;rw[aN,h e (aH ..),ih λx hx=>h x (aG _ hx)];rfl
     exact this _ λe he=>(bu e he).1
    have hr:=R.sl (J:=J) (H:=kJ H gs) 1 (kW (x::g)) (H.next+1+j) 0 ((x::g).length+1) (qH (x::g)) aA0 (aS _) (λe he=>by rw[(bu e he).1];exact⟨rfl,by simp[(bu e he).2]⟩) hz rfl
     (by rw[hlen];simp[qH]) (λi y u h1 h2=>by
      rw[fm]at h1;unfold kW at h1;unfold qH at h2;rw[List.getElem?_map,aF]at h1;rw[Nat.zero_add,List.getElem?_map,aF]at h2;obtain⟨a,h3,rfl⟩:=h1;obtain⟨b,h4,rfl⟩:=h2;rw[h3]at h4;cases h4;exact .v _ rfl)
    rw[hlen]at hr;exact hr
  cases gs with
  |nil=>exact .emp0
  |cons g gs=>
   have hlen:((g::gs).map λg=>dD 1 (kW g)).length=(g::gs).length:=List.length_map ..
   have bu: ∀e∈((g::gs).map λg=>dD 1 (kW g)),e.cells=[e]/\e.pur=true:=by
    intro e he;obtain⟨y,_,rfl⟩:=List.mem_map.1 he;cases kW y<;>exact⟨rfl,rfl⟩
   have fm:eD ((g::gs).map λg=>dD 1 (kW g))=(g::gs).map λg=>dD 1 (kW g):=by
    unfold eD;have: ∀es:List PV,(∀e∈es,e.cells=[e])->es.flatMap PV.cells=es:=by
     intro es;induction es with
     |nil=>intro _;rfl
     |cons e es ih=>intro h;rw[aN,h e (aH ..),ih λx hx=>h x (aG _ hx)];rfl
    exact this _ λe he=>(bu e he).1
   have hr:=R.sl (J:=J) (H:=kJ H (g::gs)) 1 ((g::gs).map λg=>dD 1 (kW g)) H.next 0 (gs.length+2) (aFB (H.next+1) (g::gs)) aA0 (aS _) (λe he=>by rw[(bu e he).1];exact⟨rfl,by simp[(bu e he).2]⟩) (fz (aS _) sI) rfl
    (by rw[hlen,EM];omega) (λi y u h1 h2=>by
     rw[fm]at h1;rw[List.getElem?_map,aF]at h1;obtain⟨a,h3,rfl⟩:=h1;rw[Nat.zero_add,Ll _ _ _ _ h3]at h2;cases h2;exact inner a i h3)
   rw[hlen]at hr;exact hr
def SZ{K:a3g}{KA:Cm}{pc:fI}{ac:FuncId->Array Value->St->Option (Value×St)}(h0:jD pc ac)(hf:K.f=KA.f)(h4:nE K.c)(h5:dX P KA.fn.ntmps (dY K.c)=true)(hc:KA.c=dY K.c)(la:K.rs=KA.fn.results.toList)(hL:K.L=KA.L):jD (Ca P K pc) (Ej P KA ac):=by
 intro g args p v own p' h J I H us M r ho;unfold Ca at h;unfold Ej;rw[hf]at h;cases hg:Nat.beq g KA.f with
 |false=>rw[hg]at h;exact h0 g args p v own p' h J I H us M r ho
 |true=>
 rw[hg,aI]at h;simp only[aI];split at h
 .rename_i w ow p1 hs;split at h
  .rename_i l hl;cases hk:okL l with
   |false=>rw[hk]at h;cases h
   |true=>
    rw[hk,aI]at h;simp only[aA,aB]at h;obtain⟨rfl,rfl,rfl⟩:=h;rw[la]at hs;obtain⟨u,H1,J1,I1,e1,e2,_,e4,e5,e6⟩:=AS h0 h4 h5 hs M r ho;rw[hc,<-hL,e1];obtain⟨g1,g2⟩:=SG e2 hl;obtain⟨m1,m2,m3⟩:=aNA e4 (Ic.grp l);simp only[g1,hk,g2,Bool.and_self,aI];refine⟨_,_,J1,I1,rfl,m3,(λh=>by cases h),m1,e5.trans m2,λj hj hn=>?_⟩
    rw[eY (Nat.lt_of_lt_of_le hj e5.keep.next)];exact e6 j hj hn
  .cases h
 .cases h
end
end Go.PI
namespace Go.TV
open Go.AI Go.PI
section
variable{U:gT}{T:TP U.D}{P:Program}
def yY:List Int->Option (List Nat)
 |[]=>some []
 |n::r=>bif decide (0<=n)then(yY r).map (n.toNat:: ·)else none
def eG(l:List Nat):List Int:=l.map λ(x:Nat)=>(x:Int)
def Bo: ∀l:List Nat,yY (eG l)=some l
 |[]=>rfl
 |x::l=>by
  show yY ((x:Int)::eG l)=_;rw[yY,bF (Int.natCast_nonneg x),aI,Bo l];rfl
def DO: ∀(l:List Int),yZ (l.map λn=> .v (.int .i64 n))=yY l
 |[]=>rfl
 |n::l=>by simp only[aO,yZ,yY,DO l]
def a3U(cm:FuncId)(t:Ty):Dj:=⟨cm,[(.val t,false)],[],[],[.sl (.sl (.int .i64))],false⟩
def aXM(h:FuncId)(t:Ty)(own:Bool):Dj:=⟨h,[(.val t,false)],[],[],[.sl (.int .i64)],own⟩
def MC(T:TP U.D)(cm:FuncId)(tA:List (V U)->Option (List (V U)))(tc:kX U.D):kX U.D:=λi d=>match T.sig i with
 |some s=>bif Nat.beq s.f cm then(match tA d with
  |some [⟨.sl (.int .i64),l⟩]=>match yY l with
   |some n=>bif AI.okL n then some [⟨.sl (.sl (.int .i64)),(Ic.grp n).map eG⟩]else none
   |none=>none
  |_=>none)else tc i d
 |none=>none
def SY(hU:gO U)(hT:oQ P U T){cm h:FuncId}{t:Ty}{own:Bool}{tc:kX U.D}{pc:fI}{L:Nat}{code:TC}{rs:List ResultVar}(h0:CallOK U T tc pc)(hs: ∀i s,T.sig i=some s->s.f=cm->s=a3U cm t):
    CallOK U T (MC T cm (λd=>lN U (cutOf (aXM h t own)) (λS M=>fM U T tc L code S M (JU U T (aXM h t own) rs)) d) tc) (Ca P ⟨cm,code.pc,rs,L⟩ pc):=by
 intro i s d out h1 hx p cc args S0 M0 hin;unfold MC at hx;rw[h1]at hx;simp only at hx;unfold Ca;cases hf:Nat.beq s.f cm with
 |false=>rw[hf]at hx;exact h0 i s d out h1 hx p cc args S0 M0 hin
 |true=>
  rw[hf,aI]at hx;have e:=hs i s h1 (aE hf);subst e;simp only[aI];split at hx
  .rename_i l hl;split at hx
   .rename_i n hn;cases hk:AI.okL n with
    |false=>rw[hk]at hx;cases hx
    |true=>
    rw[hk,aI]at hx;simp only[aA]at hx;subst hx;obtain⟨pv,ow,p',k1,k2⟩:=AQ hU hT h0 (s:=aXM h t own) (Nat.zero_le _) rfl hl (p:=p) (cc:=cc) (args:=args) (S0:=S0) (M0:=M0) ⟨hin.start,hin.len,hin.args,hin.bx,hin.dom,hin.lt,hin.inj,hin.wr⟩;have hv:VR U (.sl (.int .i64)) l pv:=k2.res.1;have hlab:Aq pv=some n:=by
     rcases(pC hv).2 with⟨rfl,rfl|rfl|rfl⟩|⟨_,rfl⟩
     .rw[<-hn];rfl
     .rw[<-hn];rfl
     .rw[<-hn];rfl
     .rw[<-hn,<-DO];rfl
    refine⟨a2c (Ic.grp n),false,p',?_,⟨⟨?_,bW _ _⟩,⟨[],rfl,λj x hj=>(by cases hj)⟩,k2.next,k2.get,k2.get2,k2.dirty,k2.dirty2,k2.wr⟩⟩
    .rw[k1];simp only[hlab,hk,aI]
    .refine uB (U:=U) (.sl (.int .i64)) ((Ic.grp n).map eG) rfl ?_;rw[List.map_map];refine List.map_congr_left λg _=>?_
     show dD 1 (kW g)=dD 1 ((eG g).map _);congr 1;unfold kW eG;rw[List.map_map];exact List.map_congr_left λx _=>rfl
   .cases hx
  .cases hx
end
end Go.TV
namespace Go.TV
open Go.AI Go.PI Go.Proofs
def xJ{i n:Nat}(h:i<n):bV (i:Int) n=true:=by
 unfold bV;rw[aC,aD,aD];omega
def gK(l:List Nat):(eG l).length=l.length:=List.length_map ..
def jJ{l:List Nat}{k:Nat}(h:k<l.length):(eG l)[k]?=some ((Ic.at0 l k:Nat):Int):=by
 unfold eG;rw[List.getElem?_map,Ic.at0_eq h];rfl
def vS(l:List Nat)(k a:Nat):(eG l).set (Int.toNat (k:Int)) (a:Int)=eG (l.set k a):=by
 unfold eG;rw[List.map_set];rfl
def wO: ∀n:Nat,pT (0:Int) n=eG (List.replicate n 0)
 |0=>rfl
 |n+1=>by
  show(0:Int)::pT 0 n=_;rw[wO n];rfl
def iG(k:Nat)(a m:Nat)(l:List Nat):List Nat:=l.take k++Ic.mg a m (l.drop k)
def aGs(a m:Nat)(l:List Nat):iG 0 a m l=Ic.mg a m l:=by simp[iG]
def Qo{k:Nat}{a m:Nat}{l:List Nat}(h:l.length<=k):iG k a m l=l:=by
 unfold iG;rw[List.take_of_length_le h,List.drop_eq_nil_of_le h];simp[Ic.mg]
def JT{k:Nat}{a m:Nat}{l:List Nat}(h:k<l.length):iG k a m l=iG (k+1) a m (if Ic.at0 l k=m then l.set k a else l):=by
 have hd:l.drop k=Ic.at0 l k::l.drop (k+1):=by
  rw[List.drop_eq_getElem_cons h];congr 1;have:=Ic.at0_eq h;rw[aV h]at this;exact Option.some.inj this
 unfold iG;rw[hd];have ko: ∀y:Nat,(l.set k y).take (k+1)=l.take k++ [y]:=by
  intro y;rw[List.take_add_one,List.take_set_of_le (aS k),List.getElem?_set_self h];rfl
 have htk2:l.take (k+1)=l.take k++ [Ic.at0 l k]:=by
  rw[List.take_add_one,Ic.at0_eq h];rfl
 by_cases e:Ic.at0 l k=m
 .rw[bI e,ko,List.drop_set_of_lt (by omega),aQ]
  simp[Ic.mg,e]
 .rw[bH e,htk2,aQ];simp[Ic.mg,e]
def a3Q(x y:Nat):(bif decide ((x:Int)<(y:Int))then(y:Int)else(x:Int))=((max x y:Nat):Int):=by
 by_cases h:x<y
 .rw[bF (by omega),aI,Nat.max_eq_right (by omega)]
 .rw[bG (by omega),aJ,Nat.max_eq_left (by omega)]
def a3P(x y:Nat):(bif decide ((y:Int)<(x:Int))then(y:Int)else(x:Int))=((min x y:Nat):Int):=by
 by_cases h:y<x
 .rw[bF (by omega),aI,Nat.min_eq_right (by omega)]
 .rw[bG (by omega),aJ,Nat.min_eq_left (by omega)]
def num(k n:Nat):List Nat:=List.range k++List.replicate (n-k) 0
def aF6(n:Nat):num 0 n=List.replicate n 0:=by simp[num]
def aF5(n:Nat):num n n=List.range n:=by simp[num]
def P7{k n:Nat}(h:k<=n):(num k n).length=n:=by simp[num];omega
def P6{k n:Nat}(h:k<n):(num k n).set k k=num (k+1) n:=by
 unfold num;rw[List.set_append_right _ _ (by simp),List.length_range,Nat.sub_self,List.range_succ,aQ]
 congr 1;obtain⟨m,hm⟩: ∃m,n-k=m+1:=⟨n-k-1,by omega⟩
 rw[hm,List.replicate_succ,List.set_cons_zero,show n-(k+1)=m by omega];rfl
def Xk(a b:List G.Y):Bool:=decide (∃x,x∈a/\x∈b)
def Qz(b:List G.Y):Xk [] b=false:=by simp[Xk]
def Km(x:G.Y)(a b:List G.Y):Xk (x::a) b=(decide (x∈b)||Xk a b):=by
 unfold Xk;by_cases h:x∈b<;>simp[h]
def EG(a:List G.T)(i:Nat):List G.Y:=match a[i]? with|some t=>iY [] [t]|none=>[]
def shr(a:List G.T)(i k:Nat):Bool:=Xk (EG a i) (EG a k)
end Go.TV
namespace Go.TV
open Go.AI Go.PI Go.Proofs
set_option maxRecDepth 20000
def aWl{c:cJ}{L:Nat}{n1:List G.Y->List G.Y->Int->Rt}{a b:List G.Y}{i:Nat}{x:G.Y}(hx:a[i]?=some x)(hb:b.length<1000000000): ∀(l:List G.Y) (k m:Nat),b.drop k=l->l.length<m->
    CC c L n1 m (k:Int) (i:Int) a b=if x∈l then some [⟨.bool,true⟩]else n1 a b (IntKind.i64.wrap ((i:Int)+1)):=by
 intro l;induction l with
 |nil=>
  intro k m h1 h3;obtain⟨m,rfl⟩: ∃m',m=m'+1:=⟨m-1,by simp at h3;omega⟩
  have e1:=dJ h1;have e3:decide ((k:Int)<(b.length:Int))=false:=by simp;omega
  rw[CC,RO,e3,bU,bH (by simp)]
 |cons y l ih=>
  intro k m h1 h3;obtain⟨m,rfl⟩: ∃m',m=m'+1:=⟨m-1,by simp at h3;omega⟩
  obtain⟨a1,a2,a3⟩:=dL h1;have e3:decide ((k:Int)<(b.length:Int))=true:=by simp;omega
  rw[CC,RO,e3,cC,bZ,hx,cY,bZ,a1,cY];by_cases e:x=y
  .rw[bF e,cC,bI (by rw[e];exact aH ..)]
  .rw[bG e,bU,dU (by omega),ih (k+1) m a3 (by simp at h3;omega)]
   simp[e]
def aEk{c:cJ}{L:Nat}{a b:List G.Y}(ha:a.length<1000000000)(hb:b.length<1000000000)(hL:b.length<L): ∀(l:List G.Y) (k m:Nat),a.drop k=l->l.length<m->
    zJ c L m a b (k:Int)=some [⟨.bool,Xk l b⟩]:=by
 intro l;induction l with
 |nil=>
  intro k m h1 h3;obtain⟨m,rfl⟩: ∃m',m=m'+1:=⟨m-1,by simp at h3;omega⟩
  have e1:=dJ h1;have e3:decide ((k:Int)<(a.length:Int))=false:=by simp;omega
  rw[zJ,RP,e3,bU,Qz]
 |cons y l ih=>
  intro k m h1 h3;obtain⟨m,rfl⟩: ∃m',m=m'+1:=⟨m-1,by simp at h3;omega⟩
  obtain⟨a1,a2,a3⟩:=dL h1;have e3:decide ((k:Int)<(a.length:Int))=true:=by simp;omega
  have h2:=aWl (c:=c) (L:=L) (n1:=zJ c L m) a1 hb b 0 L rfl hL;rw[zJ,RP,e3,cC];refine h2.trans ?_;rw[Km];by_cases e:y∈b
  .rw[bI e,bF e];rfl
  .rw[bH e,bG e,dU (by omega),ih (k+1) m a3 (by simp at h3;omega)];rfl
def aWk{a b:List G.Y}{L n:Nat}(ha:a.length<1000000000)(hb:b.length<1000000000)(hL:a.length<L)(hL2:b.length<L):cG L (n+1) 18 [⟨.sl (.rc 1),a⟩,⟨.sl (.rc 1),b⟩]=some [⟨.bool,Xk a b⟩]:=by
 rw[c18];exact aEk ha hb hL2 a 0 L rfl hL
section
variable{c:cJ}{L:Nat}{a:List G.T}{vs:List (List G.Y)}
def aBN{n3:Int->Int->List G.T->List (List G.Y)->List Int->Rt}{n2:Int->List G.T->List (List G.Y)->List Int->Rt}{x y k i:Nat}(hn:a.length<1000000000): ∀(j q m:Nat) (l:List Nat),q+j=a.length->l.length=a.length->j<m->
    NA c L n3 n2 m (x:Int) (y:Int) (q:Int) (k:Int) (i:Int) a vs (eG l)=n3 (IntKind.i64.wrap ((k:Int)+1)) (i:Int) a vs (eG (iG q y x l)):=by
 intro j;induction j with
 |zero=>
  intro q m l h1 h2 h3;obtain⟨m,rfl⟩: ∃m',m=m'+1:=⟨m-1,by omega⟩
  have e3:decide ((q:Int)<(a.length:Int))=false:=by simp;omega
  rw[NA,aE5,e3,bU,To,aAs,Qo (by omega)]
 |succ j ih=>
  intro q m l h1 h2 h3;obtain⟨m,rfl⟩: ∃m',m=m'+1:=⟨m-1,by omega⟩
  have e3:decide ((q:Int)<(a.length:Int))=true:=by simp;omega
  have hi:bV (q:Int) (eG l).length=true:=xJ (by rw[gK];omega)
  rw[NA,aE5,e3,cC,hi,eH,bZ,jJ (by omega),cY,eH,cY,JT (by omega)]
  by_cases e:Ic.at0 l q=x
  .rw[bF (by omega),cC,Rg,Ru,vS,dU (by omega),bI e]
   exact ih (q+1) m (l.set q y) (by omega) (by rw[List.length_set];exact h2) (by omega)
  .rw[bG (by omega),bU,Rg,Ru,dU (by omega),bH e]
   exact ih (q+1) m l (by omega) h2 (by omega)
def aBQ(hv: ∀i,i<a.length->vs[i]?=some (EG a i))(hvl:vs.length=a.length)(hc: ∀i k,i<a.length->k<a.length->c 18 [⟨.sl (.rc 1),EG a i⟩,⟨.sl (.rc 1),EG a k⟩]=some [⟨.bool,shr a i k⟩])
    {n2:Int->List G.T->List (List G.Y)->List Int->Rt} {i:Nat} (hi:i<a.length) (hn:a.length<1000000000) (hL:a.length<L): ∀(j k m:Nat) (l:List Nat),k+j=i->l.length=a.length->j<m->
    KP c L n2 m (k:Int) (i:Int) a vs (eG l)=n2 (IntKind.i64.wrap ((i:Int)+1)) a vs (eG (Ic.inn (shr a) i j k l)):=by
 intro j;induction j with
 |zero=>
  intro k m l h1 h2 h3;obtain⟨m,rfl⟩: ∃m',m=m'+1:=⟨m-1,by omega⟩
  have e3:decide ((k:Int)<(i:Int))=false:=by simp;omega
  rw[KP,aFa,e3,bU];rfl
 |succ j ih=>
  intro k m l h1 h2 h3;obtain⟨m,rfl⟩: ∃m',m=m'+1:=⟨m-1,by omega⟩
  have e3:decide ((k:Int)<(i:Int))=true:=by simp;omega
  have r1:bV (i:Int) (eG l).length=true:=xJ (by rw[gK];omega)
  have r2:bV (k:Int) (eG l).length=true:=xJ (by rw[gK];omega)
  have r3:bV (i:Int) vs.length=true:=xJ (by omega)
  have r4:bV (k:Int) vs.length=true:=xJ (by omega)
  have next: ∀l':List Nat,l'.length=a.length->Ic.stp (shr a i k) i k l=l'->KP c L n2 m (IntKind.i64.wrap ((k:Int)+1)) (i:Int) a vs (eG l')=n2 (IntKind.i64.wrap ((i:Int)+1)) a vs (eG (Ic.inn (shr a) i (j+1) k l)):=λl' dw e=>by
   rw[dU (by omega),ih (k+1) m l' (by omega) dw (by omega),Ic.inn,e]
  rw[KP,aFa,e3,cC,r1,eH,bZ,jJ (by omega),cY,r2,eH,bZ,jJ (by omega),cY]
  by_cases e:Ic.at0 l i=Ic.at0 l k
  .rw[bF (by omega),cC,aEX,aE8,cC,To,aAs]
   refine next l h2 ?_
   unfold Ic.stp;rw[e,Nat.min_self,Nat.max_self,Ic.mg_same];split<;>rfl
  .rw[bG (by omega),bU,r3,eH,bZ,hv i hi,cY,r4,eH,bZ,hv k (by omega),cY,hc i k hi (by omega),lZ]
   simp only[];rw[aEX,aE8];cases hs:shr a i k with
   |false=>
    rw[Bool.not_false,cC,To,aAs];refine next l h2 ?_
    rw[hs];rfl
   |true=>
    rw[bD,bU,r1,eH,bZ,jJ (by omega),cY,r2,eH,bZ,jJ (by omega),cY,eH,cY,eH,cY,a3Q,a3P]
    refine(aBN hn a.length 0 L l (by omega) h2 hL).trans ?_
    rw[aGs];exact next _ (by rw[Ic.mg_len];exact h2) (by rw[hs];rfl)
def Tx(l:List Nat)(i:Nat):List (List Int):=(Ic.fst l i).map λf=>eG (Ic.wth l l.length f)
def aCJ(l:List Nat)(i:Nat):(Tx l i).length<=i:=by unfold Tx;rw[List.length_map];exact Ic.fst_le l i
def aCK(l:List Nat):Tx l l.length=(Ic.grp l).map eG:=by unfold Tx Ic.grp Ic.grpN;rw[List.map_map];rfl
def aBO{n4:List G.T->Int->List (List Int)->List Int->Rt}{l:List Nat}{i:Nat}{o:List (List Int)}(hl:l.length=a.length)(hn:a.length<1000000)(ho:o.length<=a.length): ∀(j k m:Nat),k+j=a.length->j<m->
    NB c L n4 m (k:Int) o (eG (Ic.wth l k i)) (i:Int) a (eG l)=n4 a (IntKind.i64.wrap ((i:Int)+1)) (o++ [eG (Ic.wth l a.length i)]) (eG l):=by
 intro j;induction j with
 |zero=>
  intro k m h1 h3;obtain⟨m,rfl⟩: ∃m',m=m'+1:=⟨m-1,by omega⟩
  have e3:decide ((k:Int)<(a.length:Int))=false:=by simp;omega
  obtain rfl:k=a.length:=by omega
  have e4:Nat.ble ((o.length+([eG (Ic.wth l a.length i)]:List (List Int)).length)*24) 1073741824=true:=by
   rw[Nat.ble_eq];simp only[aM,aX];omega
  rw[NB,aE6,e3,bU];simp only[e4,eH];rw[ZS,aE7]
 |succ j ih=>
  intro k m h1 h3;obtain⟨m,rfl⟩: ∃m',m=m'+1:=⟨m-1,by omega⟩
  have e3:decide ((k:Int)<(a.length:Int))=true:=by simp;omega
  have r1:bV (k:Int) (eG l).length=true:=xJ (by rw[gK];omega)
  have hw:=Ic.wth_le l k i;have e4:Nat.ble (((eG (Ic.wth l k i)).length+([(k:Int)]:List Int).length)*8) 1073741824=true:=by
   rw[Nat.ble_eq,gK];simp only[aM,aX];omega
  have ha:l[k]?=some (Ic.at0 l k):=Ic.at0_eq (by omega)
  have hs:=Ic.wth_succ l k i;rw[NB,aE6,e3,cC,r1,eH,bZ,jJ (by omega),cY]
  by_cases e:Ic.at0 l k=i
  .rw[bI (by rw[ha,e])]at hs
   have fy:eG (Ic.wth l (k+1) i)=eG (Ic.wth l k i)++ [(k:Int)]:=by rw[hs];unfold eG;rw[List.map_append];rfl
   rw[bF (by omega),cC]
   simp only[e4,eH];rw[Rh,Rv,dU (by omega),<-fy]
   exact ih (k+1) m (by omega) (by omega)
  .rw[bH (by rw[ha];intro h;cases h;exact e rfl)]at hs
   rw[bG (by omega),bU,Rh,Rv,dU (by omega),<-hs]
   exact ih (k+1) m (by omega) (by omega)
def aBP{l:List Nat}(hl:l.length=a.length)(hn:a.length<1000000)(hL:a.length<L): ∀(j i m:Nat),i+j=a.length->j<m->
    KO c L m a (i:Int) (Tx l i) (eG l)=some [⟨.sl (.sl (.int .i64)),(Ic.grp l).map eG⟩]:=by
 intro j;induction j with
 |zero=>
  intro i m h1 h3;obtain⟨m,rfl⟩: ∃m',m=m'+1:=⟨m-1,by omega⟩
  have e3:decide ((i:Int)<(a.length:Int))=false:=by simp;omega
  obtain rfl:i=l.length:=by omega
  rw[KO,aE9,e3,bU,aCK]
 |succ j ih=>
  intro i m h1 h3;obtain⟨m,rfl⟩: ∃m',m=m'+1:=⟨m-1,by omega⟩
  have e3:decide ((i:Int)<(a.length:Int))=true:=by simp;omega
  have r1:bV (i:Int) (eG l).length=true:=xJ (by rw[gK];omega)
  have ha:l[i]?=some (Ic.at0 l i):=Ic.at0_eq (by omega)
  have hs:=Ic.fst_succ l i;have hgl:=aCJ l i;rw[KO,aE9,e3,cC,r1,eH,bZ,jJ (by omega),cY]
  by_cases e:Ic.at0 l i=i
  .rw[bI (by rw[ha,e])]at hs
   rw[bF (by omega),bD,bU]
   have h0:([]:List Int)=eG (Ic.wth l 0 i):=rfl;rw[h0];refine(aBO (c:=c) (L:=L) (i:=i) (o:=Tx l i) hl hn (by omega) a.length 0 L (by omega) hL).trans ?_
   have hg:Tx l i++ [eG (Ic.wth l a.length i)]=Tx l (i+1):=by unfold Tx;rw[hs,List.map_append,hl];rfl
   rw[hg,dU (by omega)]
   exact ih (i+1) m (by omega) (by omega)
  .rw[bH (by rw[ha];intro h;exact e (Option.some.inj h))]at hs
   have hg:Tx l i=Tx l (i+1):=by unfold Tx;rw[hs]
   rw[bG (by omega),Bool.not_false,cC,ZS,aE7,dU (by omega),hg]
   exact ih (i+1) m (by omega) (by omega)
def aBR(hv: ∀i,i<a.length->vs[i]?=some (EG a i))(hvl:vs.length=a.length)(hc: ∀i k,i<a.length->k<a.length->c 18 [⟨.sl (.rc 1),EG a i⟩,⟨.sl (.rc 1),EG a k⟩]=some [⟨.bool,shr a i k⟩])
    (hn:a.length<1000000) (hL:a.length<L): ∀(j i m:Nat) (l:List Nat),i+j=a.length->l.length=a.length->j<m->
    NC c L m (i:Int) a vs (eG l)=some [⟨.sl (.sl (.int .i64)),(Ic.grp (Ic.outr (shr a) j i l)).map eG⟩]:=by
 intro j;induction j with
 |zero=>
  intro i m l h1 h2 h3;obtain⟨m,rfl⟩: ∃m',m=m'+1:=⟨m-1,by omega⟩
  have e3:decide ((i:Int)<(a.length:Int))=false:=by simp;omega
  rw[NC,aFb,e3,bU];exact aBP h2 hn hL a.length 0 L (by omega) hL
 |succ j ih=>
  intro i m l h1 h2 h3;obtain⟨m,rfl⟩: ∃m',m=m'+1:=⟨m-1,by omega⟩
  have e3:decide ((i:Int)<(a.length:Int))=true:=by simp;omega
  rw[NC,aFb,e3,cC];refine(aBQ hv hvl hc (by omega) (by omega) hL i 0 L l (by omega) h2 (by omega)).trans ?_
  rw[dU (by omega)]
  exact ih (i+1) m _ (by omega) (by rw[Ic.inn_len];exact h2) (by omega)
def aCs(a:List G.T)(k:Nat):List (List G.Y):=(List.range k).map (EG a)++List.replicate (a.length-k) []
def E8{k:Nat}(h:k<=a.length):(aCs a k).length=a.length:=by simp[aCs];omega
def aCr{k:Nat}(h:k<a.length):(aCs a k).set (Int.toNat (k:Int)) (EG a k)=aCs a (k+1):=by
 unfold aCs;rw[Int.toNat_natCast,List.set_append_right _ _ (by simp),List.length_map,List.length_range,Nat.sub_self,List.range_succ,List.map_append,aQ]
 congr 1;obtain⟨m,hm⟩: ∃m,a.length-k=m+1:=⟨a.length-k-1,by omega⟩
 rw[hm,List.replicate_succ,List.set_cons_zero,show a.length-(k+1)=m by omega];rfl
def HN: ∀n:Nat,pT ([]:List G.Y) n=List.replicate n []
 |0=>rfl
 |n+1=>by
  show []::pT [] n=_;rw[HN n];rfl
def aBS(hva: ∀t∈a,c 17 [⟨.sl (.rc 3),([t]:List G.T)⟩]=some [⟨.sl (.rc 1),iY [] [t]⟩])
    (hc: ∀i k,i<a.length->k<a.length->c 18 [⟨.sl (.rc 1),EG a i⟩,⟨.sl (.rc 1),EG a k⟩]=some [⟨.bool,shr a i k⟩])
    (hn:a.length<1000000) (hL:a.length<L): ∀(j k m:Nat),k+j=a.length->j<m->
    ND c L m (k:Int) a (aCs a k) (eG (num k a.length))=some [⟨.sl (.sl (.int .i64)),(Ic.grp (Ic.lab (shr a) a.length)).map eG⟩]:=by
 intro j;induction j with
 |zero=>
  intro k m h1 h3;obtain⟨m,rfl⟩: ∃m',m=m'+1:=⟨m-1,by omega⟩
  have e3:decide ((k:Int)<(a.length:Int))=false:=by simp;omega
  obtain rfl:k=a.length:=by omega
  rw[ND,aFc,e3,bU,aF5];refine aBR (λi hi=>?_) (E8 (aS _)) hc hn hL a.length 0 L (List.range a.length) (by omega) (List.length_range) hL
  unfold aCs;rw[Nat.sub_self,List.replicate_zero,bA,List.getElem?_map,List.getElem?_range hi];rfl
 |succ j ih=>
  intro k m h1 h3;obtain⟨m,rfl⟩: ∃m',m=m'+1:=⟨m-1,by omega⟩
  have e3:decide ((k:Int)<(a.length:Int))=true:=by simp;omega
  obtain⟨t,ht⟩: ∃t,a[k]?=some t:=⟨_,aV (by omega)⟩
  have hvk:EG a k=iY [] [t]:=by unfold EG;rw[ht]
  have nl:(num k a.length).length=a.length:=P7 (by omega)
  have r1:bV (k:Int) (eG (num k a.length)).length=true:=xJ (by rw[gK,nl];omega)
  have r2:bV (k:Int) (aCs a k).length=true:=xJ (by rw[E8 (by omega)];omega)
  obtain⟨y,hy⟩: ∃y,(aCs a k)[k]?=some y:=⟨_,aV (by rw[E8 (by omega)];omega)⟩
  rw[ND,aFc,e3,cC,bZ,ht,cY,hva t (List.mem_of_getElem? ht),Bl];simp only[];rw[r1,eH,bZ,jJ (by rw[nl];omega),cY,r2,eH,bZ,hy,cY,vS,P6 (by omega),<-hvk,aCr (by omega),dU (by omega)]
  exact ih (k+1) m (by omega) (by omega)
def aBM(hva: ∀t∈a,c 17 [⟨.sl (.rc 3),([t]:List G.T)⟩]=some [⟨.sl (.rc 1),iY [] [t]⟩])
    (hc: ∀i k,i<a.length->k<a.length->c 18 [⟨.sl (.rc 1),EG a i⟩,⟨.sl (.rc 1),EG a k⟩]=some [⟨.bool,shr a i k⟩])
    (hn:a.length<1000000) (hL:a.length<L):F6 c L a=some [⟨.sl (.sl (.int .i64)),(Ic.grp (Ic.lab (shr a) a.length)).map eG⟩]:=by
 have e1:(decide (0<=(a.length:Int))&&decide ((a.length:Int)<=(a.length:Int))&&decide ((a.length:Int)*(8:Int)<=1073741824)&&decide ((a.length:Int)<=1073741824))=true:=by
  simp only[aC,aD];omega
 have e2:(decide (0<=(a.length:Int))&&decide ((a.length:Int)<=(a.length:Int))&&decide ((a.length:Int)*(24:Int)<=1073741824)&&decide ((a.length:Int)<=1073741824))=true:=by
  simp only[aC,aD];omega
 have e3:decide ((a.length:Int)=(a.length:Int))=true:=by simp
 rw[F6,aOp,e1,e2,e3,eH,eH,eH,eH,Int.toNat_natCast,wO,HN,<-aF6];exact aBS hva hc hn hL a.length 0 L (by omega) hL
end
end Go.TV
namespace Go.TV.Ho
open Go.AI Go.PI Go.Proofs
section
variable(x:cM)(c:cJ)(e:Cu)(L:Nat)(π:List Nat)(ct:Cut)
noncomputable def xW:TC:=fP x.sk (iT Go.Ic.cdA x.sig.f)
noncomputable def xC:TC:=XI (xW x) π
noncomputable def xK:Kt:=JU U0 tpI x.sig (rO Go.Ic.cdA x.sig.f)
noncomputable def xT(K:Kt):Kt:=Do U0 (kI U0 tpI c e.D e.E (xC x π)) K
noncomputable def xF(d:oB):Rt:=lN U0 (cutOf x.sig) (λS M=>kI U0 tpI c e.D e.E (xW x) S M (xK x)) d
noncomputable def xA(K:Kt)(d:oB):Rt:=lN U0 ct (λS M=>kI U0 tpI c e.D e.E (xC x π) S M K) d
noncomputable def xL(K:Kt)(n:Nat)(d:oB):Rt:=Bs U0 ct (λS M K=>fM U0 tpI c L (xC x π) S M K) K n d
noncomputable def xD(K:Kt)(d:oB):Rt:=e.D ct (xC x π) d K
noncomputable def xE(K:Kt)(d:oB):Rt:=e.E ct (xC x π) d K
def dG(K:Kt):xD x (cu c L) π ct K=xA x c (cu c L) π ct K:=funext λd=>iP ct (λS M=>(aMC (T:=tpI) (c:=c) (L:=L) (xC x π) S M K).symm) d
def eV(K:Kt)(n:Nat):xL x c L π ct K (n+1)=xA x c (cu c L) π ct (gP U0 ct (xL x c L π ct K n) K):=funext λd=>iP ct (λS M=>(aMC (T:=tpI) (c:=c) (L:=L) (xC x π) S M _).symm) d
end
end Go.TV.Ho
namespace Go.TV.Ho
open Go.AI Go.PI Go.Proofs
set_option maxRecDepth 20000
noncomputable section
variable(c:cJ)(e:Cu)(L:Nat)
def aSH(c:cJ)(e:Cu):Kt:=xK ii1
def aZX:Kt:=xT ii1 c e [1,1,1] (aSH c e)
def aKD:Kt:=dK U0 0 (aZX c e)
def aZW:Kt:=xT ii1 c e (pw 4 15) (aSH c e)
def aBZ:Kt:=dK U0 2 (aZW c e)
def aZV(n2:Nt):Kt:=gP U0 Ec n2 (aBZ c e)
def aZU(n2:Nt):Kt:=xT ii1 c e (pw 10 919) (aZV c e n2)
def aZT(n2:Nt):Kt:=dK U0 3 (aZU c e n2)
def aBY(n2:Nt):Kt:=dK U0 4 (aZT c e n2)
def aKC(n3:Nt)(n2:Nt):Kt:=gP U0 Eb n3 (aBY c e n2)
def aSG(n3:Nt)(n2:Nt):Kt:=xT ii1 c e (pw 18 235927) (aKC c e n3 n2)
def aSF(n3:Nt)(n2:Nt):Kt:=dK U0 5 (aSG c e n3 n2)
def PL(n3:Nt)(n2:Nt):Kt:=dK U0 6 (aSF c e n3 n2)
def aFW(n5:Nt)(n3:Nt)(n2:Nt):Kt:=gP U0 Ea n5 (PL c e n3 n2)
def aOs(c:cJ)(b:Int->Int->List G.T->List Int->Rt)(a:List G.T):Rt:=
 jC (decide (0<=(List.length a:Int))&&decide ((List.length a:Int)<=(List.length a:Int))&&decide ((List.length a:Int)*8<=1073741824)&&decide ((List.length a:Int)<=1073741824))<|
 jC (decide ((List.length a:Int)=(List.length a:Int)))<|
 b (List.length a:Int) 0 a (pT (0:Int) (Int.toNat (List.length a:Int)))
def aFk(c:cJ)(g:Int->Int->List G.T->List Int->Rt)(h:Int->List G.T->Int->List Int->Rt)(f:Int)(a:Int)(d:List G.T)(b:List Int):Rt:=
 cH (decide (a<f)) (jC (bV a (List.length b))<|
 ob (eK b a) λi=>
 g f (IntKind.i64.wrap (a+1)) d (List.set b (Int.toNat a) a)) (h (List.length d:Int) d 0 b)
def aEQ(n:Nt):Int->Int->List G.T->List Int->Rt:=λx0 x1 x2 x3=>n [yI x0,yI x1,yS 3 x2,⟨.sl i6,x3⟩]
def aWR:=aEQ (xE ii1 e (pw 6 11) Kj (aKD c e))
def aFj(c:cJ)(f:Int->Int->Int->Int->Int->List G.T->List Int->Rt)(b:Int)(g:List G.T)(a:Int)(d:List Int):Rt:=
 cH (decide (a<b)) (f a a 0 a b g d) (some [⟨.sl i6,d⟩])
def Di(n:Nt):Int->List G.T->Int->List Int->Rt:=λx0 x1 x2 x3=>n [yI x0,yS 3 x1,yI x2,⟨.sl i6,x3⟩]
def aWQ:=Di (xE ii1 e (pw 7 23) Ec (aBZ c e))
def aFi(p:Int->Int->Int->Int->Int->List G.T->List Int->Rt)(q:Int->Int->Int->Int->Int->Int->Int->Int->Int->List G.T->List Int->Rt)(s:Int->List G.T->Int->List Int->Rt)(g:Int)(d:Int)(b:Int)(h:Int)(i:Int)(f:List G.T)(a:List Int):Rt:=
 cH (decide (b<g)) (ob (eK f d) λt=>
 ob (eK f b) λu=>
 mZ (c 7 [yR 3 t,yR 3 u]) λv=>
 cH (!v.1) (p b g d h i f a) (jC (bV d (List.length a))<|
 ob (eK a d) λj=>
 jC (bV b (List.length a))<|
 ob (eK a b) λl=>
 jC (bV d (List.length a))<|
 ob (eK a d) λm=>
 jC (bV b (List.length a))<|
 ob (eK a b) λo=>
 q (List.length a:Int) (bif decide (m<o)then o else m) (bif decide (l<j)then l else j) 0 b g d h i f a)) (s i f (IntKind.i64.wrap (h+1)) a)
def aWP(n2:Nt):=Dh (xE ii1 e (pw 15 6551) Eb (aBY c e n2))
def aFh(c:cJ)(a:Int->Int->Int->Int->Int->List G.T->List Int->Rt)(b:Int)(d:Int)(f:Int)(g:Int)(h:Int)(i:List G.T)(j:List Int):Rt:=
 a d f (IntKind.i64.wrap (b+1)) g h i j
def aEK(n3:Nt)(n2:Nt):=Dh (xD ii1 e (pw 19 235927) Xg (aKC c e n3 n2))
def aFg(c:cJ)(p:Int->Int->Int->Int->Int->Int->Int->Int->Int->List G.T->List Int->Rt)(q:Int->Int->Int->Int->Int->List G.T->List Int->Rt)(d:Int)(f:Int)(g:Int)(a:Int)(h:Int)(i:Int)(j:Int)(l:Int)(m:Int)(o:List G.T)(b:List Int):Rt:=
 cH (decide (a<d)) (jC (bV a (List.length b))<|
 ob (eK b a) λs=>
 cH (decide (s=f)) (jC (bV a (List.length b))<|
 ob (eK b a) λt=>
 p a d f g h i j l m o (List.set b (Int.toNat a) g)) (p a d f g h i j l m o b)) (q h i j l m o b)
def aWO(n3:Nt)(n2:Nt):=NO (xE ii1 e (pw 25 7969175) Ea (PL c e n3 n2))
def aFf(c:cJ)(a:Int->Int->Int->Int->Int->Int->Int->Int->Int->List G.T->List Int->Rt)(b:Int)(d:Int)(f:Int)(g:Int)(h:Int)(i:Int)(j:Int)(l:Int)(m:Int)(o:List G.T)(p:List Int):Rt:=
 a d f g (IntKind.i64.wrap (b+1)) h i j l m o p
def aN0(n5:Nt)(n3:Nt)(n2:Nt):=NO (xD ii1 e (pw 29 242850199) Xf (aFW c e n5 n3 n2))
def aZs:NN (xF ii1 c e)=aOs c (aWR c e):=by kernel_rfl
def aZr(n1:Nt):aEQ (xA ii1 c e (pw 6 11) Kj (gP U0 Kj n1 (aKD c e)))=aFk c (aEQ n1) (aWQ c e):=by kernel_rfl
def aZq(n2:Nt):Di (xA ii1 c e (pw 7 23) Ec (gP U0 Ec n2 (aBZ c e)))=aFj c (aWP c e n2):=by kernel_rfl
def aZp(n3:Nt)(n2:Nt):Dh (xA ii1 c e (pw 15 6551) Eb (gP U0 Eb n3 (aBY c e n2)))=aFi c (aEK c e n3 n2) (aWO c e n3 n2) (Di n2):=by kernel_rfl
def aZo(n3:Nt)(n2:Nt):Dh (xA ii1 c e (pw 19 235927) Xg (aKC c e n3 n2))=aFh c (Dh n3):=by kernel_rfl
def aZn(n5:Nt)(n3:Nt)(n2:Nt):NO (xA ii1 c e (pw 25 7969175) Ea (gP U0 Ea n5 (PL c e n3 n2)))=aFg c (aN0 c e n5 n3 n2) (aEK c e n3 n2):=by kernel_rfl
def aZm(n5:Nt)(n3:Nt)(n2:Nt):NO (xA ii1 c e (pw 29 242850199) Xf (aFW c e n5 n3 n2))=aFf c (NO n5):=by kernel_rfl
def ZV(L:Nat)(n3:Int->Int->Int->Int->Int->List G.T->List Int->Rt)(n2:Int->List G.T->Int->List Int->Rt):Int->Int->Int->Int->Int->List G.T->List Int->Rt:=aFh c n3
def aUk(n3:Nt)(n2:Nt):aEK c (cu c L) n3 n2=ZV c L (Dh n3) (Di n2):=by rw[aEK,dG,aZo];rfl
def aEY(L:Nat)(n5:Int->Int->Int->Int->Int->Int->Int->Int->Int->List G.T->List Int->Rt)(n3:Int->Int->Int->Int->Int->List G.T->List Int->Rt)(n2:Int->List G.T->Int->List Int->Rt):Int->Int->Int->Int->Int->Int->Int->Int->Int->List G.T->List Int->Rt:=aFf c n5
def a1b(n5:Nt)(n3:Nt)(n2:Nt):aN0 c (cu c L) n5 n3 n2=aEY c L (NO n5) (Dh n3) (Di n2):=by rw[aN0,dG,aZm];rfl
def NG(c:cJ)(L:Nat)(n3:Int->Int->Int->Int->Int->List G.T->List Int->Rt)(n2:Int->List G.T->Int->List Int->Rt):Nat->Int->Int->Int->Int->Int->Int->Int->Int->Int->List G.T->List Int->Rt
 |0=>λ_ _ _ _ _ _ _ _ _ _ _=>none
 |n+1=>aFg c (aEY c L (NG c L n3 n2 n) n3 n2) (ZV c L n3 n2)
def aYM(n3:Nt)(n2:Nt)(n:Nat):NO (xL ii1 c L (pw 25 7969175) Ea (PL c (cu c L) n3 n2) n)=NG c L (Dh n3) (Di n2) n:=by
 induction n with
 |zero=>rfl
 |succ n ih=>rw[eV,aZn];simp only[a1b,aUk,ih];rfl
def aYn(n3:Nt)(n2:Nt):aWO c (cu c L) n3 n2=NG c L (Dh n3) (Di n2) L:=aYM c L n3 n2 L
def Gh(c:cJ)(L:Nat)(n2:Int->List G.T->Int->List Int->Rt):Nat->Int->Int->Int->Int->Int->List G.T->List Int->Rt
 |0=>λ_ _ _ _ _ _ _=>none
 |n+1=>aFi c (ZV c L (Gh c L n2 n) n2) (NG c L (Gh c L n2 n) n2 L) n2
def aYN(n2:Nt)(n:Nat):Dh (xL ii1 c L (pw 15 6551) Eb (aBY c (cu c L) n2) n)=Gh c L (Di n2) n:=by
 induction n with
 |zero=>rfl
 |succ n ih=>rw[eV,aZp];simp only[aUk,aYn,ih];rfl
def aYo(n2:Nt):aWP c (cu c L) n2=Gh c L (Di n2) L:=aYN c L n2 L
def NH(c:cJ)(L:Nat):Nat->Int->List G.T->Int->List Int->Rt
 |0=>λ_ _ _ _=>none
 |n+1=>aFj c (Gh c L (NH c L n) L)
def aYO(n:Nat):Di (xL ii1 c L (pw 7 23) Ec (aBZ c (cu c L)) n)=NH c L n:=by
 induction n with
 |zero=>rfl
 |succ n ih=>rw[eV,aZq];simp only[aYo,ih];rfl
def aYp:aWQ c (cu c L)=NH c L L:=aYO c L L
def NI(c:cJ)(L:Nat):Nat->Int->Int->List G.T->List Int->Rt
 |0=>λ_ _ _ _=>none
 |n+1=>aFk c (NI c L n) (NH c L L)
def aYP(n:Nat):aEQ (xL ii1 c L (pw 6 11) Kj (aKD c (cu c L)) n)=NI c L n:=by
 induction n with
 |zero=>rfl
 |succ n ih=>rw[eV,aZr];simp only[aYp,ih];rfl
def aYq:aWR c (cu c L)=NI c L L:=aYP c L L
def F1:List G.T->Rt:=aOs c (NI c L L)
def e1:NN (xF ii1 c (cu c L))=F1 c L:=by rw[aZs];simp only[aYq];rfl
end
end Go.TV.Ho
