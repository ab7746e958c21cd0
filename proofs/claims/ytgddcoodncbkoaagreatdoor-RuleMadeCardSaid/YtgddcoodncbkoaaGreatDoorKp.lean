import Derived.Test.YtgddcoodncbkoaaGreatDoorKo
import Derived.Test.YtgddcoodncbkoaaGreatDoorKk
import Derived.Test.YtgddcoodncbkoaaGreatDoorKl
import Derived.Test.YtgddcoodncbkoaaGreatDoorKm
import Derived.Test.YtgddcoodncbkoaaGreatDoorKn
set_option linter.unusedVariables false
set_option linter.unusedSimpArgs false
set_option linter.constructorNameAsVariable false
set_option linter.defProp false
namespace Go.TV
open Go.AI Go.PI Go.Proofs
set_option maxRecDepth 20000
def T0:List UInt8:=match aMZ Kn with|some (⟨.str,t⟩::_)=>t|_=>[]
def aR3:a4L×List UInt8:=R6 4000 T0
def aJi:wJ aR3.1 aR3.2=T0:=by kernel_rfl
def bDZ:bDh aR3.1 aR3.2=true:=by kernel_rfl
def aNv:a57 0 aR3.1++ [⟨0,(T0.length:Int),[],[],[]⟩]=V5:=by kernel_rfl
def a4D:T0.length<6001:=bK (by kernel_rfl)
def a1k:aR3.1.length<7000:=bK (by kernel_rfl)
def bFx{w:List UInt8}(h:aOJ w=true):w=[48]∨w=[49]∨w=[45,49]:=by
 unfold aOJ at h;split at h
 .exact .inl rfl
 .exact .inr (.inl rfl)
 .exact .inr (.inr rfl)
 .cases h
def a05(L M:Nat){w:List UInt8}(h:aOJ w=true):aJr (bR (L+7000) (M+30)) w:=by
 rw[<-aSy];rcases bFx h with rfl|rfl|rfl<;>exact⟨by kernel_rfl,by kernel_rfl,by kernel_rfl,by kernel_rfl,by kernel_rfl,by kernel_rfl⟩
def aWA(L M:Nat):bR (L+7000) (M+34) 129 [yT T0]=some [yS 19 V5,yR 17 ⟨0,0⟩]:=by
 have h1:=a4D;have h2:=a1k;have h:=a4B (L:=L+7000) (n:=M+30) (l:=aR3.1) (tl:=aR3.2) (λw hw=>a05 L (M+2) hw) (by rw[aJi];omega) (by rw[aJi];omega) (by omega) bDZ
 rw[aJi]at h;exact h.trans (congrArg (λx:List G.K=>some [(yS 19 x:TV U0.D),yR 17 (⟨0,0⟩:G.X)]) aNv)
def a0U{W:Type}{a:List G.A}{K:List G.A×Unit->Option W}:fU (D:=U0.D) [.sl (.rc 9)] (some [yS 9 a]) K=K (a,()):=rfl
def a0W{W:Type}{a:List G.O}{b:G.X}{K:List G.O×G.X×Unit->Option W}:fU (D:=U0.D) [.sl (.rc 2),.rc 17] (some [yS 2 a,yR 17 b]) K=K (a,b,()):=rfl
def a0Q{W:Type}{a:List G.K}{b:G.X}{K:List G.K×G.X×Unit->Option W}:fU (D:=U0.D) [.sl (.rc 19),.rc 17] (some [yS 19 a,yR 17 b]) K=K (a,b,()):=rfl
def a2D(L n:Nat):bR L (n+1) 99 []=some [yS 9 bKL]:=by
 rw[bQi];rfl
def aWy(L n:Nat):bR L (n+1) 100 []=some [yT T0]:=by
 rw[bHn];kernel_rfl
def aY4{c:bT}{L:Nat}{a0:List G.A}{a1 a2:List UInt8}{t:List G.K}{r:Rt}(h1:c 129 [yT a2]=some [yS 19 t,yR 17 ⟨0,0⟩])
    (h2:yZ c L L [] ⟨a0,a1,t,0⟩ ⟨0,0⟩=r):aKk c L a0 a1 a2=r:=by
 rw[aKk,VY,h1,a0Q];simp only[decide_true,bD,bL];exact h2
def aY3(L M:Nat):bR (L+7000) (M+99) 101 [yS 9 bKL,yT wV,yT T0]=some [yS 2 oAll,yR 17 ⟨0,0⟩]:=by
 have ht:bR (L+7000) (M+98) 129 [yT T0]=some [yS 19 V5,yR 17 ⟨0,0⟩]:=aWA L (M+64);have h:=pcA L (M+38) (L+6971) ⟨0,0⟩;have e:L+6971+29=L+7000:=by omega
 rw[e,aSy,show M+38+60=M+98 by omega,bKK]at h
 rw[show M+99=M+98+1 by omega,bHm]
 exact aY4 ht h
def aO7{c:bT}{L:Nat}{a0:List G.A}{a2:List UInt8}{o:List G.O}(h1:c 99 []=some [yS 9 a0])(h2:c 100 []=some [yT a2])
    (h3:c 101 [yS 9 a0,yT [108,105,115,112],yT a2]=some [yS 2 o,yR 17 ⟨0,0⟩]):bIc c L=some [yS 2 o]:=by
 rw[bIc,aUF,h1,a0U,h2,Xv,h3,a0W]
def XU(L M:Nat):bR (L+7000) (M+100) 48 []=some [yS 2 oAll]:=by
 rw[show M+100=M+99+1 by omega,bQA]
 exact aO7 (a2D _ (M+98)) (aWy _ (M+98)) (aY3 L M)
end Go.TV
namespace Go.TV
open Go.AI Go.PI Go.Proofs
set_option maxRecDepth 20000
def bDc(L M:Nat)(X:Nat->T3): ∀(k:Nat) (o:G.O),oAll[k]?=some o->pE L M k X o=true:=by
 intro k o h
 match k,h with
 |0,h=>cases h;exact p0E L M X
 |1,h=>cases h;exact p1E L M X
 |2,h=>cases h;exact p2E L M X
 |3,h=>cases h;exact p3E L M X
 |4,h=>cases h;exact p4E L M X
 |5,h=>cases h;exact p5E L M X
 |6,h=>cases h;exact p6E L M X
 |7,h=>cases h;exact p7E L M X
 |8,h=>cases h;exact p8E L M X
 |9,h=>cases h;exact p9E L M X
 |10,h=>cases h;exact bLl L M X
 |11,h=>cases h;exact bLk L M X
 |12,h=>cases h;exact bLj L M X
 |13,h=>cases h;exact bLi L M X
 |14,h=>cases h;exact bLh L M X
 |15,h=>cases h;exact bLg L M X
 |16,h=>cases h;exact bLf L M X
 |17,h=>cases h;exact bLe L M X
 |18,h=>cases h;exact bLd L M X
 |19,h=>cases h;exact bLc L M X
 |20,h=>cases h;exact bLb L M X
 |21,h=>cases h;exact bLa L M X
 |22,h=>cases h;exact bK9 L M X
 |23,h=>cases h;exact bK8 L M X
 |24,h=>cases h;exact bK7 L M X
 |25,h=>cases h;exact bK6 L M X
 |26,h=>cases h;exact bK5 L M X
 |27,h=>cases h;exact bK4 L M X
 |k+28,h=>cases h
end Go.TV
namespace Go.TV
open Go.AI Go.PI Go.Proofs
def OL:rowsL=[⟨[105,102],3⟩,⟨[101,113,117,97,108],2⟩,⟨[99,111,110,115],2⟩,⟨[99,97,114],1⟩,⟨[99,100,114],1⟩,⟨[99,111,110,115,112],1⟩,⟨[115,121,109,98,111,108,112],1⟩,⟨[115,116,114,105,110,103,112],1⟩,⟨[114,97,116,105,111,110,97,108,112],1⟩,⟨[105,110,116,101,103,101,114,112],1⟩,⟨[98,105,110,97,114,121,45,43],2⟩,⟨[98,105,110,97,114,121,45,42],2⟩,⟨[117,110,97,114,121,45,45],1⟩,⟨[117,110,97,114,121,45,47],1⟩,⟨[60],2⟩,⟨[110,117,109,101,114,97,116,111,114],1⟩,⟨[100,101,110,111,109,105,110,97,116,111,114],1⟩,⟨[102,108,111,111,114],1⟩,⟨[115,121,109,98,111,108,45,110,97,109,101],1⟩,⟨[115,121,109,98,111,108,45,112,97,99,107,97,103,101,45,110,97,109,101],1⟩,⟨[105,110,116,101,114,110],2⟩,⟨[115,116,114,105,110,103,45,97,112,112,101,110,100],2⟩,⟨[115,116,114,105,110,103,45,108,101,110,103,116,104],1⟩,⟨[115,116,114,105,110,103,45,98,121,116,101],2⟩,⟨[98,121,116,101,45,115,116,114,105,110,103],1⟩]:=rfl
def Cj{x:List UInt8}: ∀{l:List G.R},(∀r∈l,¬r.name=x)->qM x l=none
 |[],_=>rfl
 |r::l,h=>by rw[qM,bH (h r (aH ..)),Cj λy hy=>h y (aG _ hy)]
def a52(s:G.Y)(L n:Nat):bR L (n+1) 118 [yR 1 s]=some (oI (arity s)):=by
 rw[bOU,a5o,VS];by_cases e:s.package=fD
 .have e':decide (s.package=([108,105,115,112]:List UInt8))=true:=bF e;have ea:arity s=qM s.name rowsL:=by simp[arity,e]
  rw[e',ea];simp only[bD,bL];generalize s.name=x;simp only[Vn,Vm,VQ,VP];by_cases hm: ∃r∈rowsL,r.name=x
  .obtain⟨r,hr,rfl⟩:=hm;rw[OL]at hr;simp only[List.mem_cons,List.not_mem_nil,or_false]at hr;rcases hr with rfl|rfl|rfl|rfl|rfl|rfl|rfl|rfl|rfl|rfl|rfl|rfl|rfl|rfl|rfl|rfl|rfl|rfl|rfl|rfl|rfl|rfl|rfl|rfl|rfl
   all_goals rfl
  .have hn: ∀r∈rowsL,¬r.name=x:=λr hr h=>hm ⟨r,hr,h⟩
   rw[Cj hn];rw[OL]at hn;simp only[List.forall_mem_cons,G.R.name]at hn;obtain⟨h0,h1,h2,h3,h4,h5,h6,h7,h8,h9,aF7,h11,h12,h13,h14,h15,h16,h17,h18,h19,h20,h21,h22,h23,h24,-⟩:=hn;simp only[Ne.symm h0,Ne.symm h1,Ne.symm h2,Ne.symm h3,Ne.symm h4,Ne.symm h5,Ne.symm h6,Ne.symm h7,Ne.symm h8,Ne.symm h9,Ne.symm aF7,Ne.symm h11,Ne.symm h12,Ne.symm h13,Ne.symm h14,Ne.symm h15,Ne.symm h16,Ne.symm h17,Ne.symm h18,Ne.symm h19,Ne.symm h20,Ne.symm h21,Ne.symm h22,Ne.symm h23,Ne.symm h24,decide_false,bL,oI]
 .have e':decide (s.package=([108,105,115,112]:List UInt8))=false:=bG e;have ea:arity s=none:=by simp[arity,e]
  rw[e',ea];rfl
end Go.TV
namespace Go.TV
open Go.AI Go.PI Go.Proofs
def aQ0{k:Nat}(h:k<4000000000000000000):IntKind.i64.wrap (((k+1:Nat):Int)-1)=(k:Int):=by
 unfold IntKind.wrap;simp[IntKind.bits,IntKind.signed];omega
def aKm{c:bT}{L:Nat}{n1:G.O->G.O->Rt}{a b:G.O}(hl:a.pair.length=b.pair.length)(hb:a.pair.length<1000000000)
    {s:Nat} (hs:a.pair.length=s+1): ∀(l:List G.O) (x:G.O) (r:List G.O) (k m:Nat),a.pair.drop k=x::l->b.pair.drop k=r->l.length<m->
    (∀x,x∈a.pair->∀y,c 115 (oo x y)=some (bb (decide (x=y))))->(∀x,x∈a.pair->∀y,n1 x y=some (bb (decide (x=y))))->
    yX c L n1 m (s:Int) (k:Int) ((s+1:Nat):Int) a b=some (bb (decide (x::l=r))):=by
 intro l;induction l with
 |nil=>
  intro x r k m h1 h2 h3 hc hn;obtain⟨m,rfl⟩:=sK m 1 (by simp at h3;omega)
  obtain⟨a1,a2,a3⟩:=bX h1;have hk:k=s:=by have:=bW a3;omega
  subst hk;cases r with
  |nil=>have:=bW h2;omega
  |cons y r=>
   obtain⟨b1,b2,b3⟩:=bX h2;have hr:r=[]:=by rw[<-b3];exact List.drop_eq_nil_of_le (by omega)
   subst hr;have e3:decide ((k:Int)<(k:Int))=false:=by simp
   rw[yX,NC,e3,bL,aQ0 (by omega),bP,bP,a1,b1,bZ,bZ,hn x (List.mem_of_getElem? a1)]
   simp
 |cons z l ih=>
  intro x r k m h1 h2 h3 hc hn;obtain⟨m,rfl⟩:=sK m 1 (by simp at h3;omega)
  obtain⟨a1,a2,a3⟩:=bX h1;obtain⟨a4,a5,a6⟩:=bX a3;cases r with
  |nil=>have:=bW h2;omega
  |cons y r=>
   obtain⟨b1,b2,b3⟩:=bX h2;have e3:decide ((k:Int)<(s:Int))=true:=by simp;omega
   have gb:c 115 [yR 2 x,yR 2 y]=some [yB (decide (x=y))]:=hc x (List.mem_of_getElem? a1) y;rw[yX,NC,e3,bO,bP,bP,a1,b1,bZ,bZ,gb,cH,cS (by omega)]
   by_cases e:x=y
   .subst e;simp only[decide_true,bD,bL];rw[ih z r (k+1) m a3 b3 (by simp at h3;omega) hc hn]
    simp
   .simp only[e,decide_false,Bool.not_false,bO];simp[e,bb]
def a5w: ∀(a:G.O),aM2 a->∀(b:G.O) (L n m:Nat),xX a<=L->xX a<=n->xX a<=m->uX (bR L n) L m a b=some (bb (decide (a=b))):=by
 intro a;induction a using Xu with
 |h k nu d s t l ih=>
  intro hw b L n m hL hn hm;simp only[aM2,xX]at hw hL hn hm;have hlen:=JZ l;obtain⟨m,rfl⟩:=sK m 1 (by omega)
  obtain⟨n,rfl⟩:=sK n 1 (by omega)
  cases b with|mk k' nu' d' s' t' l'=>
  rw[uX];simp only[Vo,VW,VV,G.O.kind,G.O.num,G.O.den,G.O.sym,G.O.text,G.O.pair,G.O.mk.injEq];by_cases e1:k=k'
  .by_cases e2:nu=nu'
   .by_cases e3:d=d'
    .by_cases e4:s=s'
     .by_cases e5:t=t'
      .by_cases e6:(l.length:Int)=(l'.length:Int)
       .simp only[e1,e2,e3,e4,e5,e6,decide_true,bD,bL,bO,true_and];cases l with
        |nil=>
         have:l'=[]:=List.eq_nil_of_length_eq_zero (by simp at e6;omega)
         subst this;simp[bN,bb]
        |cons x l=>
         have e7:decide ((l'.length:Int)=0)=false:=by simp only[aM]at e6;simp;intro h;simp[h]at e6;omega
         rw[e7,bL,<-e6];have hW: ∀y,y∈x::l->∀z,uX (bR L (n+1)) L m y z=some (bb (decide (y=z))):=λy hy z=>
          ih y hy (by have:=kA hy;simp only[aM2];omega) z L (n+1) m (by have:=kA hy;omega) (by have:=kA hy;omega) (by have:=kA hy;omega)
         have hC: ∀y,y∈x::l->∀z,bR L (n+1) 115 (oo y z)=some (bb (decide (y=z))):=λy hy z=>by
          show bR L (n+1) 115 [yR 2 _,yR 2 _]=_;rw[bHj];exact ih y hy (by have:=kA hy;simp only[aM2];omega) z L n L (by have:=kA hy;omega) (by have:=kA hy;omega) (by have:=kA hy;omega)
         have hz:IntKind.i64.wrap (((x::l).length:Int)-1)=(l.length:Int):=aQ0 (by simp only[aM]at hlen;omega)
         rw[hz];have:=aKm (c:=bR L (n+1)) (L:=L) (n1:=λx0 x1=>uX (bR L (n+1)) L m x0 x1) (a:=⟨k,nu,d,s,t,x::l⟩) (b:=⟨k',nu',d',s',t',l'⟩) (s:=l.length) (by show(x::l).length=l'.length;omega) (by show(x::l).length<_;omega) rfl l x l' 0 L rfl rfl (by simp only[aM]at hlen;omega) hC hW
         subst e1 e2 e3 e4 e5;exact this
       .have e7: ¬l=l':=λh=>e6 (by rw[h])
        simp[e1,e2,e3,e4,e5,e6,e7,bN,bb]
      .simp[e1,e2,e3,e4,e5,bN,bb]
     .simp[e1,e2,e3,e4,bN,bb]
    .simp[e1,e2,e3,bN,bb]
   .simp[e1,e2,bN,bb]
  .simp[e1,bN,bb]
def aQR(a:G.O)(hw:aM2 a)(b:G.O)(L n:Nat)(hL:xX a<=L)(hn:xX a<n):bR L n 115 (oo a b)=some (bb (decide (a=b))):=by
 obtain⟨n,rfl⟩:=sK n 1 (by omega)
 show bR L (n+1) 115 [yR 2 _,yR 2 _]=_;rw[bHj];exact a5w a hw b L n L hL (by omega) hL
def aKo{c:bT}{L:Nat}{a b:List G.T}(hl:a.length=b.length)(hb:a.length<1000000000): ∀(l r:List G.T) (k m:Nat),a.drop k=l->b.drop k=r->l.length<m->
    (∀x,x∈l->∀y,c 74 (aQ2 x y)=some (bb (decide (x=y))))->yW c L m (a.length:Int) a b (k:Int)=some (bb (decide (l=r))):=by
 intro l;induction l with
 |nil=>
  intro r k m h1 h2 h3 _;obtain⟨m,rfl⟩:=sK m 1 (by simp at h3;omega)
  have e1:=bW h1;have e2:r=[]:=by rw[<-h2];exact List.drop_eq_nil_of_le (by omega)
  have e3:decide ((k:Int)<(a.length:Int))=false:=by simp;omega
  rw[yW,NB,e3,e2];simp only[bL,decide_true];rfl
 |cons x l ih=>
  intro r k m h1 h2 h3 hc;obtain⟨m,rfl⟩:=sK m 1 (by simp at h3;omega)
  obtain⟨a1,a2,a3⟩:=bX h1;cases r with
  |nil=>have:=bW h2;omega
  |cons y r=>
   obtain⟨b1,b2,b3⟩:=bX h2;have e3:decide ((k:Int)<(a.length:Int))=true:=by simp;omega
   have gb:c 74 [yR 3 x,yR 3 y]=some [yB (decide (x=y))]:=hc x (aH ..) y;rw[yW,NB,e3,bO,bP,bP,a1,b1,bZ,bZ,gb,cH,cS (by omega)]
   by_cases e:x=y
   .subst e;simp only[decide_true,bD,bL];rw[ih r (k+1) m a3 b3 (by simp at h3;omega) λz hz=>hc z (aG _ hz)]
    simp
   .simp only[e,decide_false,Bool.not_false,bO];simp[e,bb]
def a5x{a b:List G.T}{L n:Nat}(hw:a.length<1000000000)(hL:a.length<L)(hx: ∀x,x∈a->∀y,bR L n 74 (aQ2 x y)=some (bb (decide (x=y)))):
    bR L (n+1) 116 (bLH a b)=some (bb (decide (a=b))):=by
 show bR L (n+1) 116 [yS 3 _,yS 3 _]=_;rw[bOW];simp only[a5q,VU];by_cases e6:(a.length:Int)=(b.length:Int)
 .have:=aKo (c:=bR L n) (L:=L) (by omega) hw a b 0 L rfl rfl hL hx
  rw[e6]at this;simp only[e6,decide_true,bD,bL];exact this
 .have e7: ¬a=b:=λh=>e6 (by rw[h])
  simp[e6,e7,bN,bb]
def MO: ∀(a:G.T),Q1 a->∀(b:G.T) (L n:Nat),cJ a<=L->cJ a<=n->bR L n 74 (aQ2 a b)=some (bb (decide (a=b))):=by
 intro a;induction a using fW with
 |h k nm v l ih=>
  intro hw b L n hL hn;simp only[Q1,cJ]at hw hL hn;have hlen:=dV l;obtain⟨n,rfl⟩:=sK n 2 (by omega)
  cases b with|mk k' nm' v' l'=>
  show bR L (n+1+1) 74 [yR 3 _,yR 3 _]=_;rw[c74];have hv:bR L (n+1) 115 [yR 2 v,yR 2 v']=some [yB (decide (v=v'))]:=aQR v (by simp only[aM2];omega) v' L (n+1) (by omega) (by omega)
  have hl:bR L (n+1) 116 [yS 3 l,yS 3 l']=some [yB (decide (l=l'))]:=a5x (by omega) (by omega) λx hx y=>ih x hx (by have:=dB hx;simp only[Q1];omega) y L n (by have:=dB hx;omega) (by have:=dB hx;omega)
  simp only[bPr,aKG,aJy,aKF,G.T.kind,G.T.name,G.T.value,G.T.args,G.T.mk.injEq,hv,hl,cH];by_cases e1:k=k'
  .by_cases e2:nm=nm'
   .by_cases e3:v=v'
    .simp[e1,e2,e3,bN,bb]
    .simp[e1,e2,e3,bN,bb]
   .simp[e1,e2,bN,bb]
  .simp[e1,bN,bb]
end Go.TV
namespace Go.TV
open Go.AI Go.PI Go.Proofs
def aKn{c:bT}{L:Nat}{a b:G.O}(hl:a.pair.length=b.pair.length)(hb:a.pair.length<1000000000): ∀(l r:List G.O) (k m:Nat),a.pair.drop k=l->b.pair.drop k=r->l.length<m->
    (∀x,x∈l->∀y,c 95 (oo x y)=some (bb (decide (x=y))))->Fv c L m (k:Int) a b=some (bb (decide (l=r))):=by
 intro l;induction l with
 |nil=>
  intro r k m h1 h2 h3 _;obtain⟨m,rfl⟩:=sK m 1 (by simp at h3;omega)
  have e1:=bW h1;have e2:r=[]:=by rw[<-h2];exact List.drop_eq_nil_of_le (by omega)
  have e3:decide ((k:Int)<(a.pair.length:Int))=false:=by simp;omega
  rw[Fv,aAu,e3,e2];simp only[bL,decide_true];rfl
 |cons x l ih=>
  intro r k m h1 h2 h3 hc;obtain⟨m,rfl⟩:=sK m 1 (by simp at h3;omega)
  obtain⟨a1,a2,a3⟩:=bX h1;cases r with
  |nil=>have:=bW h2;omega
  |cons y r=>
   obtain⟨b1,b2,b3⟩:=bX h2;have e3:decide ((k:Int)<(a.pair.length:Int))=true:=by simp;omega
   have gb:c 95 [yR 2 x,yR 2 y]=some [yB (decide (x=y))]:=hc x (aH ..) y;rw[Fv,aAu,e3,bO,bP,bP,a1,b1,bZ,bZ,gb,cH,cS (by omega)]
   by_cases e:x=y
   .subst e;simp only[decide_true,bD,bL];rw[ih r (k+1) m a3 b3 (by simp at h3;omega) λz hz=>hc z (aG _ hz)]
    simp
   .simp only[e,decide_false,Bool.not_false,bO];simp[e,bb]
def aKl: ∀(a:G.O),aM2 a->∀(b:G.O) (L n:Nat),xX a<=L->xX a<=n->bR L n 95 (oo a b)=some (bb (decide (a=b))):=by
 intro a;induction a using Xu with
 |h k nu d s t l ih=>
  intro hw b L n hL hn;simp only[aM2,xX]at hw hL hn;have hlen:=JZ l;obtain⟨n,rfl⟩:=sK n 1 (by omega)
  cases b with|mk k' nu' d' s' t' l'=>
  show bR L (n+1) 95 [yR 2 _,yR 2 _]=_;rw[bQm];simp only[bIU,aKw,aJu,aKv,G.O.kind,G.O.num,G.O.den,G.O.sym,G.O.text,G.O.pair,G.O.mk.injEq];by_cases e1:k=k'
  .by_cases e2:nu=nu'
   .by_cases e3:d=d'
    .by_cases e4:s=s'
     .by_cases e5:t=t'
      .by_cases e6:(l.length:Int)=(l'.length:Int)
       .simp only[e1,e2,e3,e4,e5,e6,decide_true,bD,bL,true_and];have:=aKn (c:=bR L n) (L:=L) (a:=⟨k,nu,d,s,t,l⟩) (b:=⟨k',nu',d',s',t',l'⟩) (by show l.length=l'.length;omega) (by show l.length<_;omega) l l' 0 L rfl rfl (by omega) λx hx y=>ih x hx (by have:=kA hx;simp only[aM2];omega) y L n (by have:=kA hx;omega) (by have:=kA hx;omega)
        subst e1 e2 e3 e4 e5;exact this
       .have e7: ¬l=l':=λh=>e6 (by rw[h])
        simp[e1,e2,e3,e4,e5,e6,e7,bN,bb]
      .simp[e1,e2,e3,e4,e5,bN,bb]
     .simp[e1,e2,e3,e4,bN,bb]
    .simp[e1,e2,e3,bN,bb]
   .simp[e1,e2,bN,bb]
  .simp[e1,bN,bb]
end Go.TV
namespace Go.TV
open Go.AI Go.PI Go.Proofs
def aKq{c:bT}{L:Nat}{a b:List G.T}(hl:a.length=b.length)(hb:a.length<1000000000): ∀(l r:List G.T) (k m:Nat),a.drop k=l->b.drop k=r->l.length<m->
    (∀x,x∈l->∀y,c 40 (aQ2 x y)=some (bb (decide (x=y))))->Fu c L m a b (k:Int)=some (bb (decide (l=r))):=by
 intro l;induction l with
 |nil=>
  intro r k m h1 h2 h3 _;obtain⟨m,rfl⟩:=sK m 1 (by simp at h3;omega)
  have e1:=bW h1;have e2:r=[]:=by rw[<-h2];exact List.drop_eq_nil_of_le (by omega)
  have e3:decide ((k:Int)<(a.length:Int))=false:=by simp;omega
  rw[Fu,aAt,e3,e2];simp only[bL,decide_true];rfl
 |cons x l ih=>
  intro r k m h1 h2 h3 hc;obtain⟨m,rfl⟩:=sK m 1 (by simp at h3;omega)
  obtain⟨a1,a2,a3⟩:=bX h1;cases r with
  |nil=>have:=bW h2;omega
  |cons y r=>
   obtain⟨b1,b2,b3⟩:=bX h2;have e3:decide ((k:Int)<(a.length:Int))=true:=by simp;omega
   have gb:c 40 [yR 3 x,yR 3 y]=some [yB (decide (x=y))]:=hc x (aH ..) y;rw[Fu,aAt,e3,bO,bP,bP,a1,b1,bZ,bZ,gb,cH,cS (by omega)]
   by_cases e:x=y
   .subst e;simp only[decide_true,bD,bL];rw[ih r (k+1) m a3 b3 (by simp at h3;omega) λz hz=>hc z (aG _ hz)]
    simp
   .simp only[e,decide_false,Bool.not_false,bO];simp[e,bb]
def aKp{a b:List G.T}{L n:Nat}(hw:a.length<1000000000)(hL:a.length<L)(hx: ∀x,x∈a->∀y,bR L n 40 (aQ2 x y)=some (bb (decide (x=y)))):
    bR L (n+1) 96 (bLH a b)=some (bb (decide (a=b))):=by
 show bR L (n+1) 96 [yS 3 _,yS 3 _]=_;rw[bQl];simp only[bIT,aKu];by_cases e6:(a.length:Int)=(b.length:Int)
 .simp only[e6,decide_true,bD,bL];exact aKq (c:=bR L n) (L:=L) (by omega) hw a b 0 L rfl rfl hL hx
 .have e7: ¬a=b:=λh=>e6 (by rw[h])
  simp[e6,e7,bN,bb]
def zA: ∀(a:G.T),Q1 a->∀(b:G.T) (L n:Nat),cJ a<=L->cJ a<=n->bR L n 40 (aQ2 a b)=some (bb (decide (a=b))):=by
 intro a;induction a using fW with
 |h k nm v l ih=>
  intro hw b L n hL hn;simp only[Q1,cJ]at hw hL hn;have hlen:=dV l;obtain⟨n,rfl⟩:=sK n 2 (by omega)
  cases b with|mk k' nm' v' l'=>
  show bR L (n+1+1) 40 [yR 3 _,yR 3 _]=_;rw[bQF];have hv:bR L (n+1) 95 [yR 2 v,yR 2 v']=some [yB (decide (v=v'))]:=aKl v (by simp only[aM2];omega) v' L (n+1) (by omega) (by omega)
  have hl:bR L (n+1) 96 [yS 3 l,yS 3 l']=some [yB (decide (l=l'))]:=aKp (by omega) (by omega) λx hx y=>ih x hx (by have:=dB hx;simp only[Q1];omega) y L n (by have:=dB hx;omega) (by have:=dB hx;omega)
  simp only[bI5,aKY,aJE,aKX,G.T.kind,G.T.name,G.T.value,G.T.args,G.T.mk.injEq,hv,hl,cH];by_cases e1:k=k'
  .by_cases e2:nm=nm'
   .by_cases e3:v=v'
    .simp[e1,e2,e3,bN,bb]
    .simp[e1,e2,e3,bN,bb]
   .simp[e1,e2,bN,bb]
  .simp[e1,bN,bb]
end Go.TV
namespace Go.TV
open Go.AI Go.PI Go.Proofs
def args_ok{t:G.T}{L n:Nat}:bR L (n+1) 86 [yR 3 t]=some (aDe (if t.kind=3 then t.args else [])):=by
 rw[bQr];by_cases h:t.kind=3<;>simp[bIX,aUk,h,bN,aDe]
end Go.TV
namespace Go.TV
open Go.AI Go.PI Go.Proofs
mutual
noncomputable def bLq(s:G.T):G.T->Bool
 |⟨k,n,v,l⟩=>decide (s=⟨k,n,v,l⟩)||(decide (k=3)&&bDi s l)
noncomputable def bDi(s:G.T):List G.T->Bool
 |[]=>false
 |x::l=>bLq s x||bDi s l
end
end Go.TV
namespace Go.TV
open Go.AI Go.PI Go.Proofs
noncomputable def pI(acc:List G.T)(t:G.T):List G.T:=if t∈acc then acc else acc++ [t]
mutual
noncomputable def sub(acc:List G.T):G.T->List G.T
 |⟨k,n,v,l⟩=>if k=3 then wF (pI acc ⟨k,n,v,l⟩) l else pI acc ⟨k,n,v,l⟩
noncomputable def wF(acc:List G.T):List G.T->List G.T
 |[]=>acc
 |x::l=>wF (sub acc x) l
end
def Fq(acc:List G.T)(t:G.T):(pI acc t).length<=acc.length+1:=by
 unfold pI;split<;>simp
def Qu{acc:List G.T}{t:G.T}{B:Nat}(h: ∀y∈acc,cJ y<=B)(ht:cJ t<=B): ∀y∈pI acc t,cJ y<=B:=by
 unfold pI;split
 .exact h
 .intro y hy;rcases List.mem_append.1 hy with hy|hy
  .exact h y hy
  .simp at hy;subst hy;exact ht
def sub'_len{l:List G.T}(ih: ∀x∈l,∀acc,(sub acc x).length<=acc.length+cJ x): ∀acc,(wF acc l).length<=acc.length+cC l:=by
 induction l with
 |nil=>intro acc;simp[wF,cC]
 |cons x l ih2=>
  intro acc;simp only[wF,cC];have h1:=ih2 (λy hy=>ih y (aG _ hy)) (sub acc x)
  have h2:=ih x (aH ..) acc;omega
def V8: ∀(t:G.T) (acc:List G.T),(sub acc t).length<=acc.length+cJ t:=by
 intro t;induction t using fW with
 |h k n v l ih=>
  intro acc;simp only[sub,cJ];have h1:=Fq acc ⟨k,n,v,l⟩;split
  .have:=sub'_len ih (pI acc ⟨k,n,v,l⟩);omega
  .omega
def sub'_all{l:List G.T}{B:Nat}(ih: ∀x∈l,∀acc,(∀y∈acc,cJ y<=B)->cJ x<=B->∀y∈sub acc x,cJ y<=B):(∀x∈l,cJ x<=B)->∀acc,(∀y∈acc,cJ y<=B)->∀y∈wF acc l,cJ y<=B:=by
 induction l with
 |nil=>intro _ acc h;exact h
 |cons x l ih2=>
  intro hl acc h;simp only[wF];exact ih2 (λy hy=>ih y (aG _ hy)) (λy hy=>hl y (aG _ hy)) _ (ih x (aH ..) acc h (hl x (aH ..)))
def V9{B:Nat}: ∀(t:G.T) (acc:List G.T),(∀y∈acc,cJ y<=B)->cJ t<=B->∀y∈sub acc t,cJ y<=B:=by
 intro t;induction t using fW with
 |h k n v l ih=>
  intro acc h ht;simp only[sub];have h1:=Qu h ht;simp only[cJ]at ht;split
  .exact sub'_all (λx hx acc h1 h2=>ih x hx acc h1 h2) (λx hx=>by have:=dB hx;omega) _ h1
  .exact h1
def a3W{a:Nat}(h:a<6000000):Nat.ble ((a+1)*176) 1073741824=true:=by
 apply Nat.ble_eq_true_of_le;omega
def aBA{c:bT}{L:Nat}{t:G.T}{acc:List G.T}(hb:acc.length<6000000): ∀(l:List G.T) (k m:Nat),acc.drop k=l->l.length+1<m->
    (∀x,x∈l->c 40 (aQ2 x t)=some (bb (decide (x=t))))->xI c L m (k:Int) false acc t=IF c L (if t∈l then acc else acc++ [t]) t:=by
 intro l;induction l with
 |nil=>
  intro k m h1 h3 _;obtain⟨m,rfl⟩:=sK m 1 (by simp at h3;omega)
  have e1:=bW h1;have e3:decide ((k:Int)<(acc.length:Int))=false:=by simp;omega
  rw[xI,QW,e3,bL,F8,QV];simp only[bL,Bool.not_false,bO,aM,aX,Nat.zero_add,a3W hb,fS];simp
 |cons x l ih=>
  intro k m h1 h3 hc;obtain⟨m,rfl⟩:=sK m 2 (by simp at h3;omega)
  obtain⟨a1,a2,a3⟩:=bX h1;have e3:decide ((k:Int)<(acc.length:Int))=true:=by simp;omega
  have gb:c 40 [yR 3 x,yR 3 t]=some [yB (decide (x=t))]:=hc x (aH ..);rw[xI,QW,e3,bO,F8,QV];simp only[Bool.not_false,bO];rw[bP,a1,bZ,gb,cH,cS (by omega)]
  by_cases e:x=t
  .subst e;simp only[decide_true];rw[xI,QW];have: ∀b:Bool,bN b (F8 c L (xI c L m) (!true) ((k+1:Nat):Int) true acc x) (F8 c L (xI c L m) false ((k+1:Nat):Int) true acc x)=IF c L acc x:=by
    intro b;cases b<;>simp[bN,F8,QV]
   rw[this];simp
  .have e': ¬t=x:=λh=>e h.symm
   simp only[e,decide_false];rw[ih (k+1) (m+1) a3 (by simp at h3;omega) λz hz=>hc z (aG _ hz)]
   simp[e']
def aBz{c:bT}{L B M:Nat}{t:G.T}(hb:t.args.length<1000000000): ∀(l acc:List G.T) (k m:Nat),t.args.drop k=l->l.length<m->(∀y∈acc,cJ y<=B)->(∀y∈l,cJ y<=B)->acc.length+cC l<=M->
    (∀x,x∈l->∀acc:List G.T,(∀y∈acc,cJ y<=B)->acc.length+cJ x<=M->c 89 (bLF acc x)=some (aDe (sub acc x)))->Fx c L m (k:Int) acc t=some (aDe (wF acc l)):=by
 intro l;induction l with
 |nil=>
  intro acc k m h1 h3 _ _ _ _;obtain⟨m,rfl⟩:=sK m 1 (by simp at h3;omega)
  have e1:=bW h1;have e3:decide ((k:Int)<(t.args.length:Int))=false:=by simp;omega
  rw[Fx,aAz,e3,bL];rfl
 |cons x l ih=>
  intro acc k m h1 h3 h4 h5 h6 hc;obtain⟨m,rfl⟩:=sK m 1 (by simp at h3;omega)
  obtain⟨a1,a2,a3⟩:=bX h1;simp only[cC]at h6;have e3:decide ((k:Int)<(t.args.length:Int))=true:=by simp;omega
  have hx:=h5 x (aH ..);have gb:c 89 [yS 3 acc,yR 3 x]=some [yS 3 (sub acc x)]:=hc x (aH ..) acc h4 (by omega)
  rw[Fx,aAz,e3,bO,bP,a1,bZ,gb,pR,cS (by omega)]
  exact ih (sub acc x) (k+1) m a3 (by simp at h3;omega) (V9 x acc h4 hx) (λy hy=>h5 y (aG _ hy)) (by have:=V8 x acc;omega) λz hz=>hc z (aG _ hz)
def aWE{B M:Nat}(hB:B<1000000000)(hM:M<6000000): ∀(t:G.T) (acc:List G.T) (L n:Nat),(∀y∈acc,cJ y<=B)->cJ t<=B->acc.length+cJ t<=M->B+M+2<=L->B+cJ t<=n->
    bR L n 89 (bLF acc t)=some (aDe (sub acc t)):=by
 intro t;induction t using fW with
 |h k nm v l ih=>
  intro acc L n h1 h2 h3 hL hn;have h2':=h2;simp only[cJ]at h2 h3 hn;have hlen:=dV l;obtain⟨n,rfl⟩:=sK n 1 (by omega)
  show bR L (n+1) 89 [yS 3 _,yR 3 _]=_;rw[bQo,bIV,aKy];have:=aBA (c:=bR L n) (L:=L) (t:=⟨k,nm,v,l⟩) (acc:=acc) (by omega) acc 0 L rfl (by omega) λx hx=>zA x (by have:=h1 x hx;simp only[Q1];omega) _ L n (by have:=h1 x hx;omega) (by have:=h1 x hx;omega)
  refine this.trans ?_;change IF _ L (pI acc ⟨k,nm,v,l⟩) _=_;rw[IF,aKx,sub];have hl:=Fq acc ⟨k,nm,v,l⟩;by_cases e:k=3
  .simp only[e,G.T.kind,decide_true,bO,if_true];subst e;exact aBz (B:=B) (M:=M) (t:=⟨3,nm,v,l⟩) (by show l.length<_;omega) l (pI acc ⟨3,nm,v,l⟩) 0 L rfl (by omega) (Qu h1 h2') (λy hy=>by have:=dB hy;omega) (by omega)
    λx hx acc2 q1 q2=>ih x hx acc2 L n q1 (by have:=dB hx;omega) q2 hL (by have:=dB hx;omega)
  .simp only[e,G.T.kind,decide_false,bL,if_false];rfl
def aJj{c:bT}{L B M:Nat}{a:List G.T}(hb:a.length<1000000000): ∀(l acc:List G.T) (k m:Nat),a.drop k=l->l.length<m->(∀y∈acc,cJ y<=B)->(∀y∈l,cJ y<=B)->acc.length+cC l<=M->
    (∀x,x∈l->∀acc:List G.T,(∀y∈acc,cJ y<=B)->acc.length+cJ x<=M->c 89 (bLF acc x)=some (aDe (sub acc x)))->FL c L m a (k:Int) acc=some (aDe (wF acc l)):=by
 intro l;induction l with
 |nil=>
  intro acc k m h1 h3 _ _ _ _;obtain⟨m,rfl⟩:=sK m 1 (by simp at h3;omega)
  have e1:=bW h1;have e3:decide ((k:Int)<(a.length:Int))=false:=by simp;omega
  rw[FL,aA2,e3,bL];rfl
 |cons x l ih=>
  intro acc k m h1 h3 h4 h5 h6 hc;obtain⟨m,rfl⟩:=sK m 1 (by simp at h3;omega)
  obtain⟨a1,a2,a3⟩:=bX h1;simp only[cC]at h6;have e3:decide ((k:Int)<(a.length:Int))=true:=by simp;omega
  have hx:=h5 x (aH ..);have gb:c 89 [yS 3 acc,yR 3 x]=some [yS 3 (sub acc x)]:=hc x (aH ..) acc h4 (by omega)
  rw[FL,aA2,e3,bO,bP,a1,bZ,gb,pR,cS (by omega)]
  exact ih (sub acc x) (k+1) m a3 (by simp at h3;omega) (V9 x acc h4 hx) (λy hy=>h5 y (aG _ hy)) (by have:=V8 x acc;omega) λz hz=>hc z (aG _ hz)
def a4E{a:List G.T}{L n:Nat}(hw:cC a<6000000)(hL:2*cC a+2<=L)(hn:2*cC a<n):bR L n 32 (aDe a)=some (aDe (wF [] a)):=by
 have hlen:=dV a;obtain⟨n,rfl⟩:=sK n 1 (by omega)
 show bR L (n+1) 32 [yS 3 _]=_;rw[bQK,bI8,aK0];exact aJj (B:=cC a) (M:=cC a) (by omega) a [] 0 L rfl (by omega) (λy hy=>by cases hy) (λy hy=>dB hy) (by simp) λx hx acc q1 q2=>
  aWE (by omega) hw x acc L n q1 (dB hx) q2 (by omega) (by have:=dB hx;omega)
end Go.TV
namespace Go.TV
open Go.AI Go.PI Go.Proofs
def bDF:List UInt8:=[110,111,116]
def eqB:List UInt8:=[101,113,117,97,108]
end Go.TV
namespace Go.TV
open Go.AI Go.PI Go.Proofs
def neg(x:G.T):G.T:=match x.args with
 |[p]=>if Gf x bDF 1 then p else x
 |_=>x
noncomputable def eqb(t y:G.T):Bool:=match y.args with
 |[p,q]=>Gf y eqB 2&&(bLq t p&&bLq t q)
 |_=>false
noncomputable def both(t x:G.T):Bool:=eqb t (neg x)
end Go.TV
namespace Go.TV
open Go.AI Go.PI Go.Proofs
def gC{W:Type}{b:List G.Y}{K:List G.Y×Unit->Option W}:mD (some [yS 1 b]) K=K (b,()):=rfl
def oE(out:List G.Y)(s:G.Y):List G.Y:=if s∈out then out else out++ [s]
def gX:List G.Y->List G.Y->List G.Y
 |out,[]=>out
 |out,s::r=>gX (oE out s) r
mutual
def oG:G.T->List G.Y
 |⟨k,nm,_,l⟩=>if k=1 then [nm]else if k=3 then cL [] l else []
def cL(out:List G.Y):List G.T->List G.Y
 |[]=>out
 |x::l=>cL (gX out (oG x)) l
end
def aR2(a:List G.Y):pX:=[yS 1 a]
def aHc{t:G.T}{L n:Nat}(h:t.kind=3):bR L (n+1) 86 [yR 3 t]=some (aDe t.args):=args_ok.trans (by rw[bI h])
def aQj{t:G.T}{L n:Nat}(h: ¬t.kind=3):bR L (n+1) 86 [yR 3 t]=some (aDe []):=args_ok.trans (by rw[bH h])
def aQX{c:bT}{L:Nat}{t:G.Y}{a:List G.Y}(hb:a.length<1000000000): ∀(l:List G.Y) (k m:Nat),a.drop k=l->l.length<m->
    FA c L m a (k:Int) t=some (bb (decide (t∈l))):=by
 intro l;induction l with
 |nil=>
  intro k m h1 h3;obtain⟨m,rfl⟩:=sK m 1 (by simp at h3;omega)
  have e1:=bW h1;have e3:decide ((k:Int)<(a.length:Int))=false:=by simp;omega
  rw[FA,aAB,e3,bL];simp[bb]
 |cons x l ih=>
  intro k m h1 h3;obtain⟨m,rfl⟩:=sK m 1 (by simp at h3;omega)
  obtain⟨a1,a2,a3⟩:=bX h1;have e3:decide ((k:Int)<(a.length:Int))=true:=by simp;omega
  rw[FA,aAB,e3,bO,bP,a1,bZ,cS (by omega)]
  by_cases e:x=t
  .subst e;simp[bN,bb]
  .have e': ¬t=x:=λh=>e h.symm
   simp only[e,decide_false,bL];rw[ih (k+1) m a3 (by simp at h3;omega)]
   simp[e']
def bIA{a:List G.Y}{t:G.Y}{L n:Nat}(hb:a.length<1000000000)(hL:a.length<L):bR L (n+1) 87 [yS 1 a,yR 1 t]=some [yB (decide (t∈a))]:=by
 rw[bQq];exact aQX hb a 0 L rfl hL
def Qw(out:List G.Y)(s:G.Y):(oE out s).length<=out.length+1:=by
 unfold oE;split<;>simp
def wD: ∀(r out:List G.Y),(gX out r).length<=out.length+r.length
 |[],out=>by simp[gX]
 |s::r,out=>by
  have h1:=wD r (oE out s);have h2:=Qw out s;simp only[gX,aM];omega
def Dt{l:List G.T}(ih: ∀x∈l,(oG x).length<=cJ x): ∀out,(cL out l).length<=out.length+cC l:=by
 induction l with
 |nil=>intro out;simp[cL,cC]
 |cons x l ih2=>
  intro out;simp only[cL,cC];have h1:=ih2 (λy hy=>ih y (aG _ hy)) (gX out (oG x))
  have h2:=ih x (aH ..);have h3:=wD (oG x) out;omega
def zF: ∀(t:G.T),(oG t).length<=cJ t:=by
 intro t;induction t using fW with
 |h k n v l ih=>
  simp only[oG,cJ];split
  .simp;omega
  .split
   .have:=Dt ih [];simp at this;omega
   .simp
def aG6{a:Nat}(h:a<30000000):Nat.ble ((a+1)*32) 1073741824=true:=by
 apply Nat.ble_eq_true_of_le;omega
def bHC{L n:Nat}{n1:List G.T->Int->List G.Y->Rt}{a:List G.T}{k4:Int}{p:List G.Y}(hp:p.length<30000000): ∀(l out:List G.Y) (k m:Nat),p.drop k=l->l.length<m->out.length+l.length<30000000->out.length+l.length<L->
    Ct (bR L (n+1)) L n1 m p (k:Int) k4 a out=n1 a (IntKind.i64.wrap (k4+1)) (gX out l):=by
 intro l;induction l with
 |nil=>
  intro out k m h1 h3 _ _;obtain⟨m,rfl⟩:=sK m 1 (by simp at h3;omega)
  have e1:=bW h1;have e3:decide ((k:Int)<(p.length:Int))=false:=by simp;omega
  rw[Ct,aA8,e3,bL];rfl
 |cons x l ih=>
  intro out k m h1 h3 h4 h5;obtain⟨m,rfl⟩:=sK m 1 (by simp at h3;omega)
  obtain⟨a1,a2,a3⟩:=bX h1;simp only[aM]at h4 h5;have e3:decide ((k:Int)<(p.length:Int))=true:=by simp;omega
  rw[Ct,aA8,e3,bO,bP,a1,bZ,bIA (by omega) (by omega),cH,gX]
  by_cases e:x∈out
  .have ea:oE out x=out:=by simp[oE,e]
   simp only[e,decide_true,bD,bL,ZX,aA7];rw[cS (by omega),ih out (k+1) m a3 (by simp at h3;omega) (by omega) (by omega),ea]
  .have ea:oE out x=out++ [x]:=by simp[oE,e]
   simp only[e,decide_false,Bool.not_false,bO,ZX,aA7,bZ,aM,aX,Nat.zero_add,aG6 (show out.length<30000000 by omega),fS]
   rw[cS (by omega),ih (out++ [x]) (k+1) m a3 (by simp at h3;omega) (by simp;omega) (by simp;omega),ea]
def YF{L n:Nat}{a:List G.T}(hb:a.length<1000000000): ∀(l:List G.T) (out:List G.Y) (k m:Nat),a.drop k=l->l.length<m->out.length+cC l<30000000->out.length+cC l<L->
    (∀x,x∈l->x.kind=3->bR L (n+1) 28 [yS 3 x.args]=some (aR2 (cL [] x.args)))->
    (∀x,x∈l->bR L (n+1) 28 [yS 3 ([]:List G.T)]=some (aR2 []))->xJ (bR L (n+1)) L m a (k:Int) out=some (aR2 (cL out l)):=by
 intro l;induction l with
 |nil=>
  intro out k m h1 h3 _ _ _ _;obtain⟨m,rfl⟩:=sK m 1 (by simp at h3;omega)
  have e1:=bW h1;have e3:decide ((k:Int)<(a.length:Int))=false:=by simp;omega
  rw[xJ,QX,e3,bL];rfl
 |cons x l ih=>
  intro out k m h1 h3 h4 h5 hc hz;obtain⟨m,rfl⟩:=sK m 1 (by simp at h3;omega)
  obtain⟨a1,a2,a3⟩:=bX h1;simp only[cC]at h4 h5;have hv:=zF x;have e3:decide ((k:Int)<(a.length:Int))=true:=by simp;omega
  have key:Ct (bR L (n+1)) L (xJ (bR L (n+1)) L m) L (oG x) 0 (k:Int) a out=some (aR2 (cL out (x::l))):=by
   have h0:=bHC (L:=L) (n:=n) (n1:=xJ (bR L (n+1)) L m) (a:=a) (k4:=(k:Int)) (p:=oG x) (by omega) (oG x) out 0 L rfl (by omega) (by omega) (by omega)
   refine h0.trans ?_;have hl:=wD (oG x) out;rw[cS (by omega),cL]
   exact ih (gX out (oG x)) (k+1) m a3 (by simp at h3;omega) (by omega) (by omega) (λy hy=>hc y (aG _ hy)) (λy hy=>hz y (aG _ hy))
  rw[xJ,QX,e3,bO,bP,a1,bZ];simp only[bZ,aJJ,aLd];cases x with|mk kk nm v al=>
  by_cases e1:kk=1
  .have:oG ⟨kk,nm,v,al⟩=[nm]:=by simp[oG,e1]
   rw[this]at key;simp only[G.T.kind,G.T.name,e1,decide_true,bO];rw[<-e1];exact key
  .have bMw: ∃q:List G.T,bR L (n+1) 86 [yR 3 ⟨kk,nm,v,al⟩]=some [yS 3 q]/\bR L (n+1) 28 [yS 3 q]=some [yS 1 (oG ⟨kk,nm,v,al⟩)]:=by
    by_cases e2:kk=3
    .refine⟨al,aHc (t:=⟨kk,nm,v,al⟩) e2,?_⟩;have:oG ⟨kk,nm,v,al⟩=cL [] al:=by simp[oG,e2]
     rw[this];exact hc ⟨kk,nm,v,al⟩ (aH ..) e2
    .refine⟨[],aQj (t:=⟨kk,nm,v,al⟩) e2,?_⟩;have:oG ⟨kk,nm,v,al⟩=[]:=by simp[oG,e1,e2]
     rw[this];exact hz ⟨kk,nm,v,al⟩ (aH ..)
   obtain⟨q,q1,q2⟩:=bMw;have e1':decide ((G.T.mk kk nm v al).kind=1)=false:=by simp[G.T.kind,e1]
   rw[e1',bL,q1,pR,q2,gC];exact key
end Go.TV
namespace Go.TV
open Go.AI Go.PI Go.Proofs
def aIV{L n:Nat}(hL:0<L):bR L (n+1) 28 [yS 3 ([]:List G.T)]=some (aR2 []):=by
 obtain⟨L,rfl⟩:=sK L 1 (by omega)
 rw[bIQ,bJb,aLe,xJ,QX];have e3:decide ((0:Int)<(([]:List G.T).length:Int))=false:=by simp
 rw[e3,bL];rfl
def a4x: ∀(t:G.T),cJ t<30000000->∀(L n:Nat),cJ t<L->cJ t<=n->bR L n 28 [yS 3 t.args]=some (aR2 (cL [] t.args)):=by
 intro t;induction t using fW with
 |h k nm v l ih=>
  intro hw L n hL hn;simp only[cJ]at hw hL hn;have hlen:=dV l;obtain⟨n,rfl⟩:=sK n 2 (by omega)
  show bR L (n+1+1) 28 [yS 3 l]=some (aR2 (cL [] l));rw[bIQ];exact YF (n:=n) (by omega) l [] 0 L rfl (by omega) (by simp;omega) (by simp;omega)
   (λx hx _=>ih x hx (by have:=dB hx;omega) L (n+1) (by have:=dB hx;omega) (by have:=dB hx;omega))
   (λx hx=>aIV (by omega))
def a4y(l:List G.T)(hw:cC l<30000000)(L n:Nat)(hL:cC l<L)(hn:cC l+2<=n):bR L n 28 [yS 3 l]=some (aR2 (cL [] l)):=by
 have hlen:=dV l;obtain⟨n,rfl⟩:=sK n 2 (by omega)
 rw[bIQ];exact YF (n:=n) (by omega) l [] 0 L rfl (by omega) (by simp;omega) (by simp;omega)
  (λx hx _=>a4x x (by have:=dB hx;omega) L (n+1) (by have:=dB hx;omega) (by have:=dB hx;omega))
  (λx hx=>aIV (by omega))
end Go.TV
namespace Go.TV
open Go.AI Go.PI Go.Proofs
def sS{s:List UInt8}{L n:Nat}:bR L (n+1) 33 [yT s]=some [yR 1 (⟨fD,s⟩:G.Y)]:=by
 rw[bQJ];rfl
def bH8{t:G.T}{s:List UInt8}{k:Int}{L n:Nat}:bR L (n+2) 30 (tsi t s k)=some (bb (Gf t s k)):=by
 show bR L (n+1+1) 30 [yR 3 _,yT _,yI _]=_;rw[bQM,bI9,aK8,sS,kQ];simp only[aJG,aK7,Gf];by_cases e1:t.kind=3
 .by_cases e2:t.name=⟨fD,s⟩
  .simp[e1,e2,bN,bb]
  .simp[e1,e2,bN,bb]
 .simp[e1,bN,bb]
end Go.TV
namespace Go.TV
open Go.AI Go.PI Go.Proofs
set_option maxRecDepth 20000
def aO8{c:bT}{L:Nat}{t:G.Y}{a:List G.Y}(hb:a.length<1000000000): ∀(l:List G.Y) (k m:Nat),a.drop k=l->l.length<m->
    FD c L m (a.length:Int) a (k:Int) t=some (bb (decide (t∈l))):=by
 intro l;induction l with
 |nil=>
  intro k m h1 h3;obtain⟨m,rfl⟩:=sK m 1 (by simp at h3;omega)
  have e1:=bW h1;have e3:decide ((k:Int)<(a.length:Int))=false:=by simp;omega
  rw[FD,aAE,e3,bL];simp[bb]
 |cons x l ih=>
  intro k m h1 h3;obtain⟨m,rfl⟩:=sK m 1 (by simp at h3;omega)
  obtain⟨a1,a2,a3⟩:=bX h1;have e3:decide ((k:Int)<(a.length:Int))=true:=by simp;omega
  rw[FD,aAE,e3,bO,bP,a1,bZ,cS (by omega)]
  by_cases e:x=t
  .subst e;simp[bN,bb]
  .have e': ¬t=x:=λh=>e h.symm
   simp only[e,decide_false,bL];rw[ih (k+1) m a3 (by simp at h3;omega)]
   simp[e']
def aSt{a:List G.Y}{t:G.Y}{L n:Nat}(hb:a.length<1000000000)(hL:a.length<L):bR L (n+1) 76 [yS 1 a,yR 1 t]=some [yB (decide (t∈a))]:=by
 rw[c76];exact aO8 hb a 0 L rfl hL
def aON{c:bT}{L:Nat}{t:G.Y}{a:List G.Y}(hb:a.length<1000000000): ∀(l:List G.Y) (k m:Nat),a.drop k=l->l.length<m->
    Fw c L m a (k:Int) t=some (bb (decide (t∈l))):=by
 intro l;induction l with
 |nil=>
  intro k m h1 h3;obtain⟨m,rfl⟩:=sK m 1 (by simp at h3;omega)
  have e1:=bW h1;have e3:decide ((k:Int)<(a.length:Int))=false:=by simp;omega
  rw[Fw,aAy,e3,bL];simp[bb]
 |cons x l ih=>
  intro k m h1 h3;obtain⟨m,rfl⟩:=sK m 1 (by simp at h3;omega)
  obtain⟨a1,a2,a3⟩:=bX h1;have e3:decide ((k:Int)<(a.length:Int))=true:=by simp;omega
  rw[Fw,aAy,e3,bO,bP,a1,bZ,cS (by omega)]
  by_cases e:x=t
  .subst e;simp[bN,bb]
  .have e': ¬t=x:=λh=>e h.symm
   simp only[e,decide_false,bL];rw[ih (k+1) m a3 (by simp at h3;omega)]
   simp[e']
def bGo{a:List G.Y}{t:G.Y}{L n:Nat}(hb:a.length<1000000000)(hL:a.length<L):bR L (n+1) 91 [yS 1 a,yR 1 t]=some [yB (decide (t∈a))]:=by
 rw[bQn];exact aON hb a 0 L rfl hL
def Do(a b:List G.Y):Bool:=a.all λs=>decide (s∈b)
def NR{x:G.Y}{l b:List G.Y}:Do (x::l) b=(decide (x∈b)&&Do l b):=rfl
def aBp{a b d:List G.Y}(h: ∀s,s∈b↔s∈d):Do a b=Do a d:=by
 unfold Do;congr;funext s;exact decide_eq_decide.2 (h s)
def Dn{a b d:List G.Y}(h: ∀s,s∈a↔s∈d):Do a b=Do d b:=by
 unfold Do;rw[Bool.eq_iff_iff,bJ,bJ];exact⟨λq s hs=>q s ((h s).2 hs),λq s hs=>q s ((h s).1 hs)⟩
def aNl{c:bT}{L:Nat}{a b:List G.Y}(hb:a.length<1000000000)(hc: ∀s:G.Y,c 76 [yS 1 b,yR 1 s]=some [yB (decide (s∈b))]): ∀(l:List G.Y) (k m:Nat),a.drop k=l->l.length<m->
    FE c L m (a.length:Int) a b (k:Int)=some [yB (Do l b)]:=by
 intro l;induction l with
 |nil=>
  intro k m h1 h3;obtain⟨m,rfl⟩:=sK m 1 (by simp at h3;omega)
  have e1:=bW h1;have e3:decide ((k:Int)<(a.length:Int))=false:=by simp;omega
  rw[FE,aAF,e3,bL];rfl
 |cons x l ih=>
  intro k m h1 h3;obtain⟨m,rfl⟩:=sK m 1 (by simp at h3;omega)
  obtain⟨a1,a2,a3⟩:=bX h1;have e3:decide ((k:Int)<(a.length:Int))=true:=by simp;omega
  rw[FE,aAF,e3,bO,bP,a1,bZ,hc,cH,cS (by omega),ih (k+1) m a3 (by simp at h3;omega),NR]
  cases decide (x∈b)<;>rfl
def a6G{a b:List G.Y}{L n:Nat}(h1:a.length<1000000000)(h2:a.length<L)(h3:b.length<1000000000)(h4:b.length<L):bR L (n+2) 73 [yS 1 a,yS 1 b]=some [yB (Do a b)]:=by
 rw[c73];exact aNl h1 (λs=>aSt h3 h4) a 0 L rfl h2
def aNk{c:bT}{L:Nat}{a b:List G.Y}(hb:a.length<1000000000)(hc: ∀s:G.Y,c 91 [yS 1 b,yR 1 s]=some [yB (decide (s∈b))]): ∀(l:List G.Y) (k m:Nat),a.drop k=l->l.length<m->
    FK c L m b a (k:Int)=some [yB (Do l b)]:=by
 intro l;induction l with
 |nil=>
  intro k m h1 h3;obtain⟨m,rfl⟩:=sK m 1 (by simp at h3;omega)
  have e1:=bW h1;have e3:decide ((k:Int)<(a.length:Int))=false:=by simp;omega
  rw[FK,aA1,e3,bL];rfl
 |cons x l ih=>
  intro k m h1 h3;obtain⟨m,rfl⟩:=sK m 1 (by simp at h3;omega)
  obtain⟨a1,a2,a3⟩:=bX h1;have e3:decide ((k:Int)<(a.length:Int))=true:=by simp;omega
  rw[FK,aA1,e3,bO,bP,a1,bZ,hc,cH,cS (by omega),ih (k+1) m a3 (by simp at h3;omega),NR]
  cases decide (x∈b)<;>rfl
def a6F{a b:List G.Y}{L n:Nat}(h1:a.length<1000000000)(h2:a.length<L)(h3:b.length<1000000000)(h4:b.length<L):bR L (n+2) 37 [yS 1 a,yS 1 b]=some [yB (Do a b)]:=by
 rw[bQG];exact aNk h1 (λs=>bGo h3 h4) a 0 L rfl h2
def aM4(s:G.Y):Bool:=(arity s).isSome
def aM5(s:G.Y):Bool:=aM4 s||decide (s=⟨fD,bDF⟩)
def Kl(o:Option Int): ∃i:Int,oI o=[yI i,yB o.isSome]:=by
 cases o with
 |none=>exact⟨_,rfl⟩
 |some k=>exact⟨_,rfl⟩
def aEW(s:G.Y)(L n:Nat):bR L (n+2) 80 [yR 1 s]=some [yB (aM4 s)]:=by
 obtain⟨i,h⟩:=Kl (arity s);rw[c80,bPm,aUn,a52,h];rfl
def a0F(s:G.Y)(L n:Nat)(hL:1000<=L):bR L (n+3) 43 [yR 1 s]=some [yB (aM4 s)]:=by
 obtain⟨i,h⟩:=Kl (arity s);rw[bQC,bI3,aUG,VZ s L n hL,h];rfl
def Ed{s:List UInt8}{L n:Nat}:bR L (n+1) 68 [yT s]=some [yR 1 (⟨fD,s⟩:G.Y)]:=by
 rw[bQv];rfl
def a3G(s:G.Y)(L n:Nat):bR L (n+3) 78 [yR 1 s]=some [yB (!aM5 s)]:=by
 rw[c78,bPo,aKE,aEW,cH];unfold aM5;cases aM4 s with
 |true=>rfl
 |false=>
  rw[Bool.not_false,bO,Ed,kQ];rfl
def aN7(s:G.Y)(L n:Nat)(hL:1000<=L):bR L (n+3) 41 [yR 1 s]=some [yB (aM5 s)]:=by
 obtain⟨i,h⟩:=Kl (arity s);rw[bQE,bI4,aKW,VZ s L n hL,h];show bN (arity s).isSome _ _=_;unfold aM5 aM4;cases(arity s).isSome with
 |true=>rfl
 |false=>
  rw[bL,sS,kQ];rfl
def So{t:G.T}{s:List UInt8}{k:Int}{L n:Nat}:bR L (n+2) 65 [yR 3 t,yT s,yI k]=some [yB (Gf t s k)]:=by
 rw[c65,bPx,aKS];unfold Gf;cases decide (t.kind=3)with
 |false=>rfl
 |true=>
  rw[bO,Ed,kQ];show bN (decide (t.name=⟨fD,s⟩)) _ _=_;cases decide (t.name=⟨fD,s⟩)<;>rfl
end Go.TV
namespace Go.TV
open Go.AI Go.PI Go.Proofs
set_option maxRecDepth 20000
def aNG{c:bT}{L:Nat}{t:G.Y}{a:List G.Y}(hb:a.length<1000000000): ∀(l:List G.Y) (k m:Nat),a.drop k=l->l.length<m->
    ∃r:Int,yK c L m (a.length:Int) a (k:Int) t=some [yI r]/\decide (0<=r)=decide (t∈l):=by
 intro l;induction l with
 |nil=>
  intro k m h1 h3;obtain⟨m,rfl⟩:=sK m 1 (by simp at h3;omega)
  have e1:=bW h1;have e3:decide ((k:Int)<(a.length:Int))=false:=by simp;omega
  rw[yK,MS,e3,bL];exact⟨-1,rfl,by simp⟩
 |cons x l ih=>
  intro k m h1 h3;obtain⟨m,rfl⟩:=sK m 1 (by simp at h3;omega)
  obtain⟨a1,a2,a3⟩:=bX h1;have e3:decide ((k:Int)<(a.length:Int))=true:=by simp;omega
  rw[yK,MS,e3,bO,bP,a1,bZ,cS (by omega)]
  by_cases e:t=x
  .rw[bF e,bO];exact⟨k,rfl,by subst e;simp⟩
  .rw[bG e,bL];obtain⟨r,h5,h6⟩:=ih (k+1) m a3 (by simp at h3;omega)
   exact⟨r,h5,by rw[h6];simp[e]⟩
def a8C{a:List G.Y}{t:G.Y}{L n:Nat}(hb:a.length<1000000000)(hL:a.length<L):bR L (n+2) 193 [yS 1 a,yR 1 t]=some [yB (decide (t∈a))]:=by
 obtain⟨r,h1,h2⟩:=aNG (c:=bR L n) (L:=L) (t:=t) hb a 0 L rfl hL;have h3:bR L (n+1) 202 [yS 1 a,yR 1 t]=some [yI r]:=by
  rw[bOi];exact h1
 rw[<-h2,bOl,a4P,aLT,h3];rfl
mutual
def Gx(out:List G.Y):G.T->List G.Y
 |⟨k,nm,_,l⟩=>if k=3 then E9 (if k=1 then oE out nm else out) l else if k=1 then oE out nm else out
def E9(out:List G.Y):List G.T->List G.Y
 |[]=>out
 |x::l=>E9 (Gx out x) l
end
def aFx{x s:G.Y}{out:List G.Y}:x∈oE out s↔x∈out∨x=s:=by
 unfold oE;split
 .rename_i h;exact⟨.inl,λh'=>h'.elim id λe=>e▸h⟩
 .simp
def Bi{x:G.Y}: ∀{r out:List G.Y},x∈gX out r↔x∈out∨x∈r
 |[],out=>by simp[gX]
 |s::r,out=>by rw[gX,Bi,aFx,List.mem_cons];exact or_assoc
def Fr(s:G.Y): ∀(r out:List G.Y),gX out (r++ [s])=oE (gX out r) s
 |[],out=>rfl
 |x::r,out=>by rw[aY,gX,Fr s r,gX]
def Ud(out a:List G.Y)(s:G.Y):gX out (oE a s)=oE (gX out a) s:=by
 by_cases h:s∈a
 .rw[oE,bI h,oE,bI (Bi.2 (.inr h))]
 .rw[oE,bH h,Fr]
def Cl(out:List G.Y): ∀(b a:List G.Y),gX out (gX a b)=gX (gX out a) b
 |[],a=>rfl
 |s::b,a=>by rw[gX,Cl out b,Ud,gX]
def NS(out:List G.Y): ∀(l:List G.T) (acc:List G.Y),gX out (cL acc l)=cL (gX out acc) l
 |[],acc=>by rw[cL,cL]
 |x::l,acc=>by rw[cL,NS out l,Cl,cL]
def XZ{l:List G.T}(h: ∀x∈l,∀out,Gx out x=gX out (oG x)): ∀out,E9 out l=cL out l:=by
 induction l with
 |nil=>intro out;rw[E9,cL]
 |cons x l ih=>intro out;rw[E9,cL,h x (aH ..),ih λy hy=>h y (aG _ hy)]
def XY: ∀(t:G.T) (out:List G.Y),Gx out t=gX out (oG t):=by
 intro t;induction t using fW with
 |h k nm v l ih=>
  intro out;rw[Gx,oG];by_cases h3:k=3
  .have h1: ¬k=1:=by omega
   rw[bI h3,bH h1,bH h1,bI h3,XZ ih,NS];rfl
  .rw[bH h3];by_cases h1:k=1
   .rw[bI h1,bI h1];rfl
   .rw[bH h1,bH h1,bH h3];rfl
def aP5(l:List G.T)(out:List G.Y):E9 out l=cL out l:=XZ (λx _=>XY x) out
def P9(t:G.T)(out:List G.Y):(Gx out t).length<=out.length+cJ t:=by
 rw[XY];have h1:=wD (oG t) out;have h2:=zF t;omega
def oP{x:G.Y}: ∀{l:List G.T} {out:List G.Y},x∈cL out l↔x∈out∨∃t∈l,x∈oG t
 |[],out=>by simp[cL]
 |t::l,out=>by
  rw[cL,oP,Bi,or_assoc];simp
def aVY(out:List G.Y):pX:=[yB true,yI (1:Int),yS 1 out]
def Kj{W:Type}{b:Bool}{i:Int}{l:List G.Y}{K:Bool×Int×List G.Y×Unit->Option W}:fU (D:=U0.D) [.bool,.int .i64,.sl (.rc 1)] (some [yB b,yI i,yS 1 l]) K=K (b,i,l,()):=rfl
def bHb{t:G.T}{out:List G.Y}{L n:Nat}(h:out.length<30000000)(hL:out.length<L):bR L (n+3) 167 [yR 3 t,yI (1:Int),yS 1 out]=some (aVY (if t.kind=1 then oE out t.name else out)):=by
 rw[bOx,a40,VD];by_cases hk:t.kind=1
 .rw[bF hk,bO,a8C (by omega) hL,cH,bI hk]
  simp only[Vg,VC,Vf,VB];by_cases hm:t.name∈out
  .rw[bF hm,oE,bI hm];rfl
  .rw[bG hm,Bool.not_false,bO,oE,bH hm];show iQ (Nat.ble ((out.length+1)*32) 1073741824) _=_;rw[aG6 h,fS];rfl
 .rw[bG hk,bL,bH hk];rfl
def aNi{L n:Nat}{a:List G.T}(hb:a.length<1000000000): ∀(l:List G.T) (k m:Nat) (out:List G.Y),a.drop k=l->l.length<m->out.length+cC l<30000000->out.length+cC l<L->
    (∀x∈l,∀out:List G.Y,out.length+cJ x<30000000->out.length+cJ x<L->bR L n 140 [yR 3 x,yI (1:Int),yS 1 out]=some (aVY (Gx out x)))->
    yP (bR L n) L m (a.length:Int) a (k:Int) (1:Int) out=some (aVY (E9 out l)):=by
 intro l;induction l with
 |nil=>
  intro k m out h1 h3 _ _ _;obtain⟨m,rfl⟩:=sK m 1 (by simp at h3;omega)
  have e1:=bW h1;have e3:decide ((k:Int)<(a.length:Int))=false:=by simp;omega
  rw[yP,MZ,e3,bL];rfl
 |cons x l ih=>
  intro k m out h1 h3 h4 h5 hc;obtain⟨m,rfl⟩:=sK m 1 (by simp at h3;omega)
  obtain⟨a1,a2,a3⟩:=bX h1;simp only[cC]at h4 h5;have hl:=P9 x out;have e3:decide ((k:Int)<(a.length:Int))=true:=by simp;omega
  have hx:=hc x (aH ..) out (by omega) (by omega)
  rw[aVY]at hx;rw[yP,MZ,e3,bO,bP,a1,bZ,hx,Kj,cS (by omega)]
  simp only[bD];rw[bL,E9];exact ih (k+1) m (Gx out x) a3 (by simp at h3;omega) (by omega) (by omega) (λy hy=>hc y (aG _ hy))
def a6E: ∀(t:G.T) (L n:Nat) (out:List G.Y),out.length+cJ t<30000000->out.length+cJ t<L->cJ t+3<=n->bR L n 140 [yR 3 t,yI (1:Int),yS 1 out]=some (aVY (Gx out t)):=by
 intro t;induction t using fW with
 |h k nm v l ih=>
  intro L n out hw hL hn;have hlen:=dV l;have htz:cJ ⟨k,nm,v,l⟩=cJ ⟨k,nm,v,l⟩:=rfl;simp only[cJ]at hw hL hn;obtain⟨n,rfl⟩:=sK n 4 (by omega)
  have h1:=bHb (t:=⟨k,nm,v,l⟩) (out:=out) (L:=L) (n:=n) (by omega) (by omega)
  rw[aVY]at h1;rw[bOM,a5e,VI,h1,Kj];simp only[bD];rw[bL,Gx];have hl1:(if(G.T.mk k nm v l).kind=1 then oE out (G.T.mk k nm v l).name else out).length<=out.length+1:=by
   split
   .exact Qw out nm
   .omega
  by_cases h3:k=3
  .rw[show decide ((G.T.mk k nm v l).kind=3)=true from bF h3,bO,bI h3]
   refine aNi (a:=l) (by omega) l 0 L _ rfl (by omega) (by omega) (by omega) λx hx out' g1 g2=>ih x hx L (n+3) out' g1 g2 (by have:=dB hx;omega)
  .rw[show decide ((G.T.mk k nm v l).kind=3)=false from bG h3,bL,bH h3];rfl
def aP8{L n:Nat}{a:List G.T}(hb:a.length<1000000000): ∀(l:List G.T) (k m:Nat) (out:List G.Y),a.drop k=l->l.length<m->out.length+cC l<30000000->out.length+cC l<L->cC l+3<=n->
    yY (bR L n) L m (a.length:Int) a (k:Int) (1:Int) out=some [yS 1 (E9 out l)]:=by
 intro l;induction l with
 |nil=>
  intro k m out h1 h3 _ _ _;obtain⟨m,rfl⟩:=sK m 1 (by simp at h3;omega)
  have e1:=bW h1;have e3:decide ((k:Int)<(a.length:Int))=false:=by simp;omega
  rw[yY,ND,e3,bL];rfl
 |cons x l ih=>
  intro k m out h1 h3 h4 h5 h6;obtain⟨m,rfl⟩:=sK m 1 (by simp at h3;omega)
  obtain⟨a1,a2,a3⟩:=bX h1;simp only[cC]at h4 h5 h6;have hl:=P9 x out;have e3:decide ((k:Int)<(a.length:Int))=true:=by simp;omega
  have hx:=a6E x L n out (by omega) (by omega) (by omega)
  rw[aVY]at hx;rw[yY,ND,e3,bO,bP,a1,bZ,hx,Kj,cS (by omega),E9]
  exact ih (k+1) m (Gx out x) a3 (by simp at h3;omega) (by omega) (by omega) (by omega)
def a7z(l:List G.T)(hw:cC l<30000000)(L n:Nat)(hL:cC l<L)(hn:cC l+5<=n):bR L n 72 [yS 3 l]=some [yS 1 (cL [] l)]:=by
 have hlen:=dV l;obtain⟨n,rfl⟩:=sK n 2 (by omega)
 have h:=aP8 (L:=L) (n:=n) (a:=l) (by omega) l 0 L [] rfl (by omega) (by simp;omega) (by simp;omega) (by omega)
 have h2:bR L (n+1) 114 [yS 3 l,yI (1:Int)]=some [yS 1 (E9 [] l)]:=by
  rw[bOX];exact h
 rw[c72,bPs,aUu,h2,gC,aP5]
end Go.TV
namespace Go.TV
open Go.AI Go.PI Go.Proofs
set_option maxRecDepth 20000
def aE3:G.O:=⟨0,[],[],⟨[],[]⟩,[],[]⟩
def eB:G.T:=⟨0,⟨[],[]⟩,aE3,[]⟩
def bDj{v:G.O}(h:xX v<1000000000)(e:v.kind=0):v=aE3:=by
 have h2:=aFc h;cases v with|mk k n d s t l=>
 have e:k=0:=e;subst e;have:a0M 0 n d s t l=true:=h2;simp only[a0M,show decide ((0:Int)=0)=true from rfl,show decide ((0:Int)=1)=false from rfl,show decide ((0:Int)=2)=false from rfl,show decide ((0:Int)=3)=false from rfl,show decide ((0:Int)=4)=false from rfl,Bool.true_and,Bool.false_and,Bool.or_false,aC,aD,List.isEmpty_iff]at this
 obtain⟨⟨⟨⟨⟨_,a1⟩,a2⟩,a3⟩,a4⟩,a5⟩:=this;subst a1;subst a2;subst a3;subst a4;subst a5;rfl
def bLr{v:G.O}(h:xX v<1000000000)(e:v.kind=2):v=⟨2,[],[],v.sym,[],[]⟩:=by
 have h2:=aFc h;cases v with|mk k n d s t l=>
 have e:k=2:=e;subst e;have:a0M 2 n d s t l=true:=h2;simp only[a0M,show decide ((2:Int)=0)=false from rfl,show decide ((2:Int)=1)=false from rfl,show decide ((2:Int)=2)=true from rfl,show decide ((2:Int)=3)=false from rfl,show decide ((2:Int)=4)=false from rfl,Bool.true_and,Bool.false_and,Bool.or_false,Bool.false_or,aC,aD,List.isEmpty_iff]at this
 obtain⟨⟨⟨⟨_,a1⟩,a2⟩,a3⟩,a4⟩:=this;subst a1;subst a2;subst a3;subst a4;rfl
def aNu{t:G.T}(h:cJ t<1000000000):(t=⟨1,t.name,aE3,[]⟩)∨(t=⟨2,⟨[],[]⟩,t.value,[]⟩/\xX t.value<1000000000/\t.value.kind≠0)∨(t=⟨3,t.name,aE3,t.args⟩):=by
 have h1:=aOi h;cases t with|mk k n v l=>
 simp only[cJ]at h;simp only[aFb,Bool.or_eq_true,aC,aD,List.isEmpty_iff,Bool.not_eq_true',bC]at h1;rcases h1 with(⟨⟨a1,a3⟩,a4⟩|⟨⟨⟨a1,a2⟩,a3⟩,a4⟩)|⟨a1,a4⟩
 .left;have hv:=bDj (v:=v) (by omega) a3;subst a1;subst hv;subst a4;rfl
 .right;left;subst a1;subst a2;subst a3;exact⟨rfl,by show xX v<_;omega,a4⟩
 .right;right;have hv:=bDj (v:=v) (by omega) a4;subst a1;subst hv;rfl
def aC9{t:G.T}(h:cJ t<1000000000)(hk:t.kind=1):t=⟨1,t.name,aE3,[]⟩:=by
 rcases aNu h with e|⟨e,_⟩|e
 .exact e
 .rw[e]at hk;cases hk
 .rw[e]at hk;cases hk
def jS{t:G.T}:cC t.args+4<=cJ t:=by
 cases t with|mk k n v l=>show cC l+4<=_;simp only[cJ];omega
def pN{t x:G.T}(h:x∈t.args):cJ x+4<=cJ t:=by
 have:=dB h;have:=jS (t:=t);omega
def tsz'_ap{l r:List G.T}:cC (l++r)=cC l+cC r:=by
 induction l with
 |nil=>simp[cC]
 |cons x l ih=>simp only[aY,cC,ih];omega
def gJ{t:G.T}{k:Nat}(h:k<t.args.length): ∃x,t.args[k]?=some x/\cJ x+4<=cJ t:=⟨_,aV h,pN (List.getElem_mem h)⟩
def aOv:G.O:=⟨2,[],[],⟨fD,[110,105,108]⟩,[],[]⟩
def G3:G.T:=⟨2,⟨[],[]⟩,aOv,[]⟩
def iNl{L n:Nat}{o:G.O}:bR L (n+1) 139 [yR 2 o]=some [yB (decide (o.kind=2)&&decide (o.sym=⟨fD,[110,105,108]⟩))]:=by
 rw[bON,a5f,VJ];cases decide (o.kind=2)<;>rfl
def a08{t:G.T}(h:cJ t<1000000000){L n:Nat}:bR L (n+2) 111 [yR 3 t]=some [yB (decide (t=G3))]:=by
 have e0:decide (t=G3)=(decide (t.kind=2)&&(decide (t.value.kind=2)&&decide (t.value.sym=⟨fD,[110,105,108]⟩))):=by
  rw[Bool.eq_iff_iff];simp only[aC,aD];constructor
  .rintro rfl;exact⟨rfl,rfl,rfl⟩
  .rintro⟨h1,h2,h3⟩;rcases aNu h with e|⟨e,e2,_⟩|e
   .rw[e]at h1;cases h1
   .rw[e,bLr e2 h2,h3];rfl
   .rw[e]at h1;cases h1
 rw[e0,bOY,a5t,VX];cases decide (t.kind=2)with
 |false=>rfl
 |true=>rw[bO,iNl,cH];rfl
def a09{L n:Nat}:bR L (n+2) 64 []=some [yR 2 aOv]:=by
 rw[bQw,bI1,aUA,sS,kQ];simp only[];rw[bOe];rfl
def Kg{W:Type}{b:G.O}{K:G.O×Unit->Option W}:kH (some [yR 2 b]) K=K (b,()):=rfl
def Sn{t:G.T}{s:List UInt8}{k:Int}{L n:Nat}:bR L (n+2) 30 [yR 3 t,yT s,yI k]=some [yB (Gf t s k)]:=bH8
def aFn{L n:Nat}:bR L (n+3) 34 []=some [yR 3 G3]:=by
 rw[bQI,bI7,aUK,a09,Kg];show eC (bR L (n+2) 36 [yR 2 aOv]) _=_;rw[bOg];rfl
def sV{W:Type}{b:G.T}{K:G.T×Unit->Option W}:eC (some [yR 3 b]) K=K (b,()):=rfl
def a07{t:G.T}{L n:Nat}(h:cJ t<1000000000)(hL:cJ t<=L)(hn:cJ t+4<=n):bR L n 125 [yR 3 t]=some [yB (decide (t=G3))]:=by
 obtain⟨n,rfl⟩:=sK n 4 (by omega)
 have h1:bR L (n+3) 40 [yR 3 t,yR 3 G3]=some [yB (decide (t=G3))]:=zA t h G3 L (n+3) hL (by omega)
 rw[bHh,aQP,aMS,aFn,sV];show cO (bR L (n+3) 40 [yR 3 t,yR 3 G3]) _=_;rw[h1];rfl
def qK{a:Nat}(h:a<6000000):Nat.ble (a*176) 1073741824=true:=by
 apply Nat.ble_eq_true_of_le;omega
def qG{t:G.T}{s:List UInt8}{k:Nat}(h:Gf t s (k:Int)=true):t.kind=3/\t.name=⟨fD,s⟩/\t.args.length=k:=by
 simp only[Gf,aC,aD]at h;exact⟨h.1.1,h.1.2,by omega⟩
def bG2: ∀(t:G.T) (L n:Nat),cJ t<6000000->cJ t+4<=L->cJ t+6<=n->∃l:List G.T,bR L n 66 [yR 3 t]=some [yS 3 l]/\bR L n 85 [yR 3 t]=some [yS 3 l]/\cC l<=cJ t+1:=by
 intro t;induction t using fW with
 |h k nm v l ih=>
  intro L n hw hL hn;obtain⟨n,rfl⟩:=sK n 6 (by omega)
  generalize ht:G.T.mk k nm v l=t at*;have hl:t.args=l:=by subst ht;rfl
  have fi: ∃q:List G.T,some [(yS 3 [t]:TV U0.D)]=some [yS 3 q]/\some [(yS 3 [t]:TV U0.D)]=some [yS 3 q]/\cC q<=cJ t+1:=⟨[t],rfl,rfl,by simp[cC]⟩
  rw[c66,bPw,aKR,So,cH,bQs,bIY,aKB,Sn,cH];show∃q:List G.T,bN (Gf t [105,102] 3) _ _=_/\bN (Gf t [105,102] 3) _ _=_/\_;cases hi:Gf t [105,102] 3 with
  |false=>exact fi
  |true=>
   obtain⟨_,_,h3⟩:=qG (k:=3) hi;obtain⟨a,ea,sa⟩:=gJ (t:=t) (k:=0) (by omega)
   obtain⟨b,eb,sb⟩:=gJ (t:=t) (k:=1) (by omega)
   obtain⟨d,ed,sd⟩:=gJ (t:=t) (k:=2) (by omega)
   have ia:cI t.args (0:Int)=some a:=(bP t.args 0).trans ea;have ib:cI t.args (1:Int)=some b:=(bP t.args 1).trans eb;have id:cI t.args (2:Int)=some d:=(bP t.args 2).trans ed;rw[bO,bO,id,bZ,bZ,a08 (by omega),cH,a07 (by omega) (by omega) (by omega),cH]
   simp only[aJC,aKQ,aJw,aKA];cases decide (d=G3)with
   |false=>exact fi
   |true=>
    have ma:a∈l:=by rw[<-hl];exact List.mem_of_getElem? ea
    have mb:b∈l:=by rw[<-hl];exact List.mem_of_getElem? eb
    obtain⟨p,p1,p2,p3⟩:=ih a ma L (n+5) (by omega) (by omega) (by omega)
    obtain⟨q,q1,q2,q3⟩:=ih b mb L (n+5) (by omega) (by omega) (by omega)
    have hab:cJ a+cJ b+6<=cJ t:=by
     have h5:=jS (t:=t);obtain⟨x,y,z,e⟩: ∃x y z,t.args=[x,y,z]:=by
      cases h6:t.args with
      |nil=>rw[h6]at h3;cases h3
      |cons x r=>cases r with
       |nil=>rw[h6]at h3;cases h3
       |cons y r=>cases r with
        |nil=>rw[h6]at h3;cases h3
        |cons z r=>cases r with
         |nil=>exact⟨x,y,z,rfl⟩
         |cons w r=>rw[h6]at h3;simp at h3
     rw[e]at ea eb h5;simp only[aU,aT,aA]at ea eb;subst ea;subst eb;simp only[cC]at h5;omega
    have hp:=dV p;have hq:=dV q;rw[bO,bO,ia,bZ,ib,bZ,p1,pR,q1,pR,bZ,bZ,p2,pR,q2,pR];have hb:Nat.ble ((p.length+q.length)*176) 1073741824=true:=qK (by omega)
    simp only[];rw[hb,fS];exact⟨p++q,rfl,rfl,by rw[tsz'_ap];omega⟩
end Go.TV
namespace Go.TV
open Go.AI Go.PI Go.Proofs
set_option maxRecDepth 20000
def NT{t:G.T}{a b:G.T}(h:t.args.length=2)(ea:t.args[0]?=some a)(eb:t.args[1]?=some b):t.args=[a,b]/\cJ a+cJ b+6<=cJ t:=by
 have h5:=jS (t:=t);obtain⟨x,y,e⟩: ∃x y,t.args=[x,y]:=by
  cases h6:t.args with
  |nil=>rw[h6]at h;cases h
  |cons x r=>cases r with
   |nil=>rw[h6]at h;cases h
   |cons y r=>cases r with
    |nil=>exact⟨x,y,rfl⟩
    |cons z r=>rw[h6]at h;simp at h
 rw[e]at ea eb h5;simp only[aU,aT,aA]at ea eb;subst ea;subst eb;simp only[cC]at h5;exact⟨e,by omega⟩
def aN6{L n:Nat}: ∀(t:G.T) (m:Nat) (acc:List G.T),cJ t<m->cC acc+cJ t<6000000->cC acc+cJ t+4<=L->cC acc+cJ t+6<=n->
    ∃(h:List G.T) (d:G.T),HU (bR L n) L m acc t eB=some [yS 3 h,yR 3 d]/\HT (bR L n) L m acc t eB=some [yS 3 h,yR 3 d]/\cC h+cJ d<=cC acc+cJ t:=by
 intro t;induction t using fW with
 |h k nm v l ih=>
  intro m acc hm hw hL hn;obtain⟨m,rfl⟩:=sK m 1 (by omega)
  obtain⟨n,rfl⟩:=sK n 2 (by omega)
  generalize ht:G.T.mk k nm v l=t at*;have hl:t.args=l:=by subst ht;rfl
  rw[HU,aLU,So,cH,HT,aLf,Sn,cH];show∃(h:List G.T) (d:G.T),bN (Gf t [105,109,112,108,105,101,115] 2) _ _=_/\bN (Gf t [105,109,112,108,105,101,115] 2) _ _=_/\_;cases hi:Gf t [105,109,112,108,105,101,115] 2 with
  |false=>exact⟨acc,t,rfl,rfl,aS _⟩
  |true=>
   obtain⟨_,_,h3⟩:=qG (k:=2) hi;obtain⟨a,ea,sa⟩:=gJ (t:=t) (k:=0) (by omega)
   obtain⟨b,eb,sb⟩:=gJ (t:=t) (k:=1) (by omega)
   obtain⟨_,hab⟩:=NT h3 ea eb;have ia:cI t.args (0:Int)=some a:=(bP t.args 0).trans ea;have ib:cI t.args (1:Int)=some b:=(bP t.args 1).trans eb;have mb:b∈l:=by rw[<-hl];exact List.mem_of_getElem? eb
   obtain⟨p,p1,p2,p3⟩:=bG2 a L (n+2) (by omega) (by omega) (by omega)
   have h1:=dV acc;have h2:=dV p;have hb:Nat.ble ((acc.length+p.length)*176) 1073741824=true:=qK (by omega)
   rw[bO,bO,ia,bZ,bZ,p1,pR,p2,pR];simp only[];rw[hb,fS,fS,ib,bZ,bZ];obtain⟨h,d,g1,g2,g3⟩:=ih b mb m (acc++p) (by omega) (by rw[tsz'_ap];omega) (by rw[tsz'_ap];omega) (by rw[tsz'_ap];omega)
   exact⟨h,d,g1,g2,by rw[tsz'_ap]at g3;omega⟩
def bDb(t:G.T)(L n:Nat)(hw:cJ t<6000000)(hL:cJ t+4<=L)(hn:cJ t+7<=n):
    ∃(h:List G.T) (d:G.T),bR L n 18 [yR 3 t]=some [yS 3 h,yR 3 d]/\bR L n 27 [yR 3 t]=some [yS 3 h,yR 3 d]/\cC h+cJ d<=cJ t:=by
 obtain⟨n,rfl⟩:=sK n 1 (by omega)
 obtain⟨h,d,g1,g2,g3⟩:=aN6 (L:=L) (n:=n) t L [] (by omega) (by simp only[cC];omega) (by simp only[cC];omega) (by simp only[cC];omega)
 refine⟨h,d,?_,?_,by simp only[cC]at g3;omega⟩
 .rw[c18];exact g1
 .rw[bQO];exact g2
mutual
def oM:G.T->List G.T
 |⟨k,nm,v,l⟩=>⟨k,nm,v,l⟩::(if k=3 then AZ l else [])
def AZ:List G.T->List G.T
 |[]=>[]
 |x::l=>oM x++AZ l
end
def WG{l:List G.T}(h: ∀x∈l,(oM x).length<=cJ x):(AZ l).length<=cC l:=by
 induction l with
 |nil=>simp[AZ]
 |cons x l ih=>
  have h1:=ih λy hy=>h y (aG _ hy)
  have h2:=h x (aH ..);simp only[AZ,aZ,cC];omega
def C4: ∀t:G.T,(oM t).length<=cJ t:=by
 intro t;induction t using fW with
 |h k nm v l ih=>
  have h:=WG ih;simp only[oM,aM,cJ];split
  .omega
  .simp only[aX];omega
def aDs{B:Nat}{l:List G.T}(h: ∀x∈l,∀u∈oM x,cJ u<=B): ∀u∈AZ l,cJ u<=B:=by
 induction l with
 |nil=>intro u hu;simp[AZ]at hu
 |cons x l ih=>
  intro u hu;rw[AZ,List.mem_append]at hu;exact hu.elim (h x (aH ..) u) (ih (λy hy=>h y (aG _ hy)) u)
def Rj: ∀t:G.T,∀u∈oM t,cJ u<=cJ t:=by
 intro t;induction t using fW with
 |h k nm v l ih=>
  intro u hu;rw[oM,List.mem_cons]at hu;rcases hu with rfl|hu
  .exact aS _
  .by_cases h3:k=3
   .rw[bI h3]at hu;refine aDs (B:=cJ ⟨k,nm,v,l⟩) (λx hx u hu=>?_) u hu
    have h1:=ih x hx u hu;have h2:=pN (t:=⟨k,nm,v,l⟩) hx;omega
   .rw[bH h3]at hu;cases hu
def aDr{L n:Nat}{a:List G.T}(hb:a.length<1000000000): ∀(l:List G.T) (k m:Nat) (acc:List G.T),a.drop k=l->l.length<m->acc.length+cC l<6000000->
    (∀x∈l,bR L n 79 [yR 3 x]=some [yS 3 (oM x)])->
    FC (bR L n) L m (a.length:Int) a (k:Int) acc=some [yS 3 (acc++AZ l)]:=by
 intro l;induction l with
 |nil=>
  intro k m acc h1 h3 _ _;obtain⟨m,rfl⟩:=sK m 1 (by simp at h3;omega)
  have e1:=bW h1;have e3:decide ((k:Int)<(a.length:Int))=false:=by simp;omega
  rw[FC,aAD,e3,bL,AZ,bA];rfl
 |cons x l ih=>
  intro k m acc h1 h3 h4 hc;obtain⟨m,rfl⟩:=sK m 1 (by simp at h3;omega)
  obtain⟨a1,a2,a3⟩:=bX h1;simp only[cC]at h4;have hx:=C4 x;have e3:decide ((k:Int)<(a.length:Int))=true:=by simp;omega
  have hb2:Nat.ble ((acc.length+(oM x).length)*176) 1073741824=true:=qK (by omega)
  rw[FC,aAD,e3,bO,bP,a1,bZ,hc x (aH ..),pR];simp only[];rw[hb2,fS,cS (by omega),ih (k+1) m (acc++oM x) a3 (by simp at h3;omega) (by rw[aZ];omega) (λy hy=>hc y (aG _ hy)),AZ,aQ]
def aWT: ∀(t:G.T) (L n:Nat),cJ t<6000000->cJ t<=L->cJ t<=n->bR L n 79 [yR 3 t]=some [yS 3 (oM t)]:=by
 intro t;induction t using fW with
 |h k nm v l ih=>
  intro L n hw hL hn;have hlen:=dV l;have h0:=jS (t:=⟨k,nm,v,l⟩);have h0:cC l+4<=cJ ⟨k,nm,v,l⟩:=h0;obtain⟨n,rfl⟩:=sK n 1 (by omega)
  rw[c79,bPn,aKD,oM];by_cases h3:k=3
  .rw[show decide ((G.T.mk k nm v l).kind=3)=true from bF h3,bO,bI h3]
   exact aDr (a:=l) (by omega) l 0 L _ rfl (by omega) (by simp only[aM,aX];omega) λx hx=>ih x hx L n (by have:=dB hx;omega) (by have:=dB hx;omega) (by have:=dB hx;omega)
  .rw[show decide ((G.T.mk k nm v l).kind=3)=false from bG h3,bL,bH h3];rfl
noncomputable def eQ:List G.T->List G.T->List G.T
 |acc,[]=>acc
 |acc,x::l=>eQ (pI acc x) l
def Fp: ∀(a acc b:List G.T),eQ acc (a++b)=eQ (eQ acc a) b
 |[],acc,b=>rfl
 |x::a,acc,b=>by rw[aY,eQ,Fp a,eQ]
def sub'_eq{l:List G.T}(h: ∀x∈l,∀acc,sub acc x=eQ acc (oM x)): ∀acc,wF acc l=eQ acc (AZ l):=by
 induction l with
 |nil=>intro acc;rw[wF,AZ,eQ]
 |cons x l ih=>intro acc;rw[wF,AZ,Fp,h x (aH ..),ih λy hy=>h y (aG _ hy)]
def aWF: ∀(t:G.T) (acc:List G.T),sub acc t=eQ acc (oM t):=by
 intro t;induction t using fW with
 |h k nm v l ih=>
  intro acc;rw[sub,oM,eQ];by_cases h3:k=3
  .rw[bI h3,bI h3,sub'_eq ih]
  .rw[bH h3,bH h3];rfl
def sub'_all'(l:List G.T)(acc:List G.T):wF acc l=eQ acc (AZ l):=sub'_eq (λx _=>aWF x) acc
def aFw{x s:G.T}{out:List G.T}:x∈pI out s↔x∈out∨x=s:=by
 unfold pI;split
 .rename_i h;exact⟨.inl,λh'=>h'.elim id λe=>e▸h⟩
 .simp
def AM(P:G.T->Bool): ∀(l acc:List G.T),eQ (acc.filter P) (l.filter P)=(eQ acc l).filter P
 |[],acc=>rfl
 |x::l,acc=>by
  rw[eQ,<-AM P l];cases hp:P x with
  |true=>
   rw[List.filter_cons_of_pos hp,eQ];congr 1;unfold pI;by_cases h:x∈acc
   .rw[bI h,bI (List.mem_filter.2 ⟨h,hp⟩)]
   .rw[bH h,bH (λh'=>h (List.mem_filter.1 h').1),List.filter_append,List.filter_cons_of_pos hp,List.filter_nil]
  |false=>
   rw[List.filter_cons_of_neg (by simp[hp])]
   congr 1;unfold pI;by_cases h:x∈acc
   .rw[bI h]
   .rw[bH h,List.filter_append,List.filter_cons_of_neg (by simp[hp]),List.filter_nil,bA]
def BY: ∀(l acc:List G.T),∃r,eQ acc l=acc++r
 |[],acc=>⟨[],by rw[eQ,bA]⟩
 |x::l,acc=>by
  obtain⟨r,h⟩:=BY l (pI acc x);rw[eQ,h];unfold pI;split
  .exact⟨r,rfl⟩
  .exact⟨[x]++r,by rw[aQ]⟩
def yJ(P:G.T->Bool)(d:G.T): ∀(l A:List G.T),A.find? P=none->(eQ (d::A) l).tail.find? P=l.find? λu=>P u&& !decide (u=d)
 |[],A,h=>h
 |x::l,A,h=>by
  rw[eQ];by_cases hx:x∈d::A
  .rw[pI,bI hx,yJ P d l A h];symm;apply List.find?_cons_of_neg;rcases List.mem_cons.1 hx with rfl|hx
   .simp
   .have:=List.find?_eq_none.1 h x hx;simp[this]
  .rw[pI,bH hx,aY];have hd: ¬x=d:=λe=>hx (e▸aH ..)
   cases hp:P x with
   |true=>
    obtain⟨r,hr⟩:=BY l (d::(A++ [x]));have h2:(x::l).find? (λu=>P u&& !decide (u=d))=some x:=List.find?_cons_of_pos (by simp[hp,hd])
    rw[h2,hr,aY,List.tail_cons,List.find?_append,List.find?_append,h];simp[hp]
   |false=>
    rw[yJ P d l (A++ [x]) (by rw[List.find?_append,h];simp[hp]),List.find?_cons_of_neg (by simp[hp])]
end Go.TV
namespace Go.TV
open Go.AI Go.PI Go.Proofs
set_option maxRecDepth 20000
def XA:List G.I->G.Y->Option G.T
 |[],_=>none
 |a::l,v=>if a.var=v then some a.term else XA l v
def aM6:Option G.T->pX
 |some t=>[yR 3 t,yB true]
 |none=>[yR 3 eB,yB false]
def aFy{c:bT}{L:Nat}{v:G.Y}{a:List G.I}(hb:a.length<1000000000): ∀(l:List G.I) (k m:Nat),a.drop k=l->l.length<m->
    yM c L m (a.length:Int) a (k:Int) v eB=some (aM6 (XA l v)):=by
 intro l;induction l with
 |nil=>
  intro k m h1 h3;obtain⟨m,rfl⟩:=sK m 1 (by simp at h3;omega)
  have e1:=bW h1;have e3:decide ((k:Int)<(a.length:Int))=false:=by simp;omega
  rw[yM,MU,e3,bL];rfl
 |cons x l ih=>
  intro k m h1 h3;obtain⟨m,rfl⟩:=sK m 1 (by simp at h3;omega)
  obtain⟨a1,a2,a3⟩:=bX h1;have e3:decide ((k:Int)<(a.length:Int))=true:=by simp;omega
  rw[yM,MU,e3,bO,bP,a1,bZ,cS (by omega),XA]
  by_cases e:x.var=v
  .rw[bF e,bO,bI e];rfl
  .rw[bG e,bL,bH e,ih (k+1) m a3 (by simp at h3;omega)]
def a1g{a:List G.I}{v:G.Y}{L n:Nat}(hb:a.length<1000000000)(hL:a.length<L):bR L (n+1) 168 [yS 7 a,yR 1 v]=some (aM6 (XA a v)):=by
 rw[bOw];exact aFy hb a 0 L rfl hL
def aFz{c:bT}{L:Nat}{v:G.Y}{a:List G.I}(hb:a.length<1000000000): ∀(l:List G.I) (k m:Nat),a.drop k=l->l.length<m->
    yU c L m a (k:Int) v eB=some (aM6 (XA l v)):=by
 intro l;induction l with
 |nil=>
  intro k m h1 h3;obtain⟨m,rfl⟩:=sK m 1 (by simp at h3;omega)
  have e1:=bW h1;have e3:decide ((k:Int)<(a.length:Int))=false:=by simp;omega
  rw[yU,M6,e3,bL];rfl
 |cons x l ih=>
  intro k m h1 h3;obtain⟨m,rfl⟩:=sK m 1 (by simp at h3;omega)
  obtain⟨a1,a2,a3⟩:=bX h1;have e3:decide ((k:Int)<(a.length:Int))=true:=by simp;omega
  rw[yU,M6,e3,bO,bP,a1,bZ,bZ,cS (by omega),XA]
  by_cases e:x.var=v
  .rw[bF e,bO,bI e];rfl
  .rw[bG e,bL,bH e,ih (k+1) m a3 (by simp at h3;omega)]
def a1h{a:List G.I}{v:G.Y}{L n:Nat}(hb:a.length<1000000000)(hL:a.length<L):bR L (n+1) 127 [yS 7 a,yR 1 v]=some (aM6 (XA a v)):=by
 rw[bHf];exact aFz hb a 0 L rfl hL
mutual
noncomputable def NF:G.T->G.T->List G.I->Option (List G.I)
 |⟨k,nm,v,l⟩,b,s=>if k=1 then(match XA s nm with|some u=>if u=b then some s else none|none=>some (s++ [⟨nm,b⟩]))else if k=3 then(if b.kind=3/\nm=b.name/\l.length=b.args.length then aCS l b.args s else none)else if⟨k,nm,v,l⟩=b then some s else none
noncomputable def aCS:List G.T->List G.T->List G.I->Option (List G.I)
 |[],_,s=>some s
 |_::_,[],_=>none
 |x::l,y::r,s=>match NF x y s with|some s'=>aCS l r s'|none=>none
end
def aCt(B:Nat)(s:List G.I):Prop:= ∀x∈s,cJ x.term<=B
def R5{B:Nat}{v:G.Y}{u:G.T}: ∀{s:List G.I},aCt B s->XA s v=some u->cJ u<=B
 |a::l,h,e=>by
  rw[XA]at e;split at e
  .cases e;exact h a (aH ..)
  .exact R5 (λx hx=>h x (aG _ hx)) e
def a1d{B:Nat}{l:List G.T}(h: ∀x∈l,∀y s s',NF x y s=some s'->cJ y<=B->aCt B s->aCt B s'/\s'.length<=s.length+cJ x): ∀r s s',aCS l r s=some s'->(∀y∈r,cJ y<=B)->aCt B s->aCt B s'/\s'.length<=s.length+cC l:=by
 induction l with
 |nil=>intro r s s' e _ hs;rw[aCS]at e;cases e;exact⟨hs,by omega⟩
 |cons x l ih=>
  intro r s s' e hr hs;cases r with
  |nil=>rw[aCS]at e;cases e
  |cons y r=>
   rw[aCS]at e;cases e1:NF x y s with
   |none=>rw[e1]at e;cases e
   |some s1=>
    rw[e1]at e;obtain⟨g1,g2⟩:=h x (aH ..) y s s1 e1 (hr y (aH ..)) hs;obtain⟨g3,g4⟩:=ih (λz hz=>h z (aG _ hz)) r s1 s' e (λz hz=>hr z (aG _ hz)) g1
    exact⟨g3,by simp only[cC];omega⟩
def Ea{B:Nat}: ∀(x y:G.T) (s s':List G.I),NF x y s=some s'->cJ y<=B->aCt B s->aCt B s'/\s'.length<=s.length+cJ x:=by
 intro t;induction t using fW with
 |h k nm v l ih=>
  intro y s s' e hy hs;rw[NF]at e;split at e
  .split at e
   .split at e
    .cases e;exact⟨hs,by omega⟩
    .cases e
   .cases e;refine⟨λx hx=>?_,by simp only[aZ,aM,aX,cJ];omega⟩
    rcases List.mem_append.1 hx with hx|hx
    .exact hs x hx
    .rw[List.mem_singleton]at hx;subst hx;exact hy
  .split at e
   .split at e
    .obtain⟨g1,g2⟩:=a1d ih _ _ _ e (λz hz=>by have:=pN hz;omega) hs
     exact⟨g1,by simp only[cJ];omega⟩
    .cases e
   .split at e
    .cases e;exact⟨hs,by omega⟩
    .cases e
def MP(r:Rt)(o:Option (List G.I)):Prop:=match o with
 |some s=>r=some [yS 7 s,yB true]
 |none=> ∃s:List G.I,r=some [yS 7 s,yB false]
def kG{W:Type}{a:List G.I}{b:Bool}{K:List G.I×Bool×Unit->Option W}:wT (some [yS 7 a,yB b]) K=K (a,b,()):=rfl
def Kc{W:Type}{a:G.T}{b:Bool}{K:G.T×Bool×Unit->Option W}:fU (D:=U0.D) [.rc 3,.bool] (some [yR 3 a,yB b]) K=K (a,b,()):=rfl
def aG7{a:Nat}(h:a<5000000):Nat.ble ((a+1)*208) 1073741824=true:=by
 apply Nat.ble_eq_true_of_le;omega
def pH{r:Rt}{o:Option (List G.I)}(h:MP r o):(∃s,o=some s/\r=some [yS 7 s,yB true])∨(o=none/\∃s:List G.I,r=some [yS 7 s,yB false]):=by
 cases o with
 |none=>exact .inr ⟨rfl,h⟩
 |some s=>exact .inl ⟨s,rfl,h⟩
def aOy{L n B M:Nat}{a:List G.T}{b:G.T}(hb:a.length<1000000000): ∀(l r:List G.T) (k m:Nat) (s:List G.I),a.drop k=l->b.args.drop k=r->l.length=r.length->l.length<m->aCt B s->(∀y∈r,cJ y<=B)->s.length+cC l<M->
    (∀x∈l,∀y s,cJ y<=B->aCt B s->s.length+cJ x<M->MP (bR L n 142 [yR 3 x,yR 3 y,yS 7 s]) (NF x y s))->
    MP (yO (bR L n) L m (a.length:Int) a (k:Int) s b) (aCS l r s):=by
 intro l;induction l with
 |nil=>
  intro r k m s h1 _ _ h3 _ _ _ _;obtain⟨m,rfl⟩:=sK m 1 (by simp at h3;omega)
  have e1:=bW h1;have e3:decide ((k:Int)<(a.length:Int))=false:=by simp;omega
  rw[yO,MX,e3,bL,aCS];rfl
 |cons x l ih=>
  intro r k m s h1 h2 lr h3 hs hr h4 hc;cases r with
  |nil=>cases lr
  |cons y r=>
   obtain⟨m,rfl⟩:=sK m 1 (by simp at h3;omega)
   obtain⟨a1,a2,a3⟩:=bX h1;obtain⟨b1,b2,b3⟩:=bX h2;simp only[cC]at h4;have e3:decide ((k:Int)<(a.length:Int))=true:=by simp;omega
   have hy:=hr y (aH ..);have hx:=hc x (aH ..) y s hy hs (by omega)
   rw[yO,MX,e3,bO,bP,a1,bZ,bP,b1,bZ,cS (by omega),aCS]
   rcases pH hx with⟨s1,e1,e2⟩|⟨e1,s1,e2⟩
   .rw[e1,e2,kG];simp only[];rw[bO];obtain⟨g1,g2⟩:=Ea x y s s1 e1 hy hs;exact ih r (k+1) m s1 a3 b3 (by simpa using lr) (by simp at h3;omega) g1 (λz hz=>hr z (aG _ hz)) (by omega) (λz hz=>hc z (aG _ hz))
   .rw[e1,e2,kG];exact⟨_,rfl⟩
def a3H{a b:G.T}(h:a.kind≠b.kind):decide (a=b)=false:=bG λe=>h (by rw[e])
def bDY{B M:Nat}(hB:B<5000000)(hM:M<=5000000): ∀(t b:G.T) (s:List G.I) (L n:Nat),cJ t<=B->cJ b<=B->aCt B s->s.length+cJ t<M->M<=L->B<L->cJ t+B+2<=n->
    MP (bR L n 142 [yR 3 t,yR 3 b,yS 7 s]) (NF t b s):=by
 intro t;induction t using fW with
 |h k nm v l ih=>
  intro b s L n ht hb hs hl hL hBL hn;have h0:cC l+4<=cJ ⟨k,nm,v,l⟩:=jS (t:=⟨k,nm,v,l⟩);have hlen:=dV l;obtain⟨n,rfl⟩:=sK n 1 (by omega)
  have hq: ∀u:G.T,cJ u<=B->∀w:G.T,bR L n 74 [yR 3 u,yR 3 w]=some [yB (decide (u=w))]:=λu hu w=>MO u (by simp only[Q1];omega) w L n (by omega) (by omega)
  rw[bOK,a5d,VH,NF];by_cases h1:k=1
  .obtain⟨n,rfl⟩:=sK n 1 (by omega)
   rw[show decide ((G.T.mk k nm v l).kind=1)=true from bF h1,bO,bI h1,a1g (by omega) (by omega)]
   show MP (fU [.rc 3,.bool] (some (aM6 (XA s nm))) _) _;cases hk:XA s nm with
   |none=>
    rw[aM6,Kc];simp only[Bool.not_false];rw[bO];show MP (iQ (Nat.ble ((s.length+1)*208) 1073741824) _) _;rw[aG7 (by omega),fS];rfl
   |some u=>
    rw[aM6,Kc];simp only[bD];rw[bL,hq u (R5 hs hk) b,cH];by_cases e:u=b
    .rw[bI e,bF e];rfl
    .rw[bH e,bG e];exact⟨_,rfl⟩
  .rw[show decide ((G.T.mk k nm v l).kind=1)=false from bG h1,bL,bH h1]
   by_cases h3:k=3
   .rw[show decide ((G.T.mk k nm v l).kind=3)=true from bF h3,bD,bL,bI h3]
    simp only[MQ,MY,Vj,VG];by_cases g1:b.kind=3
    .rw[bF g1,bD,bL];by_cases g2:nm=b.name
     .rw[show decide ((G.T.mk k nm v l).name=b.name)=true from bF g2,bD,bL]
      by_cases g3:l.length=b.args.length
      .rw[show decide (((G.T.mk k nm v l).args.length:Int)=(b.args.length:Int))=true from bF (by show(l.length:Int)=_;omega),bD,bL,bI ⟨g1,g2,g3⟩]
       exact aOy (a:=l) (B:=B) (M:=M) (by omega) l b.args 0 L s rfl rfl g3 (by omega) hs (λy hy=>by have:=pN hy;omega) (by omega) λx hx y s' hy fm dm=>ih x hx y s' L n (by have:=dB hx;omega) hy fm dm hL hBL (by have:=dB hx;omega)
      .rw[show decide (((G.T.mk k nm v l).args.length:Int)=(b.args.length:Int))=false from bG (by show¬(l.length:Int)=_;omega),Bool.not_false,bO,bH (λh=>g3 h.2.2)]
       exact⟨_,rfl⟩
     .rw[show decide ((G.T.mk k nm v l).name=b.name)=false from bG g2,Bool.not_false,bO,bO,bH (λh=>g2 h.2.1)]
      exact⟨_,rfl⟩
    .rw[bG g1,Bool.not_false,bO,hq _ ht b,cH,a3H (by show¬k=b.kind;omega),bH (λh=>g1 h.1)]
     exact⟨_,rfl⟩
   .rw[show decide ((G.T.mk k nm v l).kind=3)=false from bG h3,Bool.not_false,bO,bH h3]
    simp only[MQ,MY];rw[bO,hq _ ht b,cH];by_cases e:G.T.mk k nm v l=b
    .rw[bI e,bF e];rfl
    .rw[bH e,bG e];exact⟨_,rfl⟩
def a3R{W:Type}{b:Bool}{A:Option W}(h:b=true):iQ b A=A:=by rw[h];rfl
def aOx{L n B M:Nat}{a b:List G.T}(hb:b.length<1000000000): ∀(l r:List G.T) (k m:Nat) (s:List G.I),a.drop k=l->b.drop k=r->l.length=r.length->l.length<m->aCt B s->(∀y∈r,cJ y<=B)->s.length+cC l<M->
    (∀x∈l,∀y s,cJ y<=B->aCt B s->s.length+cJ x<M->MP (bR L n 98 [yR 3 x,yR 3 y,yS 7 s]) (NF x y s))->
    MP (uU (bR L n) L m a b (k:Int) s) (aCS l r s):=by
 intro l;induction l with
 |nil=>
  intro r k m s h1 h2 lr h3 _ _ _ _;obtain⟨m,rfl⟩:=sK m 1 (by simp at h3;omega)
  cases r with
  |cons y r=>cases lr
  |nil=>
   have e1:=bW h2;have e3:decide ((k:Int)<(b.length:Int))=false:=by simp;omega
   rw[uU,M5,e3,bL,aCS];rfl
 |cons x l ih=>
  intro r k m s h1 h2 lr h3 hs hr h4 hc;cases r with
  |nil=>cases lr
  |cons y r=>
   obtain⟨m,rfl⟩:=sK m 1 (by simp at h3;omega)
   obtain⟨a1,a2,a3⟩:=bX h1;obtain⟨b1,b2,b3⟩:=bX h2;simp only[cC]at h4;have e3:decide ((k:Int)<(b.length:Int))=true:=by simp;omega
   have hy:=hr y (aH ..);have hx:=hc x (aH ..) y s hy hs (by omega)
   rw[uU,M5,e3,bO,bP,a1,bZ,bP,b1,bZ,cS (by omega),aCS]
   rcases pH hx with⟨s1,e1,e2⟩|⟨e1,s1,e2⟩
   .rw[e1,e2,kG];simp only[bD];rw[bL];obtain⟨g1,g2⟩:=Ea x y s s1 e1 hy hs;exact ih r (k+1) m s1 a3 b3 (by simpa using lr) (by simp at h3;omega) g1 (λz hz=>hr z (aG _ hz)) (by omega) (λz hz=>hc z (aG _ hz))
   .rw[e1,e2,kG];exact⟨_,rfl⟩
def bDX{B M:Nat}(hB:B<5000000)(hM:M<=5000000): ∀(t b:G.T) (s:List G.I) (L n:Nat),cJ t<=B->cJ b<=B->aCt B s->s.length+cJ t<M->M<=L->B<L->2*cJ t+B+2<=n->
    MP (bR L n 98 [yR 3 t,yR 3 b,yS 7 s]) (NF t b s):=by
 intro t;induction t using fW with
 |h k nm v l ih=>
  intro b s L n ht hb hs hl hL hBL hn;have h0:cC l+4<=cJ ⟨k,nm,v,l⟩:=jS (t:=⟨k,nm,v,l⟩);have hlen:=dV l;have h3':=aNu (t:=⟨k,nm,v,l⟩) (by omega)
  obtain⟨n,rfl⟩:=sK n 2 (by omega)
  have hq: ∀u:G.T,cJ u<=B->∀w:G.T,bR L (n+1) 40 [yR 3 u,yR 3 w]=some [yB (decide (u=w))]:=λu hu w=>zA u (by simp only[Q1];omega) w L (n+1) (by omega) (by omega)
  rw[bQj,bIR,aKs,NF];by_cases h1:k=1
  .rw[show decide ((G.T.mk k nm v l).kind=1)=true from bF h1,bO,bI h1,a1h (by omega) (by omega)]
   show MP (fU [.rc 3,.bool] (some (aM6 (XA s nm))) _) _;cases hk:XA s nm with
   |none=>
    rw[aM6,Kc];simp only[];rw[bL];simp only[ZI,aAr];rw[bL,bL,cS (by omega),a3R]
    .show MP (iQ (decide ((0:Int)=0)) (iQ (Nat.ble ((0+s.length)*208) 1073741824) (iQ (Nat.ble ((s.length+1)*208) 1073741824) _))) _;rw[aG7 (by omega),show Nat.ble ((0+s.length)*208) 1073741824=true from Nat.ble_eq_true_of_le (by omega),show decide ((0:Int)=0)=true from rfl,fS,fS,fS];rfl
    .simp only[aC,aD];omega
   |some u=>
    rw[aM6,Kc];simp only[];rw[bO,hq u (R5 hs hk) b,cH];simp only[ZI,aAr];by_cases e:u=b
    .rw[bI e,bF e];rfl
    .rw[bH e,bG e];exact⟨_,rfl⟩
  .rw[show decide ((G.T.mk k nm v l).kind=1)=false from bG h1,bL,bH h1]
   by_cases h3:k=3
   .rw[show decide ((G.T.mk k nm v l).kind=2)=false from bG (by show¬k=2;omega),bL,bI h3]
    simp only[aJt,aKr];by_cases g1:b.kind=3
    .rw[bF g1,bD,bL];by_cases g2:nm=b.name
     .rw[show decide (b.name=(G.T.mk k nm v l).name)=true from bF g2.symm,bD,bL,bHe,aQO,VL]
      by_cases g3:l.length=b.args.length
      .rw[show decide (((G.T.mk k nm v l).args.length:Int)=(b.args.length:Int))=true from bF (by show(l.length:Int)=_;omega),bD,bL,bI ⟨g1,g2,g3⟩]
       have h9:=aOx (a:=l) (b:=b.args) (L:=L) (n:=n) (B:=B) (M:=M) (by omega) l b.args 0 L s rfl rfl g3 (by omega) hs (λy hy=>by have:=pN hy;omega) (by omega) λx hx y s' hy fm dm=>ih x hx y s' L n (by have:=dB hx;omega) hy fm dm hL hBL (by have:=dB hx;omega)
       show MP (wT (uU (bR L n) L L l b.args ((0:Nat):Int) s) _) _;rcases pH h9 with⟨s1,e1,e2⟩|⟨e1,s1,e2⟩
       .rw[e1,e2,kG];rfl
       .rw[e1,e2,kG];exact⟨_,rfl⟩
      .rw[show decide (((G.T.mk k nm v l).args.length:Int)=(b.args.length:Int))=false from bG (by show¬(l.length:Int)=_;omega),Bool.not_false,bO,bH (λh=>g3 h.2.2),kG]
       exact⟨_,rfl⟩
     .rw[show decide (b.name=(G.T.mk k nm v l).name)=false from bG λe=>g2 e.symm,Bool.not_false,bO,bH (λh=>g2 h.2.1)]
      exact⟨_,rfl⟩
    .rw[bG g1,Bool.not_false,bO,bO,bH (λh=>g1 h.1)]
     exact⟨_,rfl⟩
   .have h2:k=2:=by
     rcases h3' with e|⟨e,_⟩|e
     .injection e with e;exact absurd e h1
     .injection e
     .injection e with e;exact absurd e h3
    rw[show decide ((G.T.mk k nm v l).kind=2)=true from bF h2,bO,bH h3,hq _ ht b,cH]
    by_cases e:G.T.mk k nm v l=b
    .rw[bI e,bF e];rfl
    .rw[bH e,bG e];exact⟨_,rfl⟩
def bH3{B:Nat}(hB:B<2000000)(t b:G.T)(L n:Nat)(ht:cJ t<=B)(hb:cJ b<=B)(hL:2*B+10<=L)(hn:2*B+8<=n):
    MP (bR L n 75 [yR 3 t,yR 3 b,yS 7 ([]:List G.I)]) (NF t b []):=by
 obtain⟨n,rfl⟩:=sK n 3 (by omega)
 obtain⟨L,rfl⟩:=sK L 2 (by omega)
 have h:=bDY (B:=B) (M:=B+1) (by omega) (by omega) t b [] (L+2) (n+1) ht hb (λx hx=>by cases hx) (by simp only[aX];omega) (by omega) (by omega) (by omega)
 have h1:MP (bR (L+2) (n+2) 117 [yS 3 ([t]:List G.T),yS 3 ([b]:List G.T),yS 7 ([]:List G.I)]) (NF t b []):=by
  rw[bOV,a5p,VT,show decide ((([t]:List G.T).length:Int)=(([b]:List G.T).length:Int))=true from bF rfl,bD,bL]
  show MP (fU [.sl (.rc 7)] (bR (L+2) (n+1) 141 [yS 7 ([]:List G.I)]) _) _;rw[bOL];show MP (uW (bR (L+2) (n+1)) (L+2) (L+1+1) (1:Int) [t] [b] 0 []) _;rw[uW,NA];show MP (wT (bR (L+2) (n+1) 142 [yR 3 t,yR 3 b,yS 7 ([]:List G.I)]) _) _;rcases pH h with⟨s1,e1,e2⟩|⟨e1,s1,e2⟩
  .rw[e1,e2,kG];simp only[];rw[bO];show uW (bR (L+2) (n+1)) (L+2) (L+1) (1:Int) [t] [b] 1 s1=_;rw[uW,NA];rfl
  .rw[e1,e2,kG];exact⟨_,rfl⟩
 rw[c75,bPq,aUs];rcases pH h1 with⟨s1,e1,e2⟩|⟨e1,s1,e2⟩
 .rw[e1,e2,kG];rfl
 .rw[e1,e2,kG];exact⟨_,rfl⟩
end Go.TV
namespace Go.TV
open Go.AI Go.PI Go.Proofs
set_option maxRecDepth 20000
def eH:G.Y:=⟨[],[]⟩
def kX:G.U:=⟨eH,0,[],eH,eB,eB,[],0,[],0,eH⟩
def a03:G.O:=⟨2,[],[],⟨fD,[116]⟩,[],[]⟩
def bPV:G.T:=⟨2,eH,a03,[]⟩
def aCe:List UInt8:=[101,113,117,97,108]
def aB8:List UInt8:=[105,102,102]
def XX:List UInt8:=[105,102]
structure vB(c:bT)(M:Nat):Prop where
 vP: ∀l:List G.T,cC l<=M->c 72 [yS 3 l]=some [yS 1 (cL [] l)]
 vR: ∀l:List G.T,cC l<=M->c 28 [yS 3 l]=some [yS 1 (cL [] l)]
 ct: ∀(a:List G.Y) (s:G.Y),a.length<=M->c 76 [yS 1 a,yR 1 s]=some [yB (decide (s∈a))]
 wP: ∀a b:List G.Y,a.length<=M->b.length<=M->c 73 [yS 1 a,yS 1 b]=some [yB (Do a b)]
 wR: ∀a b:List G.Y,a.length<=M->b.length<=M->c 37 [yS 1 a,yS 1 b]=some [yB (Do a b)]
 icP: ∀(t:G.T) (s:List UInt8) (k:Int),c 65 [yR 3 t,yT s,yI k]=some [yB (Gf t s k)]
 icR: ∀(t:G.T) (s:List UInt8) (k:Int),c 30 [yR 3 t,yT s,yI k]=some [yB (Gf t s k)]
 lP: ∀s:List UInt8,c 68 [yT s]=some [yR 1 (⟨fD,s⟩:G.Y)]
 lR: ∀s:List UInt8,c 33 [yT s]=some [yR 1 (⟨fD,s⟩:G.Y)]
 nP:c 69 []=some [yR 2 aOv]
 tP:c 71 []=some [yR 2 a03]
 cP: ∀o:G.O,c 70 [yR 2 o]=some [yR 3 (⟨2,eH,o,[]⟩:G.T)]
 nR:c 34 []=some [yR 3 G3]
 tR:c 35 []=some [yR 2 a03]
 cR: ∀o:G.O,c 36 [yR 2 o]=some [yR 3 (⟨2,eH,o,[]⟩:G.T)]
 eP: ∀t u:G.T,cJ t<=M->c 74 [yR 3 t,yR 3 u]=some [yB (decide (t=u))]
 eR: ∀t u:G.T,cJ t<=M->c 40 [yR 3 t,yR 3 u]=some [yB (decide (t=u))]
 mP: ∀t u:G.T,cJ t<=M->cJ u<=M->MP (c 75 [yR 3 t,yR 3 u,yS 7 ([]:List G.I)]) (NF t u [])
 mR: ∀t u:G.T,cJ t<=M->cJ u<=M->MP (c 98 [yR 3 t,yR 3 u,yS 7 ([]:List G.I)]) (NF t u [])
inductive Oc where
 |ok (r:G.U)
 |er (e:Int)
def a6k(x:Rt):Oc->Prop
 | .ok r=>x=some [yI (0:Int),yR 5 r]
 | .er e=>e≠0/\∃r:G.U,x=some [yI e,yR 5 r]
def a6j(x:Rt):Oc->Prop
 | .ok r=>x=some [yR 5 r,yI (0:Int)]
 | .er e=>x=some [yR 5 kX,yI e]
def Dd{x y:Rt}{e:Int}{r:G.U}(he:e≠0)(h1:x=some [yI e,yR 5 r])(h2:y=some [yR 5 kX,yI e]){Q:G.U->Prop}: ∃o,a6k x o/\a6j y o/\∀r,o= .ok r->Q r:=
 ⟨.er e,⟨he,r,h1⟩,h2,λr h=>by cases h⟩
def aQs{out:List G.Y}{s:G.Y}(h:out.Nodup):(oE out s).Nodup:=by
 unfold oE;split
 .exact h
 .rename_i hs;rw[List.nodup_append];exact⟨h,by simp,λa ha b hb e=>hs (by rw[List.mem_singleton]at hb;subst hb;subst e;exact ha)⟩
def Qv: ∀{r out:List G.Y},out.Nodup->(gX out r).Nodup
 |[],out,h=>h
 |s::r,out,h=>Qv (r:=r) (aQs h)
def CZ: ∀{l:List G.T} {out:List G.Y},out.Nodup->(cL out l).Nodup
 |[],out,h=>by rw[cL];exact h
 |x::l,out,h=>by rw[cL];exact CZ (Qv h)
def dst:List G.Y->List G.I->Bool
 |_,[]=>true
 |seen,a::l=>decide (a.term.kind=1)&&(!decide (a.term.name∈seen)&&dst (seen++ [a.term.name]) l)
def Gl(x:G.Y):List G.I->List G.Q
 |[]=>[]
 |a::l=>if a.var=x/\a.term.name≠x then⟨x,a.term.name⟩::Gl x l else Gl x l
def Gk:List G.Y->List G.I->List G.Q
 |[],_=>[]
 |x::vs,s=>Gl x s++Gk vs s
def WB(x:G.Y): ∀s:List G.I,(Gl x s).length<=(s.filter λa=>decide (a.var=x)).length
 |[]=>aS _
 |a::l=>by
  have:=WB x l;rw[Gl];by_cases h:a.var=x
  .rw[List.filter_cons_of_pos (by simp[h])]
   split
   .simp only[aM];omega
   .simp only[aM];omega
  .rw[bH λq=>h q.1,List.filter_cons_of_neg (by simp[h])];exact this
def Ri{x y:G.Y}(h:x≠y): ∀s:List G.I,Gl y (s.filter λa=> !decide (a.var=x))=Gl y s
 |[]=>rfl
 |a::l=>by
  by_cases e:a.var=x
  .rw[List.filter_cons_of_neg (by simp[e]),Ri h l,Gl,bH λq=>h (e.symm.trans q.1)]
  .rw[List.filter_cons_of_pos (by simp[e]),Gl,Gl,Ri h l]
def aDj{x:G.Y}: ∀{vs:List G.Y} {s:List G.I},x∉vs->Gk vs (s.filter λa=> !decide (a.var=x))=Gk vs s
 |[],s,_=>rfl
 |y::vs,s,h=>by
  rw[List.mem_cons,not_or]at h;rw[Gk,Gk,Ri h.1,aDj h.2]
def P1(P:G.I->Bool): ∀s:List G.I,(s.filter P).length+(s.filter λa=> !P a).length=s.length
 |[]=>rfl
 |a::l=>by
  have:=P1 P l;cases h:P a with
  |true=>rw[List.filter_cons_of_pos h,List.filter_cons_of_neg (by simp[h])];simp only[aM];omega
  |false=>rw[List.filter_cons_of_neg (by simp[h]),List.filter_cons_of_pos (by simp[h])];simp only[aM];omega
def C3: ∀{vs:List G.Y} {s:List G.I},vs.Nodup->(Gk vs s).length<=s.length
 |[],s,_=>Nat.zero_le _
 |x::vs,s,h=>by
  rw[List.nodup_cons]at h;have h1:=C3 (vs:=vs) (s:=s.filter λa=> !decide (a.var=x)) h.2
  rw[aDj h.1]at h1;have h2:=WB x s;have h3:=P1 (λa=>decide (a.var=x)) s
  rw[Gk,aZ];omega
noncomputable def NE(l r:G.T):List G.Q:=match NF l r []with
 |none=>[]
 |some s=>if l=r then []else if dst [] s=true then Gk (cL [] [l]) s else []
def aNA(l r:G.T)(hr:cJ r<=cJ r):(NE l r).length<=cJ l:=by
 unfold NE;cases h:NF l r []with
 |none=>exact Nat.zero_le _
 |some s=>
  have h1:=(Ea (B:=cJ r) l r [] s h (aS _) (λx hx=>by cases hx)).2
  have h2:=C3 (vs:=cL [] [l]) (s:=s) (CZ List.nodup_nil);simp only[];simp only[aX]at h1;split
  .exact Nat.zero_le _
  .split
   .omega
   .exact Nat.zero_le _
def aSz{a:Nat}(h:a<16000000):Nat.ble ((a+1)*64) 1073741824=true:=by
 apply Nat.ble_eq_true_of_le;omega
def nD(R:G.U)(st:List G.Q):G.U:=⟨R.name,R.cls,R.hyps,R.equiv,R.left,R.right,R.terms,R.tset,st,R.arg,R.inner⟩
def aQ4{c:bT}{L:Nat}{n2:Int->List G.I->G.T->Rt}{s:List G.I}{lt:G.T}{i:Nat}{a:G.I}(ha:s[i]?=some a)(hi:i<1000000000): ∀(q j m:Nat),j+q=i->q<m->
    FJ c L n2 m (j:Int) (i:Int) s lt=bif decide (a.term.name∈((s.take i).drop j).map λz=>z.term.name)then some [yS 4 ([]:List G.Q)]else n2 ((i+1:Nat):Int) s lt
 |0,j,m,h,hm=>by
  obtain⟨m,rfl⟩:=sK m 1 (by omega)
  obtain rfl:j=i:=by omega
  have e0:(s.take j).drop j=[]:=by rw[List.drop_eq_nil_iff,List.length_take];omega
  rw[FJ,aAY,dF (by omega: ¬j<j),bL,e0,cS (by omega)]
  rfl
 |q+1,j,m,h,hm=>by
  obtain⟨m,rfl⟩:=sK m 1 (by omega)
  have hil:i<s.length:=(List.getElem?_eq_some_iff.1 ha).1;have hj:s[j]?=some s[j]:=aV (by omega)
  have e0:(s.take i).drop j=s[j]::(s.take i).drop (j+1):=by
   rw[List.drop_eq_getElem_cons (by rw[List.length_take];omega),List.getElem_take]
  rw[FJ,aAY,dT (by omega:j<i),bO,bP,hj,bZ,bP,ha,bZ,e0,aO,cS (by omega)]
  by_cases e:s[j].term.name=a.term.name
  .rw[bF e,bO,bF (by rw[e];exact aH ..)];rfl
  .rw[bG e,bL,aQ4 ha hi q (j+1) m (by omega) (by omega)]
   congr 1;exact decide_eq_decide.2 ⟨λh=>aG _ h,λh=>(List.mem_cons.1 h).resolve_left λq=>e q.symm⟩
def a8t{c:bT}{L:Nat}{n4:List G.Y->List G.I->Int->List G.Q->Rt}{vs:List G.Y}{s:List G.I}{i:Nat}{x:G.Y}(hx:vs[i]?=some x)(hi:i<1000000000)(hs:s.length<1000000): ∀(l:List G.I) (k m:Nat) (acc:List G.Q),s.drop k=l->l.length<m->acc.length+(Gl x l).length<16000000->
    AP c L n4 m (k:Int) (i:Int) vs s acc=n4 vs s ((i+1:Nat):Int) (acc++Gl x l):=by
 intro l;induction l with
 |nil=>
  intro k m acc h1 h3 _;obtain⟨m,rfl⟩:=sK m 1 (by simp at h3;omega)
  have e1:=bW h1;have e3:decide ((k:Int)<(s.length:Int))=false:=by simp;omega
  rw[AP,aAW,e3,bL,cS (by omega),Gl,bA]
 |cons a l ih=>
  intro k m acc h1 h3 h4;obtain⟨m,rfl⟩:=sK m 1 (by simp at h3;omega)
  obtain⟨a1,a2,a3⟩:=bX h1;have e3:decide ((k:Int)<(s.length:Int))=true:=by simp;omega
  have g1:cI s (k:Int)=some a:=(bP s k).trans a1;have g2:cI vs (i:Int)=some x:=(bP vs i).trans hx;have hj: ∀tj,QO c L (AP c L n4 m) n4 false (k:Int) (i:Int) vs s tj=AP c L n4 m ((k+1:Nat):Int) (i:Int) vs s tj:=λtj=>by
   simp only[QO,aAV,ZR,aAU];rw[bL,cS (by omega)]
  rw[AP,aAW,e3,bO,g1,bZ,g2,bZ];rw[Gl]at h4⊢;by_cases e:a.var=x
  .rw[bF e,bO,bZ,bZ];by_cases e2:a.term.name=x
   .rw[bF e2,bD,hj,bH λq=>q.2 e2]
    rw[bH λq=>q.2 e2]at h4
    exact ih (k+1) m acc a3 (by simp at h3;omega) h4
   .rw[bI ⟨e,e2⟩]at h4⊢;simp only[aM]at h4;rw[bG e2,Bool.not_false];simp only[QO,aAV,ZR,aAU];rw[bO,g2,bZ,g1,bZ];show iQ (Nat.ble ((acc.length+1)*64) 1073741824) _=_;rw[aSz (by omega),fS,cS (by omega),ih (k+1) m _ a3 (by simp at h3;omega) (by rw[aZ];simp only[aM,aX];omega),aQ]
    rfl
  .rw[bG e,bL,hj,bH λq=>e q.1]
   rw[bH λq=>e q.1]at h4
   exact ih (k+1) m acc a3 (by simp at h3;omega) h4
def a8s{c:bT}{L:Nat}{vs:List G.Y}{s:List G.I}(hv:vs.length<1000000)(hs:s.length<1000000)(hL:s.length<L): ∀(l:List G.Y) (k m:Nat) (acc:List G.Q),vs.drop k=l->l.length<m->acc.length+(Gk l s).length<16000000->
    Co c L m vs s (k:Int) acc=some [yS 4 (acc++Gk l s)]:=by
 intro l;induction l with
 |nil=>
  intro k m acc h1 h3 _;obtain⟨m,rfl⟩:=sK m 1 (by simp at h3;omega)
  have e1:=bW h1;have e3:decide ((k:Int)<(vs.length:Int))=false:=by simp;omega
  rw[Co,aAX,e3,bL,Gk,bA]
 |cons x l ih=>
  intro k m acc h1 h3 h4;obtain⟨m,rfl⟩:=sK m 1 (by simp at h3;omega)
  obtain⟨a1,a2,a3⟩:=bX h1;have e3:decide ((k:Int)<(vs.length:Int))=true:=by simp;omega
  rw[Gk,aZ]at h4;rw[Co,aAX,e3,bO,Gk];have h5:=a8t (c:=c) (L:=L) (n4:=Co c L m) a1 (by omega) hs s 0 L acc rfl hL (by omega)
  refine h5.trans ?_;rw[ih (k+1) m _ a3 (by simp at h3;omega) (by rw[aZ];omega),aQ]
def a8u{c:bT}{L:Nat}{s:List G.I}{lt:G.T}(hs:s.length<1000000)(hL:s.length<L)(hv:c 28 [yS 3 ([lt]:List G.T)]=some [yS 1 (cL [] [lt])])(hl:(cL [] [lt]).length<1000000)(dm:(cL [] [lt]).length<L): ∀(l:List G.I) (k m:Nat),s.drop k=l->l.length<m->
    Cq c L m (k:Int) s lt=some [yS 4 (if dst ((s.take k).map λz=>z.term.name) l=true then Gk (cL [] [lt]) s else [])]:=by
 intro l;induction l with
 |nil=>
  intro k m h1 h3;obtain⟨m,rfl⟩:=sK m 1 (by simp at h3;omega)
  have e1:=bW h1;have e3:decide ((k:Int)<(s.length:Int))=false:=by simp;omega
  have h8:=C3 (vs:=cL [] [lt]) (s:=s) (CZ List.nodup_nil);rw[Cq,aAZ,e3,bL,hv,gC,dst];exact a8s hl hs hL (cL [] [lt]) 0 L [] rfl dm (by simp only[aX];omega)
 |cons a l ih=>
  intro k m h1 h3;obtain⟨m,rfl⟩:=sK m 1 (by simp at h3;omega)
  obtain⟨a1,a2,a3⟩:=bX h1;have e3:decide ((k:Int)<(s.length:Int))=true:=by simp;omega
  rw[Cq,aAZ,e3,bO,bP,a1,bZ,dst];by_cases hk:a.term.kind=1
  .rw[bF hk,bD,bL,Bool.true_and];have h5:=aQ4 (c:=c) (L:=L) (n2:=Cq c L m) (lt:=lt) a1 (by omega) k 0 L (by omega) (by omega)
   refine h5.trans ?_;rw[List.drop_zero];have e6:(s.take (k+1)).map (λz=>z.term.name)=(s.take k).map (λz=>z.term.name)++ [a.term.name]:=by
    rw[List.take_add_one,a1];simp
   by_cases hm:a.term.name∈(s.take k).map λz=>z.term.name
   .rw[bF hm];rfl
   .rw[bG hm,aJ,ih (k+1) m a3 (by simp at h3;omega),e6];rfl
  .rw[bG hk];rfl
def aWJ{c:bT}{L M:Nat}(E:vB c M)(hM:M<200000)(hL:M<L){l r:G.T}(hl:cJ l+1<=M)(hr:cJ r<=M):bId c L l r=some [yS 4 (NE l r)]:=by
 rw[bId,aKV];have hv:=Dt (l:=[l]) (λx _=>zF x) []
 simp only[cC,aX]at hv;unfold NE;rcases pH (E.mR l r (by omega) hr)with⟨s,e1,e2⟩|⟨e1,s,e2⟩
 .have h1:=(Ea (B:=cJ r) l r [] s e1 (aS _) (λx hx=>by cases hx)).2
  simp only[aX]at h1;rw[e1,e2,kG];simp only[bD];rw[bL,E.eR l r (by omega),cH]
  simp only[aJD,aKU];by_cases e:l=r
  .rw[bF e,bO,bI e]
  .rw[bG e,bL,bH e];exact a8u (by omega) (by omega) (E.vR [l] (by simp only[cC];omega)) (by omega) (by omega) s 0 L rfl (by omega)
 .rw[e1,e2,kG];rfl
end Go.TV
namespace Go.TV
open Go.AI Go.PI Go.Proofs
set_option maxRecDepth 20000
def vC{R:G.U}(h:R.stops=[]):nD R []=R:=by cases R;cases h;rfl
def bBj{c:bT}{L:Nat}{n6:Int->List G.Y->List G.I->Int->G.U->Rt}{vs:List G.Y}{s:List G.I}{i:Nat}{x:G.Y}(hi:i<1000000000)(hs:s.length<1000000): ∀(l:List G.I) (k m:Nat) (R:G.U),s.drop k=l->l.length<m->R.stops.length+(Gl x l).length<16000000->
    AU c L n6 m (s.length:Int) s (k:Int) (i:Int) (vs.length:Int) vs s R x=n6 (vs.length:Int) vs s ((i+1:Nat):Int) (nD R (R.stops++Gl x l)):=by
 intro l;induction l with
 |nil=>
  intro k m R h1 h3 _;obtain⟨m,rfl⟩:=sK m 1 (by simp at h3;omega)
  have e1:=bW h1;have e3:decide ((k:Int)<(s.length:Int))=false:=by simp;omega
  rw[AU,aBf,e3,bL,cS (by omega),Gl,bA];rfl
 |cons a l ih=>
  intro k m R h1 h3 h4;obtain⟨m,rfl⟩:=sK m 1 (by simp at h3;omega)
  obtain⟨a1,a2,a3⟩:=bX h1;have e3:decide ((k:Int)<(s.length:Int))=true:=by simp;omega
  have hj:QS c L (AU c L n6 m) n6 false (k:Int) (s.length:Int) s (i:Int) (vs.length:Int) vs s R a x=AU c L n6 m (s.length:Int) s ((k+1:Nat):Int) (i:Int) (vs.length:Int) vs s R x:=by
   simp only[QS,aBe,aAm,aBd];rw[bL,cS (by omega)]
  rw[AU,aBf,e3,bO,bP,a1,bZ];rw[Gl]at h4⊢;by_cases e:a.var=x
  .rw[bF e,bO];by_cases e2:a.term.name=x
   .rw[bF e2,bD,hj,bH λq=>q.2 e2]
    rw[bH λq=>q.2 e2]at h4
    exact ih (k+1) m R a3 (by simp at h3;omega) h4
   .rw[bI ⟨e,e2⟩]at h4⊢;simp only[aM]at h4;rw[bG e2,Bool.not_false];simp only[QS,aBe,aAm,aBd];rw[bO];show iQ (Nat.ble ((R.stops.length+1)*64) 1073741824) _=_;rw[aSz (by omega),fS,cS (by omega)]
    refine(ih (k+1) m (nD R (R.stops++ [⟨x,a.term.name⟩])) a3 (by simp at h3;omega) (by show(R.stops++ [_]).length+_<_;rw[aZ];simp only[aM,aX];omega)).trans ?_
    show n6 _ _ _ _ (nD R ((R.stops++ [_])++Gl x l))=_;rw[aQ];rfl
  .rw[bG e,bL,hj,bH λq=>e q.1]
   rw[bH λq=>e q.1]at h4
   exact ih (k+1) m R a3 (by simp at h3;omega) h4
def bBi{c:bT}{L:Nat}{vs:List G.Y}{s:List G.I}(hv:vs.length<1000000)(hs:s.length<1000000)(hL:s.length<L): ∀(l:List G.Y) (k m:Nat) (R:G.U),vs.drop k=l->l.length<m->R.stops.length+(Gk l s).length<16000000->
    Cz c L m (vs.length:Int) vs s (k:Int) R=some [yI (0:Int),yR 5 (nD R (R.stops++Gk l s))]:=by
 intro l;induction l with
 |nil=>
  intro k m R h1 h3 _;obtain⟨m,rfl⟩:=sK m 1 (by simp at h3;omega)
  have e1:=bW h1;have e3:decide ((k:Int)<(vs.length:Int))=false:=by simp;omega
  rw[Cz,aBg,e3,bL,Gk,bA];rfl
 |cons x l ih=>
  intro k m R h1 h3 h4;obtain⟨m,rfl⟩:=sK m 1 (by simp at h3;omega)
  obtain⟨a1,a2,a3⟩:=bX h1;have e3:decide ((k:Int)<(vs.length:Int))=true:=by simp;omega
  rw[Gk,aZ]at h4;rw[Cz,aBg,e3,bO,bP,a1,bZ,Gk];have h5:=bBj (c:=c) (L:=L) (n6:=Cz c L m) (vs:=vs) (i:=k) (x:=x) (by omega) hs s 0 L R rfl hL (by omega)
  refine h5.trans ?_;refine(ih (k+1) m (nD R (R.stops++Gl x s)) a3 (by simp at h3;omega) (by show(R.stops++_).length+_<_;rw[aZ];omega)).trans ?_
  show some [_,(yR 5 (nD R ((R.stops++Gl x s)++Gk l s)):TV U0.D)]=_;rw[aQ]
def bBk{c:bT}{L M:Nat}(E:vB c M){s:List G.I}{R:G.U}(hR:R.stops=[])(hs:s.length<1000000)(hL:s.length<L)(hsM:s.length<=M)(hv:cC [R.left]<=M)(hl:(cL [] [R.left]).length<1000000)(dm:(cL [] [R.left]).length<L): ∀(l:List G.I) (k m:Nat) (seen:List G.Y),s.drop k=l->l.length<m->seen.length=k->
    FO c L m (s.length:Int) s seen (k:Int) s R=some [yI (0:Int),yR 5 (nD R (if dst seen l=true then Gk (cL [] [R.left]) s else []))]:=by
 intro l;induction l with
 |nil=>
  intro k m seen h1 h3 _;obtain⟨m,rfl⟩:=sK m 1 (by simp at h3;omega)
  have e1:=bW h1;have e3:decide ((k:Int)<(s.length:Int))=false:=by simp;omega
  have h8:=C3 (vs:=cL [] [R.left]) (s:=s) (CZ List.nodup_nil);rw[FO,aBi,e3,bL,E.vP [R.left] hv,gC,dst];have h9:=bBi (c:=c) (L:=L) hl hs hL (cL [] [R.left]) 0 L R rfl dm (by rw[hR];simp only[aX];omega)
  rw[hR]at h9;exact h9
 |cons a l ih=>
  intro k m seen h1 h3 gf;obtain⟨m,rfl⟩:=sK m 1 (by simp at h3;omega)
  obtain⟨a1,a2,a3⟩:=bX h1;have e3:decide ((k:Int)<(s.length:Int))=true:=by simp;omega
  rw[FO,aBi,e3,bO,bP,a1,bZ,dst];by_cases hk:a.term.kind=1
  .rw[bF hk,bD,bL,Bool.true_and,E.ct seen _ (by omega),cH]
   simp only[aAn,aBh];by_cases hm:a.term.name∈seen
   .rw[bF hm,bO];show some [_,(yR 5 R:TV U0.D)]=some [_,(yR 5 (nD R []):TV U0.D)];rw[vC hR]
   .rw[bG hm,bL];show iQ (Nat.ble ((seen.length+1)*32) 1073741824) _=_;rw[aG6 (by omega),fS,cS (by omega)]
    exact ih (k+1) m (seen++ [a.term.name]) a3 (by simp at h3;omega) (by rw[aZ,gf];rfl)
  .rw[bG hk,Bool.not_false,bO];simp only[aAn,aBh];show some [_,(yR 5 R:TV U0.D)]=some [_,(yR 5 (nD R []):TV U0.D)];rw[vC hR]
def BS{a b:Nat}(h:a+b<30000000):Nat.ble ((a+b)*32) 1073741824=true:=by
 apply Nat.ble_eq_true_of_le;omega
def eW(l:List G.T):(cL [] l).length<=cC l:=by
 have:=Dt (l:=l) (λx _=>zF x) []
 simp only[aX,Nat.zero_add]at this;exact this
def bKv{c1 c2:bT}{L M:Nat}(E1:vB c1 M)(E2:vB c2 M)(hM:M<200000)(hL:M<L){R:G.U}(hR:R.stops=[])(hl:cJ R.left+cC R.hyps+1<=M)(hr:cJ R.right+1<=M)
    (bw: ∀l r:G.T,cJ l+1<=M->cJ r<=M->c2 44 [yR 3 l,yR 3 r]=some [yS 4 (NE l r)]):
    ∃o,a6k (QT c1 L R) o/\a6j (aJz c2 L (cL [] R.hyps) R kX) o/\∀Q,o= .ok Q->Q=nD R (NE R.left R.right):=by
 simp only[QT,aLO,aJz,a5A];by_cases hk:R.left.kind=3
 .rw[bF hk,bD,bL,bL,E1.lP,kQ,E2.lR,kQ];simp only[];by_cases hn:R.left.name=⟨fD,[105,102]⟩
  .rw[bF hn];exact Dd (r:=R) (e:=40) (by decide) rfl rfl
  .rw[bG hn];simp only[aJR,aLN,aJA,aKK];have v1:=eW [R.right];have v2:=eW ([R.left]++R.hyps);have v3:=eW R.hyps;have v4:=eW [R.left];have t1:cC [R.right]=cJ R.right+1:=by simp[cC]
   have t2:cC ([R.left]++R.hyps)=cJ R.left+cC R.hyps+1:=by simp only[aY,aW,cC]
   have t4:cC [R.left]=cJ R.left+1:=by simp[cC]
   have l1:=dV R.hyps;rw[bL,bL,E1.vP [R.right] (by omega),gC,E2.vR [R.right] (by omega),gC]
   have b1:Nat.ble ((([R.left]:List G.T).length+R.hyps.length)*176) 1073741824=true:=qK (by simp only[aM,aX];omega)
   have b2:Nat.ble ((([]:List G.Y).length+(cL [] R.hyps).length)*32) 1073741824=true:=BS (by simp only[aX];omega)
   have b3:Nat.ble (((([]:List G.Y)++cL [] R.hyps).length+(cL [] [R.left]).length)*32) 1073741824=true:=BS (by simp only[aW];omega)
   rw[b1,fS,b2,fS,E1.vP _ (by omega),gC,E2.vR [R.left] (by omega),gC]
   simp only[];rw[b3,fS,E1.wP _ _ (by omega) (by omega),cH,E2.wR _ _ (by omega) (by simp only[aW,aZ];omega),cH]
   have hw:Do (cL [] [R.right]) ((([]:List G.Y)++cL [] R.hyps)++cL [] [R.left])=Do (cL [] [R.right]) (cL [] ([R.left]++R.hyps)):=aBp λs=>by
    rw[aW,List.mem_append,oP,oP,oP];simp[or_comm]
   rw[hw];simp only[];cases Do (cL [] [R.right]) (cL [] ([R.left]++R.hyps))with
   |false=>exact Dd (r:=R) (e:=41) (by decide) rfl rfl
   |true=>
    rw[bD,bL,bL,E1.eP _ _ (by omega),cH]
    refine⟨.ok (nD R (NE R.left R.right)),?_,?_,λQ h=>by cases h;rfl⟩
    .show bN (decide (R.left=R.right)) _ _=_;by_cases e:R.left=R.right
     .have h5:NE R.left R.right=[]:=by
       unfold NE;cases NF R.left R.right []with
       |none=>rfl
       |some s=>simp only[];rw[bI e]
      rw[bF e,bO,h5,vC hR]
     .unfold NE;rw[bG e,bL];rcases pH (E1.mP R.left R.right (by omega) (by omega))with⟨s,e1,e2⟩|⟨e1,s,e2⟩
      .have h1:=(Ea (B:=cJ R.right) R.left R.right [] s e1 (aS _) (λx hx=>by cases hx)).2
       simp only[aX]at h1;rw[e1,e2,kG];simp only[];rw[bO,bH e];exact bBk E1 hR (by omega) (by omega) (by omega) (by omega) (by omega) (by omega) s 0 L [] rfl (by omega) rfl
      .rw[e1,e2,kG];simp only[];rw[bL,vC hR]
    .have h6:c2 44 [yR 3 R.left,yR 3 R.right]=some [yS 4 (NE R.left R.right)]:=bw _ _ (by omega) (by omega)
     show fU [.sl (.rc 4)] (c2 44 [yR 3 R.left,yR 3 R.right]) _=_;rw[h6];rfl
 .rw[bG hk,Bool.not_false,bO,bO];exact Dd (r:=R) (e:=40) (by decide) rfl rfl
def aYW{c1 c2:bT}{L M:Nat}(E1:vB c1 M)(E2:vB c2 M)(hM:M<200000)(hL:M<L){R:G.U}{d:G.T}(hR:R.stops=[])(hl:cJ d+cC R.hyps+40<=M)
    (bw: ∀l r:G.T,cJ l+1<=M->cJ r<=M->c2 44 [yR 3 l,yR 3 r]=some [yS 4 (NE l r)]) (b:Bool) (hb:b=true->d.args.length=2):
    ∃o,a6k (aAo c1 L b R d) o/\a6j (U8 c2 L b (cL [] R.hyps) d R kX) o/\∀Q,o= .ok Q->∃(e:G.Y) (l r:G.T),Q=⟨R.name,R.cls,R.hyps,e,l,r,R.terms,R.tset,NE l r,R.arg,R.inner⟩/\cJ l<=cJ d/\cJ r<=cJ d+20:=by
 have key: ∀(e:G.Y) (l r:G.T),cJ l<=cJ d->cJ r<=cJ d+20->∃o,a6k (QT c1 L ⟨R.name,R.cls,R.hyps,e,l,r,R.terms,R.tset,R.stops,R.arg,R.inner⟩) o/\a6j (aJz c2 L (cL [] R.hyps) ⟨R.name,R.cls,R.hyps,e,l,r,R.terms,R.tset,R.stops,R.arg,R.inner⟩ kX) o/\
      ∀Q,o= .ok Q->∃(e:G.Y) (l r:G.T),Q=⟨R.name,R.cls,R.hyps,e,l,r,R.terms,R.tset,NE l r,R.arg,R.inner⟩/\cJ l<=cJ d/\cJ r<=cJ d+20:=λe l r h1 h2=>by
  obtain⟨o,g1,g2,g3⟩:=bKv E1 E2 hM hL (R:=⟨R.name,R.cls,R.hyps,e,l,r,R.terms,R.tset,R.stops,R.arg,R.inner⟩) hR (by show cJ l+cC R.hyps+1<=M;omega) (by show cJ r+1<=M;omega) bw
  exact⟨o,g1,g2,λQ hQ=>⟨e,l,r,g3 Q hQ,h1,h2⟩⟩
 have z1:cJ G3<=20:=by decide
 have z2:cJ bPV<=20:=by decide
 simp only[aAo,aLP,U8,a5G];cases b with
 |true=>
  have h2:=hb rfl;obtain⟨x,ex,sx⟩:=gJ (t:=d) (k:=0) (by omega)
  obtain⟨y,ey,sy⟩:=gJ (t:=d) (k:=1) (by omega)
  have ix:cI d.args (0:Int)=some x:=(bP d.args 0).trans ex;have iy:cI d.args (1:Int)=some y:=(bP d.args 1).trans ey;rw[bO,bO,ix,bZ,bZ,iy,bZ,bZ];exact key d.name x y (by omega) (by omega)
 |false=>
  rw[bL,bL,E1.icP,cH,E2.icR,cH];simp only[];cases hi:Gf d [110,111,116] 1 with
  |true=>
   obtain⟨_,_,h3⟩:=qG (k:=1) hi;obtain⟨x,ex,sx⟩:=gJ (t:=d) (k:=0) (by omega)
   have ix:cI d.args (0:Int)=some x:=(bP d.args 0).trans ex;rw[bO,bO,ix,bZ,bZ,E1.lP,kQ,E1.nP,Kg,E1.cP,sV,E2.lR,kQ,E2.nR,sV];exact key ⟨fD,aCe⟩ x G3 (by omega) (by omega)
  |false=>
   rw[bL,bL,E1.lP,kQ,E1.tP,Kg,E1.cP,sV,E2.lR,kQ,E2.tR,Kg,E2.cR,sV];exact key ⟨fD,aB8⟩ d bPV (by omega) (by omega)
def aNM{c1 c2:bT}{L M:Nat}(E1:vB c1 M)(E2:vB c2 M)(hM:M<200000)(hL:M<L){R:G.U}{d:G.T}{w:List G.E}{rel:G.Y->Bool}(hR:R.stops=[])(hl:cJ d+cC R.hyps+40<=M)
    (bw: ∀l r:G.T,cJ l+1<=M->cJ r<=M->c2 44 [yR 3 l,yR 3 r]=some [yS 4 (NE l r)])
    (h1: ∀s:G.Y,c1 67 [yS 16 w,yR 1 s]=some [yB (rel s)]) (h2: ∀s:G.Y,c2 29 [yS 16 w,yR 1 s]=some [yB (rel s)]):
    ∃o,a6k (bJj c1 L w d R) o/\a6j (bN (decide (d.kind=(3:Int))) (bN (decide ((List.length d.args:Int)=(2:Int))) (cO (c2 29 [yS 16 w,yR 1 d.name]) λ(r3:Bool×Unit)=>
      U8 c2 L r3.1 (cL [] R.hyps) d R kX) (U8 c2 L false (cL [] R.hyps) d R kX)) (U8 c2 L false (cL [] R.hyps) d R kX)) o/\
      ∀Q,o= .ok Q->∃(e:G.Y) (l r:G.T),Q=⟨R.name,R.cls,R.hyps,e,l,r,R.terms,R.tset,NE l r,R.arg,R.inner⟩/\cJ l<=cJ d/\cJ r<=cJ d+20:=by
 rw[bJj,aLQ];by_cases hk:d.kind=3
 .rw[bF hk,bO,bO];by_cases hn:d.args.length=2
  .rw[show decide ((d.args.length:Int)=2)=true from bF (by omega),bO,bO,h1,cH,h2,cH]
   exact aYW E1 E2 hM hL hR hl bw (rel d.name) λ_=>hn
  .rw[show decide ((d.args.length:Int)=2)=false from bG (by omega),bL,bL]
   exact aYW E1 E2 hM hL hR hl bw false λh=>by cases h
 .rw[bG hk,bL,bL];exact aYW E1 E2 hM hL hR hl bw false λh=>by cases h
end Go.TV
namespace Go.TV
open Go.AI Go.PI Go.Proofs
set_option maxRecDepth 20000
def aFl{W:Type}{i:Int}{b:Bool}{K:Int×Bool×Unit->Option W}:uD (some [yI i,yB b]) K=K (i,b,()):=rfl
structure RuB(B:Nat)(Q:G.U):Prop where
 hy: ∀t∈Q.hyps,cJ t<=B
 hl:Q.hyps.length<=B
 tm: ∀t∈Q.terms,cJ t<=B
 tl:Q.terms.length<=B
 lf:Q.left=eB∨cJ Q.left<=B
 rt:Q.right=eB∨cJ Q.right<=B
 st:Q.stops.length<=B
def RuB.le{B B':Nat}{Q:G.U}(h:RuB B Q)(hb:B<=B'):RuB B' Q:=
 ⟨λt ht=>Nat.le_trans (h.hy t ht) hb,Nat.le_trans h.hl hb,λt ht=>Nat.le_trans (h.tm t ht) hb,Nat.le_trans h.tl hb,h.lf.imp id λx=>Nat.le_trans x hb,h.rt.imp id λx=>Nat.le_trans x hb,Nat.le_trans h.st hb⟩
def Bo(B:Nat)(x y:Rt):Prop:= ∃o,a6k x o/\a6j y o/\∀Q,o= .ok Q->RuB B Q
def Bo.er{B:Nat}{x y:Rt}{e:Int}{r:G.U}(he:e≠0)(h1:x=some [yI e,yR 5 r])(h2:y=some [yR 5 kX,yI e]):Bo B x y:=Dd he h1 h2
def Bo.ok{B:Nat}{x y:Rt}{Q:G.U}(h1:x=some [yI (0:Int),yR 5 Q])(h2:y=some [yR 5 Q,yI (0:Int)])(h:RuB B Q):Bo B x y:=⟨.ok Q,h1,h2,λQ' e=>by cases e;exact h⟩
def Bo.cn{B:Nat}{x y x' y':Rt}(b:Bool)(h1:b=true->Bo B x y)(h2:b=false->Bo B x' y'):Bo B (bN b x x') (bN b y y'):=by
 cases b
 .exact h2 rfl
 .exact h1 rfl
structure MkX(c:bT)(M:Nat):Prop where
 rg: ∀f:G.Y,c 77 [yR 1 f]=aQL c 0 f
 rr: ∀f:G.Y,c 42 [yR 1 f]=aQL c 0 f
 df: ∀f:G.Y,c 78 [yR 1 f]=some [yB (!aM5 f)]
 pl: ∀f:G.Y,c 41 [yR 1 f]=some [yB (aM5 f)]
 pp: ∀f:G.Y,c 80 [yR 1 f]=some [yB (aM4 f)]
 pr: ∀f:G.Y,c 43 [yR 1 f]=some [yB (aM4 f)]
 sp: ∀t:G.T,cJ t<=M->c 79 [yR 3 t]=some [yS 3 (oM t)]
 sr: ∀l:List G.T,cC l<=M->c 32 [yS 3 l]=some [yS 3 (wF [] l)]
 hs: ∀(l:List G.T) (t:G.T),(∀x∈l,cJ x<=M)->l.length<=M->c 81 [yS 3 l,yR 3 t]=some [yB (decide (t∈l))]
def Pib(x:Rt):Prop:= ∃(i:Int) (b:Bool),x=some [yI i,yB b]
def Pib.cn{b:Bool}{x y:Rt}(h1:Pib x)(h2:Pib y):Pib (bN b x y):=by cases b;exact h2;exact h1
def Pib.m(i:Int)(b:Bool):Pib (some [yI i,yB b]):=⟨i,b,rfl⟩
def aY2(c:bT)(f:G.Y):Pib (aQL c 0 f):= .cn (.m _ _) (.cn (.m _ _) (.cn (.m _ _) (.cn (.m _ _) (.cn (.m _ _) (.cn (.m _ _) (.cn (.m _ _) (.m _ _)))))))
def MkX.both{c1 c2:bT}{M:Nat}(X1:MkX c1 M)(X2:MkX c2 M)(f:G.Y): ∃(i:Int) (b:Bool),c1 77 [yR 1 f]=some [yI i,yB b]/\c2 42 [yR 1 f]=some [yI i,yB b]:=by
 obtain⟨i,b,h⟩:=aY2 c1 f;exact⟨i,b,(X1.rg f).trans h,(X2.rr f).trans h⟩
def nX(t:G.T):cC [t]=cJ t+1:=by simp[cC]
def Eu{l:List G.T}{M:Nat}(h:cC l<=M): ∀t∈l,cJ t<=M:=λt ht=>by have:=dB ht;omega
def aNs{c1 c2:bT}{L M:Nat}(E1:vB c1 M)(E2:vB c2 M)(X1:MkX c1 M)(X2:MkX c2 M)(hM:M<200000){nm:G.Y}{k:Int}{hy:List G.T}{d:G.T}(hl:cJ d+cC hy+40<=M):
    Bo M (bJi c1 L d ⟨nm,k,hy,eH,eB,eB,[],0,[],0,eH⟩) (cO (c2 30 [yR 3 d,yT ([110,111,116]:List UInt8),yI (1:Int)]) λ(r4:Bool×Unit)=>
      bN r4.1 (ob (cI d.args (0:Int)) λv5=>aCI c2 L false (cL [] hy) v5 d ⟨nm,k,hy,eH,eB,eB,[],0,[],0,eH⟩ kX) (aCI c2 L true (cL [] hy) d d ⟨nm,k,hy,eH,eB,eB,[],0,[],0,eH⟩ kX)):=by
 have hh:=dV hy;have v0:=eW hy;have fin: ∀(set:Int) (u:G.T),cJ u<=cJ d->Bo M (aAi c1 L set ⟨nm,k,hy,eH,eB,d,[],0,[],0,eH⟩ u) (ZL c2 L (cL [] hy) set d u ⟨nm,k,hy,eH,eB,eB,[],0,[],0,eH⟩ kX):=λset u hu=>by
  have v1:=eW [u];rw[nX]at v1;simp only[aAi,aLy,ZL,aKH];rw[E1.vP hy (by omega),gC,E1.vP [u] (by rw[nX];omega),gC,E2.vR [u] (by rw[nX];omega),gC]
  simp only[];rw[E1.wP _ _ (by omega) (by omega),cH,E2.wR _ _ (by omega) (by omega),cH]
  simp only[];refine .cn _ (λ_=> .er (e:=41) (by decide) rfl rfl) λ_=> .ok rfl rfl ⟨Eu (by show cC hy<=M;omega),by show hy.length<=M;omega,?_,by show 1<=M;omega,Or.inr (by show cJ u<=M;omega),Or.inr (by show cJ d<=M;omega),Nat.zero_le _⟩
  intro t ht;rw[List.mem_singleton]at ht;subst ht;omega
 have mid: ∀(neg:Bool) (a:G.T),cJ a<=cJ d->Bo M (aAl c1 L neg ⟨nm,k,hy,eH,eB,d,[],0,[],0,eH⟩ a) (aCI c2 L (!neg) (cL [] hy) a d ⟨nm,k,hy,eH,eB,eB,[],0,[],0,eH⟩ kX):=λneg a ha=>by
  have er:Bo M (aAk c1 L true neg ⟨nm,k,hy,eH,eB,d,[],0,[],0,eH⟩ a) (aQF c2 L true (!neg) (cL [] hy) a d ⟨nm,k,hy,eH,eB,eB,[],0,[],0,eH⟩ kX):= .er (e:=40) (by decide) rfl rfl
  simp only[aAl,aLB,aCI,a5F];refine .cn _ (λ_=>er) λ_=> .cn _ (λ_=>er) λhn=>?_
  have hn:(a.args.length:Int)=1:=by simpa using hn
  rw[E1.lP,kQ,E2.lR,kQ];simp only[];cases decide (a.name=⟨fD,[110,111,116]⟩)with
  |true=>exact er
  |false=>
   obtain⟨u,eu,su⟩:=gJ (t:=a) (k:=0) (by omega)
   have iu:cI a.args (0:Int)=some u:=(bP a.args 0).trans eu;obtain⟨i,b,r1,r2⟩:=X1.both X2 a.name;have er2: ∀s,Bo M (aAj c1 L true neg s ⟨nm,k,hy,eH,eB,d,[],0,[],0,eH⟩ u) (ZN c2 L true (!neg) (cL [] hy) s d u ⟨nm,k,hy,eH,eB,eB,[],0,[],0,eH⟩ kX):=λs=> .er (e:=40) (by decide) rfl rfl
   simp only[aAk,aLA,aQF,a5z];rw[bL,bL,r1,aFl,iu,bZ,r2,aFl,bZ];simp only[];refine .cn _ (λ_=>er2 i) λ_=> .cn _ (λ_=>er2 i) λ_=>?_
   rw[X1.df,cH,X2.pl,cH];simp only[Bool.not_not];cases aM5 u.name with
   |true=>exact er2 i
   |false=>
    simp only[aAj,aLz,ZN,aKJ];rw[bL,bL,Bool.not_not];exact .cn _ (λ_=>fin _ u (by omega)) λ_=>fin _ u (by omega)
 rw[bJi,aLC,E1.icP,cH,E2.icR,cH];simp only[];refine .cn _ (λhi=>?_) λhi=>?_
 .obtain⟨_,_,h3⟩:=qG (k:=1) hi;obtain⟨u,eu,su⟩:=gJ (t:=d) (k:=0) (by omega)
  have iu:cI d.args (0:Int)=some u:=(bP d.args 0).trans eu;rw[iu,bZ,bZ,hi];exact mid true u (by omega)
 .rw[hi];exact mid false d (aS _)
def aOV{c1 c2:bT}{L M:Nat}(E1:vB c1 M)(E2:vB c2 M)(hM:M<200000){nm:G.Y}{k:Int}{hy:List G.T}{d:G.T}(hl:cJ d+cC hy+40<=M):
    Bo M (bJh c1 L d ⟨nm,k,hy,eH,eB,eB,[],0,[],0,eH⟩) (bN (decide ((hy.length:Int)=(0:Int))) (some [yR 5 kX,yI (40:Int)]) (ob (cI hy (0:Int)) λv6=>
      cO (c2 30 [yR 3 v6,yT ([110,111,116]:List UInt8),yI (1:Int)]) λ(r7:Bool×Unit)=>
      bN r7.1 (ob (cI v6.args (0:Int)) λv8=>aCH c2 L (cL [] [d]) (cL [] hy) d v8 ⟨nm,k,hy,eH,eB,eB,[],0,[],0,eH⟩ kX) (aCH c2 L (cL [] [d]) (cL [] hy) d v6 ⟨nm,k,hy,eH,eB,eB,[],0,[],0,eH⟩ kX))):=by
 have hh:=dV hy;have v0:=eW hy;have v1:=eW [d];rw[nX]at v1;have fin: ∀u:G.T,cJ u<=M->Bo M (aAh c1 L ⟨nm,k,hy,eH,eB,eB,[],0,[],0,eH⟩ u d) (aCH c2 L (cL [] [d]) (cL [] hy) d u ⟨nm,k,hy,eH,eB,eB,[],0,[],0,eH⟩ kX):=λu hu=>by
  simp only[aAh,aLw,aCH,a5E];refine .cn _ (λ_=> .er (e:=40) (by decide) rfl rfl) λ_=>?_
  rw[E1.vP [d] (by rw[nX];omega),gC,E1.vP hy (by omega),gC]
  simp only[];rw[E1.wP _ _ (by omega) (by omega),cH,E2.wR _ _ (by omega) (by omega),cH]
  simp only[];refine .cn _ (λ_=> .er (e:=41) (by decide) rfl rfl) λ_=> .ok rfl rfl ⟨Eu (by show cC hy<=M;omega),by show hy.length<=M;omega,?_,by show 1<=M;omega,Or.inl rfl,Or.inr (by show cJ d<=M;omega),Nat.zero_le _⟩
  intro t ht;rw[List.mem_singleton]at ht;subst ht;omega
 rw[bJh,aLx];refine .cn _ (λ_=> .er (e:=40) (by decide) rfl rfl) λhn=>?_
 have hn: ¬(hy.length:Int)=0:=by simpa using hn
 have h0:hy[0]?=some hy[0]:=aV (by omega)
 have i0:cI hy (0:Int)=some hy[0]:=(bP hy 0).trans h0;have s0:=dB (List.getElem_mem (l:=hy) (n:=0) (by omega))
 rw[show(G.U.mk nm k hy eH eB eB [] 0 [] 0 eH).hyps=hy from rfl,i0,bZ,bZ,E1.icP,cH,E2.icR,cH]
 simp only[];refine .cn _ (λhi=>?_) λhi=>fin _ (by omega)
 obtain⟨_,_,h3⟩:=qG (k:=1) hi;obtain⟨u,eu,su⟩:=gJ (t:=hy[0]) (k:=0) (by omega)
 have iu:cI hy[0].args (0:Int)=some u:=(bP hy[0].args 0).trans eu;rw[iu,bZ,bZ];exact fin u (by omega)
end Go.TV
namespace Go.TV
open Go.AI Go.PI Go.Proofs
set_option maxRecDepth 20000
def xO(R:G.U)(ts:List G.T):G.U:=⟨R.name,R.cls,R.hyps,R.equiv,R.left,R.right,ts,R.tset,R.stops,R.arg,R.inner⟩
def PL(all:List G.Y)(u:G.T):Bool:=decide (u.kind=3)&&(!aM4 u.name&&Do all (cL [] [u]))
def aQf{a:Nat}(h:a<5000000):(Nat.ble ((a+1)*176) 1073741824&&decide True)=true:=by
 rw[bF trivial,bE];exact qK (by omega)
def bD0{c:bT}{L M:Nat}(E:vB c M)(X:MkX c M)(hM:M<200000){n2:Int->List G.T->List G.Y->Int->G.U->Rt}{all:List G.Y}(ch:all.length<=M){a:List G.T}{i2 l2:Int}{ar:List G.T}(ha:a.length<1000000):
    ∀(l:List G.T) (k m:Nat) (R:G.U),a.drop k=l->l.length<m->(∀u∈l,cJ u+1<=M)->(∀t∈R.terms,cJ t<=M)->R.terms.length+l.length<=M->
    Cw c L n2 m (a.length:Int) a (k:Int) i2 l2 ar all R=n2 l2 ar all (IntKind.i64.wrap (i2+(1:Int))) (xO R (eQ R.terms (l.filter (PL all)))):=by
 intro l;induction l with
 |nil=>
  intro k m R h1 h3 _ _ _;obtain⟨m,rfl⟩:=sK m 1 (by simp at h3;omega)
  have e1:=bW h1;rw[Cw,aBb,dF (by omega: ¬k<a.length),bL];rfl
 |cons x l ih=>
  intro k m R h1 h3 h4 h5 h6;obtain⟨m,rfl⟩:=sK m 1 (by simp at h3;omega)
  obtain⟨a1,a2,a3⟩:=bX h1;simp only[aM]at h3 h6;have hx:=h4 x (aH ..);have h4': ∀u∈l,cJ u+1<=M:=λu hu=>h4 u (aG _ hu)
  have v1:=eW [x];rw[nX]at v1;have no:PL all x=false->II c L (Cw c L n2 m) n2 false (k:Int) (a.length:Int) a i2 l2 ar all R x=n2 l2 ar all (IntKind.i64.wrap (i2+(1:Int))) (xO R (eQ R.terms ((x::l).filter (PL all)))):=λhp=>by
   simp only[II,Q0,QR,QZ];rw[bL,cS (by omega),List.filter_cons_of_neg (by simp[hp])]
   exact ih (k+1) m R a3 (by omega) h4' h5 (by omega)
  rw[Cw,aBb,dT (by omega:k<a.length),bO,bP,a1,bZ]
  cases hk:decide (x.kind=3)with
  |false=>rw[bL];exact no (by unfold PL;rw[hk];rfl)
  |true=>
   rw[bO,X.pp,cH];simp only[];cases hp:aM4 x.name with
   |true=>rw[bD,bL];exact no (by unfold PL;rw[hk,hp];rfl)
   |false=>
    rw[Bool.not_false,bO,E.vP [x] (by rw[nX];omega),gC]
    simp only[];rw[E.wP _ _ ch (by omega),cH]
    simp only[];cases hw:Do all (cL [] [x])with
    |false=>rw[bL];exact no (by unfold PL;rw[hk,hp,hw];rfl)
    |true=>
     have hP:PL all x=true:=by unfold PL;rw[hk,hp,hw];rfl
     rw[bO,X.hs _ _ h5 (by omega),cH]
     simp only[];rw[List.filter_cons_of_pos hP,eQ];by_cases hm:x∈R.terms
     .rw[bF hm,bD,pI,bI hm];simp only[II,Q0,QR,QZ];rw[bL,cS (by omega)]
      exact ih (k+1) m R a3 (by omega) h4' h5 (by omega)
     .rw[bG hm,Bool.not_false,pI,bH hm];simp only[II,Q0,QR,QZ];rw[bO,aQf (by omega),fS,cS (by omega)]
      refine(ih (k+1) m (xO R (R.terms++ [x])) a3 (by omega) h4' (λt ht=>?_) (by show(R.terms++ [x]).length+_<=_;rw[aZ];simp only[aM,aX];omega)).trans rfl
      rcases List.mem_append.1 ht with ht|ht
      .exact h5 t ht
      .rw[List.mem_singleton]at ht;subst ht;omega
def aDt(x:G.T)(l:List G.T):AZ (x::l)=oM x++AZ l:=rfl
def aWU(l:List G.T):(AZ l).length<=cC l:=WG λx _=>C4 x
def wC: ∀(l acc:List G.T),(eQ acc l).length<=acc.length+l.length
 |[],acc=>by rw[eQ];simp
 |x::l,acc=>by have:=wC l (pI acc x);have:=Fq acc x;rw[eQ,aM];omega
def vG{t:G.T}: ∀{l acc:List G.T},t∈eQ acc l->t∈acc∨t∈l
 |[],acc,h=> .inl h
 |x::l,acc,h=>by
  rcases vG (l:=l) h with h|h
  .rcases aFw.1 h with h|rfl
   .exact .inl h
   .exact .inr (aH ..)
  .exact .inr (aG _ h)
def bP9(R:G.U):Rt:=bN (decide ((R.terms.length:Int)=(0:Int))) (some [yI (40:Int),yR 5 R]) (some [yI (0:Int),yR 5 R])
def a1j{c:bT}{L M:Nat}(E:vB c M)(X:MkX c M)(hM:M<200000)(hL:M<L){all:List G.Y}(ch:all.length<=M){a:List G.T}(ha:a.length<1000000):
    ∀(l:List G.T) (k m:Nat) (R:G.U),a.drop k=l->l.length<m->(∀u∈l,cJ u+1<=M)->(∀t∈R.terms,cJ t<=M)->R.terms.length+cC l<=M->
    Cy c L m (a.length:Int) a all (k:Int) R=bP9 (xO R (eQ R.terms ((AZ l).filter (PL all)))):=by
 intro l;induction l with
 |nil=>
  intro k m R h1 h3 _ _ _;obtain⟨m,rfl⟩:=sK m 1 (by simp at h3;omega)
  have e1:=bW h1;rw[Cy,aBc,dF (by omega: ¬k<a.length),bL];rfl
 |cons x l ih=>
  intro k m R h1 h3 h4 h5 h6;obtain⟨m,rfl⟩:=sK m 1 (by simp at h3;omega)
  obtain⟨a1,a2,a3⟩:=bX h1;simp only[aM]at h3;simp only[cC]at h6;have hx:=h4 x (aH ..);have s1:=C4 x;have s2: ∀u∈oM x,cJ u+1<=M:=λu hu=>by have:=Rj x u hu;omega
  have s3:=List.length_filter_le (PL all) (oM x);have s4:=wC ((oM x).filter (PL all)) R.terms;rw[Cy,aBc,dT (by omega:k<a.length),bO,bP,a1,bZ,X.sp x (by omega),pR]
  simp only[];refine(bD0 E X hM (n2:=Cy c L m) ch (a:=oM x) (by omega) (oM x) 0 L R rfl (by omega) s2 h5 (by omega)).trans ?_
  rw[cS (by omega),aDt,List.filter_append,Fp]
  refine(ih (k+1) m (xO R (eQ R.terms ((oM x).filter (PL all)))) a3 (by omega) (λu hu=>h4 u (aG _ hu)) (λt ht=>?_) (by show(eQ _ _).length+_<=_;omega)).trans rfl
  rcases vG ht with ht|ht
  .exact h5 t ht
  .have:=s2 t ((List.mem_filter.1 ht).1);omega
def aOA{c:bT}{L M:Nat}(E:vB c M)(X:MkX c M)(hM:M<200000){all:List G.Y}(ch:all.length<=M){a:List G.T}{d:G.T}(ha:a.length<1000000):
    ∀(l:List G.T) (k m:Nat) (R:G.U),a.drop k=l->l.length<m->(∀u∈l,cJ u+1<=M)->R.terms.length+l.length<=M->
    Cn c L m all a (k:Int) d R kX=bN (decide (((R.terms++l.filter (PL all)).length:Int)=(0:Int))) (some [yR 5 kX,yI (40:Int)]) (some [yR 5 (⟨R.name,R.cls,R.hyps,R.equiv,R.left,d,R.terms++l.filter (PL all),R.tset,R.stops,R.arg,R.inner⟩:G.U),yI (0:Int)]):=by
 intro l;induction l with
 |nil=>
  intro k m R h1 h3 _ _;obtain⟨m,rfl⟩:=sK m 1 (by simp at h3;omega)
  have e1:=bW h1;rw[Cn,aAL,dF (by omega: ¬k<a.length),bL,List.filter_nil,bA];rfl
 |cons x l ih=>
  intro k m R h1 h3 h4 h6;obtain⟨m,rfl⟩:=sK m 1 (by simp at h3;omega)
  obtain⟨a1,a2,a3⟩:=bX h1;simp only[aM]at h3 h6;have hx:=h4 x (aH ..);have h4': ∀u∈l,cJ u+1<=M:=λu hu=>h4 u (aG _ hu)
  have v1:=eW [x];rw[nX]at v1;have i1:cI a (k:Int)=some x:=(bP a k).trans a1;have no:PL all x=false->QL c L (Cn c L m) false (k:Int) all a d R kX=bN (decide (((R.terms++(x::l).filter (PL all)).length:Int)=(0:Int))) (some [yR 5 kX,yI (40:Int)]) (some [yR 5 (⟨R.name,R.cls,R.hyps,R.equiv,R.left,d,R.terms++(x::l).filter (PL all),R.tset,R.stops,R.arg,R.inner⟩:G.U),yI (0:Int)]):=λhp=>by
   simp only[QL,aAI,ZK,aAH];rw[bL,cS (by omega),List.filter_cons_of_neg (by simp[hp])]
   exact ih (k+1) m R a3 (by omega) h4' (by omega)
  rw[Cn,aAL,dT (by omega:k<a.length),bO,i1,bZ]
  cases hk:decide (x.kind=3)with
  |false=>rw[bL];exact no (by unfold PL;rw[hk];rfl)
  |true=>
   rw[bO,bZ,X.pr,cH];simp only[];cases hp:aM4 x.name with
   |true=>rw[bD,bL];exact no (by unfold PL;rw[hk,hp];rfl)
   |false=>
    rw[Bool.not_false,bO,bZ,E.vR [x] (by rw[nX];omega),gC]
    simp only[];rw[E.wR _ _ ch (by omega),cH]
    simp only[];cases hw:Do all (cL [] [x])with
    |false=>exact no (by unfold PL;rw[hk,hp,hw];rfl)
    |true=>
     have hP:PL all x=true:=by unfold PL;rw[hk,hp,hw];rfl
     simp only[QL,aAI,ZK,aAH];rw[bO,i1,bZ,List.filter_cons_of_pos hP,show Nat.ble ((R.terms.length+([x]:List G.T).length)*176) 1073741824=true from qK (by simp only[aM,aX];omega),fS,cS (by omega)]
     refine(ih (k+1) m (xO R (R.terms++ [x])) a3 (by omega) h4' (by show(R.terms++ [x]).length+_<=_;rw[aZ];simp only[aM,aX];omega)).trans ?_
     show bN (decide ((((R.terms++ [x])++l.filter (PL all)).length:Int)=0)) _ (some [(yR 5 (⟨R.name,R.cls,R.hyps,R.equiv,R.left,d,(R.terms++ [x])++l.filter (PL all),R.tset,R.stops,R.arg,R.inner⟩:G.U):TV U0.D),_])=_;rw[aQ];rfl
def aJo{a b:List G.Y}(h: ∀s,s∈a↔s∈b):PL a=PL b:=by
 funext u;unfold PL;rw[Dn h]
def X9(d:G.T)(hy:List G.T)(s:G.Y):s∈cL [] ([d]++hy)↔s∈(([]:List G.Y)++cL [] hy)++cL [] [d]:=by
 rw[aW,List.mem_append,oP,oP,oP];simp[or_comm]
def aOC{c1 c2:bT}{L M:Nat}(E1:vB c1 M)(E2:vB c2 M)(X1:MkX c1 M)(X2:MkX c2 M)(hM:M<200000)(hL:M<L){nm:G.Y}{k:Int}{hy:List G.T}{d:G.T}(hl:cJ d+cC hy+40<=M):
    Bo M (bJg c1 L d ⟨nm,k,hy,eH,eB,eB,[],0,[],0,eH⟩) (cO (c2 30 [yR 3 d,yT ([110,111,116]:List UInt8),yI (1:Int)]) λ(r9:Bool×Unit)=>
      bN r9.1 (ob (cI d.args (0:Int)) λv10=>aCG c2 L (cL [] hy) (cL [] [d]) v10 d ⟨nm,k,hy,eH,eB,eB,[],0,[],0,eH⟩ kX) (aCG c2 L (cL [] hy) (cL [] [d]) d d ⟨nm,k,hy,eH,eB,eB,[],0,[],0,eH⟩ kX)):=by
 have hh:=dV hy;have v0:=eW hy;have v1:=eW [d];rw[nX]at v1;have v2:=eW ([d]++hy);rw[tsz'_ap,nX]at v2;have fin: ∀a:G.T,cJ a<=cJ d->Bo M (aAg c1 L ⟨nm,k,hy,eH,eB,eB,[],0,[],0,eH⟩ d a) (aCG c2 L (cL [] hy) (cL [] [d]) a d ⟨nm,k,hy,eH,eB,eB,[],0,[],0,eH⟩ kX):=λa ha=>by
  have m1:=jS (t:=a);have m2:=dV a.args;have m3:=aWU a.args;have m4:=wC (AZ a.args) [];simp only[aX,Nat.zero_add]at m4;simp only[aAg,aLu,aCG,a5D];rw[E1.icP,cH,E2.icR,cH];simp only[];refine .cn _ (λ_=> .er (e:=40) (by decide) rfl rfl) λ_=>?_
  have b0:Nat.ble ((([d]:List G.T).length+hy.length)*176) 1073741824=true:=qK (by simp only[aM,aX];omega)
  have b2:Nat.ble ((([]:List G.Y).length+(cL [] hy).length)*32) 1073741824=true:=BS (by simp only[aX];omega)
  have b3:Nat.ble (((([]:List G.Y)++cL [] hy).length+(cL [] [d]).length)*32) 1073741824=true:=BS (by simp only[aW];omega)
  rw[b0,fS,b2,fS,b3,fS,E1.vP _ (by rw[tsz'_ap,nX];omega),gC,X2.sr _ (by omega),pR]
  simp only[];have q1:=a1j E1 X1 hM hL (all:=cL [] ([d]++hy)) (by omega) (a:=a.args) (by omega) a.args 0 L ⟨nm,k,hy,eH,eB,d,[],0,[],0,eH⟩ rfl (by omega) (λu hu=>by have:=dB hu;omega) (λt ht=>by cases ht) (by simp only[aX];omega)
  have cw: ∀u∈eQ [] (AZ a.args),cJ u+1<=M:=λu hu=>by
   rcases vG hu with hu|hu
   .cases hu
   .have:=aDs (B:=cC a.args) (l:=a.args) (λx hx u hu=>by have:=Rj x u hu;have:=dB hx;omega) u hu
    omega
  have q2:=aOA (L:=L) E2 X2 hM (all:=(([]:List G.Y)++cL [] hy)++cL [] [d]) (by simp only[aW,aZ];omega) (a:=eQ [] (AZ a.args)) (d:=d) (by omega) (eQ [] (AZ a.args)) 0 L ⟨nm,k,hy,eH,eB,eB,[],0,[],0,eH⟩ rfl (by omega) cw (by simp only[aX];omega)
  rw[sub'_all'];have e9:eQ [] ((AZ a.args).filter (PL (cL [] ([d]++hy))))=(eQ [] (AZ a.args)).filter (PL ((([]:List G.Y)++cL [] hy)++cL [] [d])):=by
   rw[aJo (X9 d hy)];exact AM _ _ []
  simp only[aW]at q2 e9;refine Eq.mpr (congr (congrArg (Bo M) q1) q2) ?_;unfold bP9;simp only[xO];rw[e9];refine .cn _ (λ_=> .er (e:=40) (by decide) rfl rfl) λ_=> .ok rfl rfl ⟨Eu (by show cC hy<=M;omega),by show hy.length<=M;omega,λt ht=>?_,?_,Or.inl rfl,Or.inr (by show cJ d<=M;omega),Nat.zero_le _⟩
  .have:=cw t ((List.mem_filter.1 ht).1);omega
  .show(List.filter _ _).length<=M;have:=List.length_filter_le (PL (cL [] hy++cL [] [d])) (eQ [] (AZ a.args));omega
 rw[bJg,aLv,E1.icP,cH,E2.icR,cH];simp only[];refine .cn _ (λhi=>?_) λhi=>fin d (aS _)
 obtain⟨_,_,h3⟩:=qG (k:=1) hi;obtain⟨u,eu,su⟩:=gJ (t:=d) (k:=0) (by omega)
 have iu:cI d.args (0:Int)=some u:=(bP d.args 0).trans eu;rw[iu,bZ,bZ];exact fin u (by omega)
end Go.TV
namespace Go.TV
open Go.AI Go.PI Go.Proofs
set_option maxRecDepth 20000
abbrev bNa(e:Int):Rt:=some [yR 5 kX,yI e]
def OB{N:Type}{l:List N}{k:Nat}(h:k<=l.length):slc l (0:Int) (k:Int)=some (l.take k):=by
 unfold slc;rw[bF (Int.le_refl _),bF (by omega:(0:Int)<=(k:Int)),bF (by omega:(k:Int)<=(l.length:Int))]
 rfl
def aSp{c:bT}{L M:Nat}(E:vB c M){n:Int->List G.Y->G.T->G.T->G.U->G.U->Rt}{hv:List G.Y}{x l:G.T}{R:G.U}{i:Nat}{a:G.T}(ha:l.args[i]?=some a)(hi:i<1000000)(hl: ∀u∈l.args,cJ u<=M): ∀(q j m:Nat),j+q=i->q<m->
    FF c L n m (j:Int) (i:Int) hv x l R kX=bif decide (a∈(l.args.take i).drop j)then bNa 40 else n ((i+1:Nat):Int) hv x l R kX
 |0,j,m,h,hm=>by
  obtain⟨m,rfl⟩:=sK m 1 (by omega)
  obtain rfl:j=i:=by omega
  have e0:(l.args.take j).drop j=[]:=by rw[List.drop_eq_nil_iff,List.length_take];omega
  rw[FF,aAG,dF (by omega: ¬j<j),bL,e0,cS (by omega)]
  rfl
 |q+1,j,m,h,hm=>by
  obtain⟨m,rfl⟩:=sK m 1 (by omega)
  have hil:i<l.args.length:=(List.getElem?_eq_some_iff.1 ha).1;have hj:l.args[j]?=some l.args[j]:=aV (by omega)
  have e0:(l.args.take i).drop j=l.args[j]::(l.args.take i).drop (j+1):=by
   rw[List.drop_eq_getElem_cons (by rw[List.length_take];omega),List.getElem_take]
  rw[FF,aAG,dT (by omega:j<i),bO,bP,hj,bZ,bP,ha,bZ,E.eR _ _ (hl _ (List.getElem_mem _)),cH,e0,cS (by omega)]
  simp only[];by_cases e:l.args[j]=a
  .rw[bF e,bO,bF (by rw[e];exact aH ..)];rfl
  .rw[bG e,bL,aSp E ha hi hl q (j+1) m (by omega) (by omega)]
   congr 1;exact decide_eq_decide.2 ⟨λh=>aG _ h,λh=>(List.mem_cons.1 h).resolve_left λq=>e q.symm⟩
def aO3{c1 c2:bT}{L M:Nat}(E1:vB c1 M)(E2:vB c2 M)(X1:MkX c1 M)(hM:M<200000)(hL:M<L){nm:G.Y}{k:Int}{hy:List G.T}{l x:G.T}(hl:cJ l+cJ x+cC hy+40<=M):
    ∀(r:List G.T) (i m m':Nat),l.args.drop i=r->r.length<m->r.length<m'->
    Bo M (Cv c1 L m (l.args.length:Int) l.args (i:Int) ⟨nm,k,hy,eH,eB,eB,[],0,[],0,eH⟩ l x) (AN c2 L m' (i:Int) (cL [] hy) x l ⟨nm,k,hy,eH,eB,eB,[],0,[],0,eH⟩ kX):=by
 intro r;have a1:=jS (t:=l);have a2:=dV l.args;have ju: ∀u∈l.args,cJ u<=M:=λu hu=>by have:=pN hu;omega
 have v0:=eW hy;have hh:=dV hy;induction r with
 |nil=>
  intro i m m' h1 h3 h4;obtain⟨m,rfl⟩:=sK m 1 (by simp at h3;omega)
  obtain⟨m',rfl⟩: ∃q,m'=q+1:=⟨m'-1,by simp at h4;omega⟩
  have e1:=bW h1;have b0:Nat.ble ((([]:List G.T).length+l.args.length)*176) 1073741824=true:=qK (by simp only[aX];omega)
  rw[Cv,aBa,AN,aAK,dF (by omega: ¬i<l.args.length),bL,bL,b0,fS,E1.vP hy (by omega),gC]
  simp only[];rw[E1.wP _ _ (by omega) (by simp only[aM,aX];omega),cH,E2.wR _ _ (by omega) (by simp only[aM,aX];omega),cH]
  simp only[];refine .cn _ (λ_=> .er (e:=41) (by decide) rfl rfl) λ_=> .ok rfl rfl ⟨Eu (by show cC hy<=M;omega),by show hy.length<=M;omega,ju,by show l.args.length<=M;omega,Or.inr (by show cJ l<=M;omega),Or.inr (by show cJ x<=M;omega),Nat.zero_le _⟩
 |cons a r ih=>
  intro i m m' h1 h3 h4;obtain⟨m,rfl⟩:=sK m 1 (by simp at h3;omega)
  obtain⟨m',rfl⟩: ∃q,m'=q+1:=⟨m'-1,by simp at h4;omega⟩
  obtain⟨c1',c2',c3⟩:=bX h1;simp only[aM]at h3 h4;have ha:=ju a (List.mem_of_getElem? c1');have hat:=pN (List.mem_of_getElem? c1');have i1:cI l.args (i:Int)=some a:=(bP l.args i).trans c1';have v1:=eW [a];rw[nX]at v1;have er:Bo M (aAe c1 L (Cv c1 L m) true (i:Int) (l.args.length:Int) l.args ⟨nm,k,hy,eH,eB,eB,[],0,[],0,eH⟩ l x) (ZM c2 L (AN c2 L m') true (i:Int) (cL [] hy) x l ⟨nm,k,hy,eH,eB,eB,[],0,[],0,eH⟩ kX):= .er (e:=40) (by decide) rfl rfl
  rw[Cv,aBa,AN,aAK,dT (by omega:i<l.args.length),bO,bO,i1,bZ,bZ,E1.vP [a] (by rw[nX];omega),gC,E2.vR [a] (by rw[nX];omega),gC]
  simp only[];rw[bZ];refine .cn _ (λ_=>er) λ_=> .cn _ (λ_=>er) λhn=>?_
  have hn:((cL [] [a]).length:Int)=1:=by simpa using hn
  have h0:(cL [] [a])[0]?=some (cL [] [a])[0]:=aV (by omega)
  have i0:cI (cL [] [a]) (0:Int)=some (cL [] [a])[0]:=(bP _ 0).trans h0;rw[i0,bZ,bZ];cases decide ((cL [] [a])[0]=x.name)with
  |false=>exact er
  |true=>
   rw[bD,bL,OB (by omega),bZ,X1.hs _ _ (λu hu=>ju u (List.mem_of_mem_take hu)) (by rw[List.length_take];omega),cH]
   simp only[];have e7:=aSp (L:=L) E2 (n:=AN c2 L m') (hv:=cL [] hy) (x:=x) (R:=⟨nm,k,hy,eH,eB,eB,[],0,[],0,eH⟩) c1' (by omega) ju i 0 L (by omega) (by omega)
   rw[List.drop_zero]at e7;simp only[aAe,aLr,ZM,aKI];rw[bL];refine Eq.mpr (congrArg (Bo M _) e7) ?_;cases decide (a∈l.args.take i)with
   |true=>exact .er (e:=40) (by decide) rfl rfl
   |false=>
    rw[bL,aJ,cS (by omega)]
    exact ih (i+1) m m' c3 (by omega) (by omega)
def aO4{c1 c2:bT}{L M:Nat}(E1:vB c1 M)(E2:vB c2 M)(X1:MkX c1 M)(hM:M<200000)(hL:M<L){nm:G.Y}{k:Int}{hy:List G.T}{d:G.T}(hl:cJ d+cC hy+40<=M):
    Bo M (bJf c1 L d ⟨nm,k,hy,eH,eB,eB,[],0,[],0,eH⟩) (cO (c2 30 [yR 3 d,yT ([101,113,117,97,108]:List UInt8),yI (2:Int)]) λ(r11:Bool×Unit)=>
      bN (!r11.1) (QK c2 L true (cL [] hy) d ⟨nm,k,hy,eH,eB,eB,[],0,[],0,eH⟩ kX) (ob (cI d.args (1:Int)) λv12=>
      bN (!decide (v12.kind=(1:Int))) (QK c2 L true (cL [] hy) d ⟨nm,k,hy,eH,eB,eB,[],0,[],0,eH⟩ kX) (ob (cI d.args (0:Int)) λv13=>
      bN (!decide (v13.kind=(3:Int))) (QK c2 L true (cL [] hy) d ⟨nm,k,hy,eH,eB,eB,[],0,[],0,eH⟩ kX) (ob (cI d.args (0:Int)) λv14=>
      QK c2 L (decide ((List.length v14.args:Int)=(0:Int))) (cL [] hy) d ⟨nm,k,hy,eH,eB,eB,[],0,[],0,eH⟩ kX)))):=by
 have er:Bo M (aAf c1 L true ⟨nm,k,hy,eH,eB,eB,[],0,[],0,eH⟩ d) (QK c2 L true (cL [] hy) d ⟨nm,k,hy,eH,eB,eB,[],0,[],0,eH⟩ kX):= .er (e:=40) (by decide) rfl rfl
 rw[bJf,aLt,E1.icP,cH,E2.icR,cH];simp only[];refine .cn _ (λ_=>er) λhi=>?_
 have hi:Gf d [101,113,117,97,108] 2=true:=by simpa using hi
 obtain⟨_,_,h3⟩:=qG (k:=2) hi;obtain⟨l,el,sl⟩:=gJ (t:=d) (k:=0) (by omega)
 obtain⟨x,ex,sx⟩:=gJ (t:=d) (k:=1) (by omega)
 obtain⟨_,hab⟩:=NT h3 el ex;have il:cI d.args (0:Int)=some l:=(bP d.args 0).trans el;have ix:cI d.args (1:Int)=some x:=(bP d.args 1).trans ex;have a1:=jS (t:=l);have a2:=dV l.args;rw[il,bZ,ix,bZ,bZ];simp only[bZ];cases h1:decide (l.kind=3)with
 |false=>
  rw[Bool.not_false,bO,bO];cases decide (x.kind=1)with
  |false=>exact er
  |true=>exact er
 |true=>
  rw[bD,bL,bL];refine .cn _ (λ_=>er) λ_=>?_
  simp only[aAf,aLs,QK,a5C];refine .cn _ (λ_=> .er (e:=40) (by decide) rfl rfl) λ_=>?_
  rw[il,bZ,bZ,ix,bZ,bZ];exact aO3 E1 E2 X1 hM hL (by omega) l.args 0 L L rfl (by omega) (by omega)
def PG(all:List G.Y)(u:G.T):Bool:=decide (u.kind=3)&&(!aM5 u.name&&Do all (cL [] [u]))
def bQf(R:G.U)(f:G.T):Option G.T->Rt
 |some u=>some [yI (0:Int),yR 5 (⟨R.name,R.cls,R.hyps,R.equiv,R.left,f,[u],R.tset,R.stops,R.arg,R.inner⟩:G.U)]
 |none=>some [yI (40:Int),yR 5 R]
def bM9(R:G.U)(f:G.T):Option G.T->Rt
 |some u=>some [yR 5 (⟨R.name,R.cls,[],R.equiv,R.left,f,[u],R.tset,R.stops,R.arg,R.inner⟩:G.U),yI (0:Int)]
 |none=>bNa 40
def aOQ{c:bT}{L M:Nat}(E:vB c M)(X:MkX c M){all:List G.Y}(ch:all.length<=M){a:List G.T}{d f:G.T}{R:G.U}(ha:a.length<1000000):
    ∀(l:List G.T) (k m:Nat),a.drop k=l->l.length<m->0<k->(∀u∈l,cJ u+1<=M)->
    uT c L m (a.length:Int) a all (k:Int) R d f=bQf R f (l.find? λu=>PG all u&& !decide (u=d)):=by
 intro l;induction l with
 |nil=>
  intro k m h1 h3 _ _;obtain⟨m,rfl⟩:=sK m 1 (by simp at h3;omega)
  have e1:=bW h1;rw[uT,QY,dF (by omega: ¬k<a.length),bL];rfl
 |cons x l ih=>
  intro k m h1 h3 h0 h4;obtain⟨m,rfl⟩:=sK m 1 (by simp at h3;omega)
  obtain⟨a1,a2,a3⟩:=bX h1;simp only[aM]at h3;have hx:=h4 x (aH ..);have h4': ∀u∈l,cJ u+1<=M:=λu hu=>h4 u (aG _ hu)
  have v1:=eW [x];rw[nX]at v1;have no:(PG all x&& !decide (x=d))=false->ZY c L (uT c L m) false (k:Int) (a.length:Int) a all R x d f=bQf R f ((x::l).find? λu=>PG all u&& !decide (u=d)):=λhp=>by
   simp only[ZY,aLg];rw[bL,cS (by omega),List.find?_cons_of_neg (by simp only[hp];decide)]
   exact ih (k+1) m a3 (by omega) (by omega) h4'
  rw[uT,QY,dT (by omega:k<a.length),bO,bP,a1,bZ,bF (by omega:(0:Int)<(k:Int)),bO]
  cases hk:decide (x.kind=3)with
  |false=>rw[bL];exact no (by unfold PG;rw[hk];rfl)
  |true=>
   rw[bO,X.df,cH];simp only[];cases hp:aM5 x.name with
   |true=>rw[bD,bL];exact no (by unfold PG;rw[hk,hp];rfl)
   |false=>
    rw[Bool.not_false,bO,E.eP _ _ (by omega),cH]
    simp only[];cases hd:decide (x=d)with
    |true=>rw[bD,bL];exact no (by rw[hd,bD,Bool.and_false])
    |false=>
     rw[Bool.not_false,bO,E.vP [x] (by rw[nX];omega),gC]
     simp only[];rw[E.wP _ _ ch (by omega),cH]
     simp only[];cases hw:Do all (cL [] [x])with
     |false=>exact no (by unfold PG;rw[hk,hp,hw];rfl)
     |true=>
      rw[List.find?_cons_of_pos (by unfold PG;rw[hk,hp,hw,hd];rfl)]
      rfl
def aOP{c:bT}{L M:Nat}(E:vB c M)(X:MkX c M){all:List G.Y}(ch:all.length<=M){a:List G.T}{f:G.T}{R:G.U}(ha:a.length<1000000):
    ∀(l:List G.T) (k m:Nat),a.drop k=l->l.length<m->(∀u∈l,cJ u+1<=M)->
    L4 c L m all a (k:Int) f R kX=bM9 R f (l.find? (PG all)):=by
 intro l;induction l with
 |nil=>
  intro k m h1 h3 _;obtain⟨m,rfl⟩:=sK m 1 (by simp at h3;omega)
  have e1:=bW h1;rw[L4,aQS,dF (by omega: ¬k<a.length),bL];rfl
 |cons x l ih=>
  intro k m h1 h3 h4;obtain⟨m,rfl⟩:=sK m 1 (by simp at h3;omega)
  obtain⟨a1,a2,a3⟩:=bX h1;simp only[aM]at h3;have hx:=h4 x (aH ..);have h4': ∀u∈l,cJ u+1<=M:=λu hu=>h4 u (aG _ hu)
  have v1:=eW [x];rw[nX]at v1;have i1:cI a (k:Int)=some x:=(bP a k).trans a1;have no:PG all x=false->QM c L (L4 c L m) false (k:Int) all a f R kX=bM9 R f ((x::l).find? (PG all)):=λhp=>by
   simp only[QM,aAJ];rw[bL,cS (by omega),List.find?_cons_of_neg (by simp only[hp];decide)]
   exact ih (k+1) m a3 (by omega) h4'
  rw[L4,aQS,dT (by omega:k<a.length),bO,i1,bZ]
  cases hk:decide (x.kind=3)with
  |false=>rw[bL];exact no (by unfold PG;rw[hk];rfl)
  |true=>
   rw[bO,bZ,X.pl,cH];simp only[];cases hp:aM5 x.name with
   |true=>rw[bD,bL];exact no (by unfold PG;rw[hk,hp];rfl)
   |false=>
    rw[Bool.not_false,bO,bZ,E.vR [x] (by rw[nX];omega),gC]
    simp only[];rw[E.wR _ _ ch (by omega),cH]
    simp only[];cases hw:Do all (cL [] [x])with
    |false=>exact no (by unfold PG;rw[hk,hp,hw];rfl)
    |true=>
     rw[List.find?_cons_of_pos (by unfold PG;rw[hk,hp,hw];rfl)]
     simp only[QM,aAJ];rw[bO,i1];rfl
def aJp{a b:List G.Y}(h: ∀s,s∈a↔s∈b):PG a=PG b:=by
 funext u;unfold PG;rw[Dn h]
def aWS(d:G.T):oM d=d::(oM d).tail:=by cases d;rw[oM];rfl
def aOR{c1 c2:bT}{L M:Nat}(E1:vB c1 M)(E2:vB c2 M)(X1:MkX c1 M)(X2:MkX c2 M)(hM:M<200000)(hL:M<L){nm:G.Y}{k:Int}{hy:List G.T}{f d:G.T}(hl:cJ d+cC hy+40<=M)(hf:cJ f<=M):
    Bo M (bJc c1 L f hy d ⟨nm,k,[],eH,eB,eB,[],0,[],0,eH⟩) (iQ (Nat.ble ((List.length ([]:List G.Y)+List.length (cL [] hy))*32) 1073741824)<|
      iQ (Nat.ble ((List.length (([]:List G.Y)++cL [] hy)+List.length (cL [] [d]))*32) 1073741824)<|
      tI (c2 32 [yS 3 ([d]:List G.T)]) λ(r21:List G.T×Unit)=>
      L4 c2 L L ((([]:List G.Y)++cL [] hy)++cL [] [d]) r21.1 (1:Int) f ⟨nm,k,hy,eH,eB,eB,[],0,[],0,eH⟩ kX):=by
 have hh:=dV hy;have v0:=eW hy;have v1:=eW [d];rw[nX]at v1;have v2:=eW ([d]++hy);rw[tsz'_ap,nX]at v2;have b0:Nat.ble ((([d]:List G.T).length+hy.length)*176) 1073741824=true:=qK (by simp only[aM,aX];omega)
 have b2:Nat.ble ((([]:List G.Y).length+(cL [] hy).length)*32) 1073741824=true:=BS (by simp only[aX];omega)
 have b3:Nat.ble (((([]:List G.Y)++cL [] hy).length+(cL [] [d]).length)*32) 1073741824=true:=BS (by simp only[aW];omega)
 have s1:=C4 d;have s2: ∀u∈oM d,cJ u+1<=M:=λu hu=>by have:=Rj d u hu;omega
 have hd0:=aWS d;have hsd:wF [] [d]=eQ [] (oM d):=by rw[sub'_all',AZ,AZ,bA]
 have hs3:eQ [] (oM d)=eQ [d] (oM d).tail:=by
  conv=>lhs;rw[hd0]
  rw[eQ,pI,bH (by simp)];rfl
 have m4:=wC (oM d) [];simp only[aX,Nat.zero_add]at m4;rw[bJc,aLh,b0,fS,b2,fS,b3,fS,E1.vP _ (by rw[tsz'_ap,nX];omega),gC,X1.sp d (by omega),pR,X2.sr _ (by rw[nX];omega),pR,hsd]
 simp only[];have hl1:(oM d).length=(oM d).tail.length+1:=by have h:=congrArg List.length hd0;rwa [aM]at h
 have st:uT c1 L L ((oM d).length:Int) (oM d) (cL [] ([d]++hy)) (0:Int) ⟨nm,k,[],eH,eB,eB,[],0,[],0,eH⟩ d f=uT c1 L (L-1) ((oM d).length:Int) (oM d) (cL [] ([d]++hy)) ((1:Nat):Int) ⟨nm,k,[],eH,eB,eB,[],0,[],0,eH⟩ d f:=by
  obtain⟨q,rfl⟩: ∃q,L=q+1:=⟨L-1,by omega⟩
  rw[show q+1-1=q by omega]
  rw[uT,QY,bF (by omega:(0:Int)<((oM d).length:Int)),bO,show cI (oM d) (0:Int)=some d by rw[hd0];rfl,bZ,bG (by omega: ¬(0:Int)<(0:Int)),bL]
  rfl
 have kn: ∀u∈eQ [d] (oM d).tail,cJ u+1<=M:=λu hu=>by
  rw[<-hs3]at hu;rcases vG hu with hu|hu
  .cases hu
  .exact s2 u hu
 obtain⟨r,hr⟩:=BY (oM d).tail [d];have q1:=aOQ (L:=L) E1 X1 (all:=cL [] ([d]++hy)) (by omega) (a:=oM d) (d:=d) (f:=f) (R:=⟨nm,k,[],eH,eB,eB,[],0,[],0,eH⟩) (by omega) (oM d).tail 1 (L-1) (List.drop_one ..) (by omega) (by omega) λu hu=>s2 u (List.mem_of_mem_tail hu)
 have q2:=aOP (L:=L) E2 X2 (all:=(([]:List G.Y)++cL [] hy)++cL [] [d]) (by simp only[aW,aZ];omega) (a:=eQ [] (oM d)) (f:=f) (R:=⟨nm,k,hy,eH,eB,eB,[],0,[],0,eH⟩) (by omega) (eQ [d] (oM d).tail).tail 1 L (by rw[hs3,hr];rfl) (by rw[<-hs3,List.length_tail];omega) λu hu=>kn u (List.mem_of_mem_tail hu)
 have q3:=yJ (PG (([]++cL [] hy)++cL [] [d])) d (oM d).tail [] rfl;rw[aJp (X9 d hy)]at q1;refine Eq.mpr (congr (congrArg (Bo M) (st.trans q1)) (q2.trans (congrArg (bM9 _ f) q3))) ?_;cases hz:(oM d).tail.find? λu=>PG (([]++cL [] hy)++cL [] [d]) u&& !decide (u=d)with
 |none=>exact .er (e:=40) (by decide) rfl rfl
 |some u=>
  have hu:=s2 u (List.mem_of_mem_tail (List.mem_of_find?_eq_some hz));refine .ok rfl rfl ⟨λt ht=>(by cases ht),Nat.zero_le _,λt ht=>?_,by show 1<=M;omega,Or.inl rfl,Or.inr hf,Nat.zero_le _⟩
  rw[List.mem_singleton]at ht;subst ht;omega
end Go.TV
namespace Go.TV
open Go.AI Go.PI Go.Proofs
set_option maxRecDepth 20000
structure YE(B:Nat)(w:List G.E):Prop where
 l:w.length<=B
 f: ∀e∈w,e.functions.length<=B
 r: ∀e∈w,e.rules.length<=B
def Dc(e:G.E):List G.F:=if e.kind=3∨e.kind=5∨e.kind=6∨e.kind=7 then e.functions else []
def XO{B:Nat}{e:G.E}(h:e.functions.length<=B):(Dc e).length<=B:=by
 unfold Dc;split
 .exact h
 .exact Nat.zero_le _
def aGn{e:G.E}{L n:Nat}:bR L (n+1) 120 [yR 16 e]=some [yS 8 (Dc e)]:=by
 rw[bOS,a5m,VN];simp only[Vl,VM];unfold Dc;by_cases h3:e.kind=3
 .simp[h3,bN]
 .by_cases h5:e.kind=5
  .simp[h5,bN]
  .by_cases h6:e.kind=6
   .simp[h6,bN]
   .by_cases h7:e.kind=7<;>simp[h3,h5,h6,h7,bN]
def aGm{e:G.E}{L n:Nat}:bR L (n+1) 93 [yR 16 e]=some [yS 8 (Dc e)]:=by
 rw[bOc,bIa,aAw];simp only[ZJ,aAv];unfold Dc;by_cases h3:e.kind=3
 .simp[h3,bN]
 .by_cases h5:e.kind=5
  .simp[h5,bN]
  .by_cases h6:e.kind=6
   .simp[h6,bN]
   .by_cases h7:e.kind=7<;>simp[h3,h5,h6,h7,bN]
def aGl(f:G.Y):List G.F->Nat->Option Nat
 |[],_=>none
 |x::l,k=>if x.name=f then some k else aGl f l (k+1)
def aCT(f:G.Y):List G.E->Nat->Option (Nat×Nat)
 |[],_=>none
 |e::l,i=>match aGl f (Dc e) 0 with|some k=>some (i,k)|none=>aCT f l (i+1)
def aGk{f:G.Y}: ∀{l:List G.F} {j k:Nat},aGl f l j=some k->j<=k/\∃g,l[k-j]?=some g
 |[],_,_,h=>by cases h
 |x::l,j,k,h=>by
  rw[aGl]at h;split at h
  .cases h;exact⟨aS _,x,by simp⟩
  .obtain⟨h1,g,h2⟩:=aGk h;exact⟨by omega,g,by rw[show k-j=(k-(j+1))+1 by omega];simpa using h2⟩
def R4{f:G.Y}: ∀{l:List G.E} {j i k:Nat},aCT f l j=some (i,k)->j<=i/\∃e g,l[i-j]?=some e/\(Dc e)[k]?=some g
 |[],_,_,_,h=>by cases h
 |x::l,j,i,k,h=>by
  rw[aCT]at h;split at h
  .rename_i k' hk;cases h;obtain⟨_,g,h2⟩:=aGk hk;exact⟨aS _,x,g,by simp,by simpa using h2⟩
  .obtain⟨h1,e,g,h2,h3⟩:=R4 h;exact⟨by omega,e,g,by rw[show i-j=(i-(j+1))+1 by omega];simpa using h2,h3⟩
def bQc(f:G.Y):Option Nat->pX
 |some k=>[yI (k:Int),yB true,yR 1 f]
 |none=>[yI (0:Int),yB false,yR 1 f]
def bIN:Option (Nat×Nat)->pX
 |some (i,k)=>[yI (i:Int),yI (k:Int),yB true]
 |none=>[yI (0:Int),yI (0:Int),yB false]
def a02{W:Type}{b:Bool}{s:G.Y}{K:Bool×G.Y×Unit->Option W}:fU (D:=U0.D) [.bool,.rc 1] (some [yB b,yR 1 s]) K=K (b,s,()):=rfl
def Ki{W:Type}{l:List G.F}{K:List G.F×Unit->Option W}:fU (D:=U0.D) [.sl (.rc 8)] (some [yS 8 l]) K=K (l,()):=rfl
def aOZ{L n:Nat}{f:G.Y}{a:List G.F}(hb:a.length<1000000000): ∀(l:List G.F) (k m:Nat),a.drop k=l->l.length<m->
    yN (bR L (n+1)) L m (a.length:Int) a (k:Int) f=some (bQc f (aGl f l k)):=by
 intro l;induction l with
 |nil=>
  intro k m h1 h3;obtain⟨m,rfl⟩:=sK m 1 (by simp at h3;omega)
  have e1:=bW h1;rw[yN,MW,dF (by omega: ¬k<a.length),bL];rfl
 |cons x l ih=>
  intro k m h1 h3;obtain⟨m,rfl⟩:=sK m 1 (by simp at h3;omega)
  obtain⟨a1,a2,a3⟩:=bX h1;rw[yN,MW,dT (by omega:k<a.length),bO,bP,a1,bZ,bOv,a4Z,aMa,a02,aGl,cS (by omega)]
  simp only[];by_cases e:x.name=f
  .rw[bF e,bO,bI e];rfl
  .rw[bG e,bL,bH e];exact ih (k+1) m a3 (by simp at h3;omega)
def aOB{L n B:Nat}{f:G.Y}{a:List G.E}(hB:B<1000000)(hL:B<L)(ha:YE B a): ∀(l:List G.E) (k m:Nat),a.drop k=l->l.length<m->
    yV (bR L (n+2)) L m (a.length:Int) a (k:Int) f=some (bIN (aCT f l k)):=by
 intro l;have h0:=ha.l;induction l with
 |nil=>
  intro k m h1 h3;obtain⟨m,rfl⟩:=sK m 1 (by simp at h3;omega)
  have e1:=bW h1;rw[yV,M9,dF (by omega: ¬k<a.length),bL];rfl
 |cons x l ih=>
  intro k m h1 h3;obtain⟨m,rfl⟩:=sK m 1 (by simp at h3;omega)
  obtain⟨a1,a2,a3⟩:=bX h1;have hx:=XO (ha.f x (List.mem_of_getElem? a1));have hc:bR L (n+2) 143 [yS 8 (Dc x),yR 1 f]=some (bQc f (aGl f (Dc x) 0)):=by
   rw[bOJ,a5c,VF];exact aOZ (by omega) (Dc x) 0 L rfl (by omega)
  rw[yV,M9,dT (by omega:k<a.length),bO,bP,a1,bZ,aGn,Ki,hc,aCT,cS (by omega)]
  cases aGl f (Dc x) 0 with
  |some j=>rfl
  |none=>exact ih (k+1) m a3 (by simp at h3;omega)
def aOa{c:bT}{L:Nat}{n1:List G.E->Int->G.Y->Rt}{f:G.Y}{a:List G.F}{i:Int}{w:List G.E}(hb:a.length<1000000000): ∀(l:List G.F) (k m:Nat),a.drop k=l->l.length<m->
    xH c L n1 m a (k:Int) i w f=match aGl f l k with|some j=>some [⟨.int .i64,i⟩,⟨.int .i64,(j:Int)⟩,⟨.bool,true⟩]|none=>n1 w (IntKind.i64.wrap (i+(1:Int))) f:=by
 intro l;induction l with
 |nil=>
  intro k m h1 h3;obtain⟨m,rfl⟩:=sK m 1 (by simp at h3;omega)
  have e1:=bW h1;rw[xH,IL,dF (by omega: ¬k<a.length),bL];rfl
 |cons x l ih=>
  intro k m h1 h3;obtain⟨m,rfl⟩:=sK m 1 (by simp at h3;omega)
  obtain⟨a1,a2,a3⟩:=bX h1;rw[xH,IL,dT (by omega:k<a.length),bO,bP,a1,bZ,aGl,cS (by omega)]
  by_cases e:x.name=f
  .rw[bF e,bO,bI e]
  .rw[bG e,bL,bH e];exact ih (k+1) m a3 (by simp at h3;omega)
def aN9{L n B:Nat}{f:G.Y}{a:List G.E}(hB:B<1000000)(hL:B<L)(ha:YE B a): ∀(l:List G.E) (k m:Nat),a.drop k=l->l.length<m->
    uS (bR L (n+1)) L m a (k:Int) f=some (bIN (aCT f l k)):=by
 intro l;have h0:=ha.l;induction l with
 |nil=>
  intro k m h1 h3;obtain⟨m,rfl⟩:=sK m 1 (by simp at h3;omega)
  have e1:=bW h1;rw[uS,IM,dF (by omega: ¬k<a.length),bL];rfl
 |cons x l ih=>
  intro k m h1 h3;obtain⟨m,rfl⟩:=sK m 1 (by simp at h3;omega)
  obtain⟨a1,a2,a3⟩:=bX h1;have hx:=XO (ha.f x (List.mem_of_getElem? a1));rw[uS,IM,dT (by omega:k<a.length),bO,bP,a1,bZ,aGm,Ki,aCT]
  refine(aOa (c:=bR L (n+1)) (n1:=uS (bR L (n+1)) L m) (a:=Dc x) (Nat.lt_of_le_of_lt hx (by omega)) (Dc x) 0 L rfl (by omega)).trans ?_
  rw[cS (by omega)]
  cases aGl f (Dc x) 0 with
  |some j=>rfl
  |none=>exact ih (k+1) m a3 (by simp at h3;omega)
def zFn:G.F:=⟨eH,[],0,eB,eB,eB⟩
def a3g(w:List G.E)(f:G.Y):Option G.F:=match aCT f w 0 with
 |some (i,k)=>(w[i]?).bind λe=>(Dc e)[k]?
 |none=>none
def a6f:Option G.F->pX
 |some g=>[yR 8 g,yB true]
 |none=>[yR 8 zFn,yB false]
def a3i{L n B:Nat}{f:G.Y}{w:List G.E}(hB:B<1000000)(hL:B<L)(ha:YE B w):bR L (n+4) 82 [yS 16 w,yR 1 f]=some (a6f (a3g w f)):=by
 have h0:=ha.l;have h1:bR L (n+3) 119 [yS 16 w,yR 1 f]=some (bIN (aCT f w 0)):=by
  rw[bOT,a5n,VO];exact aOB hB hL ha w 0 L rfl (by omega)
 rw[c82,bPk,aUm,h1,a3g];cases h2:aCT f w 0 with
 |none=>rfl
 |some p=>
  obtain⟨i,k⟩:=p;obtain⟨_,e,g,h3,h4⟩:=R4 h2;rw[Nat.sub_zero]at h3;have i1:cI w (i:Int)=some e:=(bP w i).trans h3;have i2:cI (Dc e) (k:Int)=some g:=(bP (Dc e) k).trans h4;show ob (cI w (i:Int)) _=_;rw[i1,bZ,aGn,Ki];show ob (cI (Dc e) (k:Int)) _=some (a6f ((w[i]?).bind λe=>(Dc e)[k]?))
  rw[i2,bZ,h3,aL,h4];rfl
def a3h{L n B:Nat}{f:G.Y}{w:List G.E}(hB:B<1000000)(hL:B<L)(ha:YE B w):bR L (n+3) 38 [yS 16 w,yR 1 f]=some (a6f (a3g w f)):=by
 have h0:=ha.l;have h1:bR L (n+2) 92 [yS 16 w,yR 1 f]=some (bIN (aCT f w 0)):=by
  rw[bOd,bIb,aAx];exact aN9 hB hL ha w 0 L rfl (by omega)
 rw[bOf,bIe,aKZ,h1,a3g];cases h2:aCT f w 0 with
 |none=>rfl
 |some p=>
  obtain⟨i,k⟩:=p;obtain⟨_,e,g,h3,h4⟩:=R4 h2;rw[Nat.sub_zero]at h3;have i1:cI w (i:Int)=some e:=(bP w i).trans h3;have i2:cI (Dc e) (k:Int)=some g:=(bP (Dc e) k).trans h4;show ob (cI w (i:Int)) _=_;rw[i1,bZ,aGm,Ki];show ob (cI (Dc e) (k:Int)) _=some (a6f ((w[i]?).bind λe=>(Dc e)[k]?))
  rw[i2,bZ,h3,aL,h4];rfl
def aY1(s:G.Y)(r:G.U):Bool:=decide (r.cls=6)&&decide (r.equiv=s)
def bBl(s:G.Y)(e:G.E):Bool:=decide (e.kind=4)&&e.rules.any (aY1 s)
def OP(w:List G.E)(s:G.Y):Bool:=decide (s=⟨fD,aCe⟩)||(decide (s=⟨fD,aB8⟩)||w.any (bBl s))
def aDB{c:bT}{L:Nat}{n2:Int->List G.E->Int->G.Y->Rt}{s:G.Y}{a:List G.U}{j lw:Int}{w:List G.E}(hb:a.length<1000000000): ∀(l:List G.U) (k m:Nat),a.drop k=l->l.length<m->
    FG c L n2 m (a.length:Int) a (k:Int) j lw w s=bif l.any (aY1 s)then some (bb true)else n2 lw w (IntKind.i64.wrap (j+(1:Int))) s:=by
 intro l;induction l with
 |nil=>
  intro k m h1 h3;obtain⟨m,rfl⟩:=sK m 1 (by simp at h3;omega)
  have e1:=bW h1;rw[FG,aAM,dF (by omega: ¬k<a.length),bL];rfl
 |cons x l ih=>
  intro k m h1 h3;obtain⟨m,rfl⟩:=sK m 1 (by simp at h3;omega)
  obtain⟨a1,a2,a3⟩:=bX h1;have gl:=ih (k+1) m a3 (by simp at h3;omega)
  rw[FG,aAM,dT (by omega:k<a.length),bO,bP,a1,bZ,List.any_cons,aY1]
  simp only[aJB,aKM];rw[cS (by omega)]
  cases decide (x.cls=6)with
  |false=>rw[bL,bL,Bool.false_and,Bool.false_or];exact gl
  |true=>
   rw[bO,Bool.true_and];cases decide (x.equiv=s)with
   |true=>rfl
   |false=>rw[bL,Bool.false_or];exact gl
def aDC{c:bT}{L B:Nat}{s:G.Y}{w:List G.E}(hB:B<1000000)(hL:B<L)(ha:YE B w): ∀(l:List G.E) (k m:Nat),w.drop k=l->l.length<m->
    AO c L m (w.length:Int) w (k:Int) s=some (bb (l.any (bBl s))):=by
 intro l;have h0:=ha.l;induction l with
 |nil=>
  intro k m h1 h3;obtain⟨m,rfl⟩:=sK m 1 (by simp at h3;omega)
  have e1:=bW h1;rw[AO,aAN,dF (by omega: ¬k<w.length),bL];rfl
 |cons x l ih=>
  intro k m h1 h3;obtain⟨m,rfl⟩:=sK m 1 (by simp at h3;omega)
  obtain⟨a1,a2,a3⟩:=bX h1;have hx:=ha.r x (List.mem_of_getElem? a1);have gl:=ih (k+1) m a3 (by simp at h3;omega)
  rw[AO,aAN,dT (by omega:k<w.length),bO,bP,a1,bZ,List.any_cons,bBl]
  cases decide (x.kind=4)with
  |false=>
   rw[Bool.not_false,bO,Bool.false_and,Bool.false_or];simp only[ZP,aKN];rw[cS (by omega)];exact gl
  |true=>
   rw[bD,bL,Bool.true_and];refine(aDB (c:=c) (n2:=AO c L m) (a:=x.rules) (Nat.lt_of_le_of_lt hx (by omega)) x.rules 0 L rfl (by omega)).trans ?_
   rw[cS (by omega)]
   cases x.rules.any (aY1 s)with
   |true=>rfl
   |false=>rw[aJ,Bool.false_or];exact gl
def aNU{L n B:Nat}{s:G.Y}{w:List G.E}(hB:B<1000000)(hL:B<L)(ha:YE B w):bR L (n+2) 67 [yS 16 w,yR 1 s]=some (bb (OP w s)):=by
 have h0:=ha.l;have h2:=aDC (c:=bR L (n+1)) (L:=L) (s:=s) hB hL ha w 0 L rfl (by omega)
 rw[c67,bPv,aKP,Ed,kQ,OP];simp only[];show bN (decide (s=⟨fD,aCe⟩)) _ _=_;cases decide (s=⟨fD,aCe⟩)with
 |true=>rfl
 |false=>
  rw[bL,Ed,kQ,Bool.false_or];show ZQ (bR L (n+1)) L (decide (s=⟨fD,aB8⟩)) w s=_;cases decide (s=⟨fD,aB8⟩)with
  |true=>rfl
  |false=>
   simp only[ZQ,aKO];rw[bL,Bool.false_or];exact h2
def aDz{c:bT}{L:Nat}{n2:List G.E->Int->G.Y->Rt}{s:G.Y}{j:Nat}{w:List G.E}{e:G.E}(he:w[j]?=some e)(hb:e.rules.length<1000000000): ∀(l:List G.U) (k m:Nat),e.rules.drop k=l->l.length<m->
    FN c L n2 m (k:Int) (j:Int) w s=bif l.any (aY1 s)then some (bb true)else n2 w (IntKind.i64.wrap ((j:Int)+(1:Int))) s:=by
 intro l;have i0:cI w (j:Int)=some e:=(bP w j).trans he;induction l with
 |nil=>
  intro k m h1 h3;obtain⟨m,rfl⟩:=sK m 1 (by simp at h3;omega)
  have e1:=bW h1;rw[FN,aA5,i0,bZ,dF (by omega: ¬k<e.rules.length),bL];rfl
 |cons x l ih=>
  intro k m h1 h3;obtain⟨m,rfl⟩:=sK m 1 (by simp at h3;omega)
  obtain⟨a1,a2,a3⟩:=bX h1;have i1:cI e.rules (k:Int)=some x:=(bP e.rules k).trans a1;have gl:=ih (k+1) m a3 (by simp at h3;omega)
  rw[FN,aA5,i0,bZ,dT (by omega:k<e.rules.length),bO,bZ,i1,bZ,List.any_cons,aY1]
  simp only[aJI,aK9];rw[cS (by omega)]
  cases decide (x.cls=6)with
  |false=>rw[bL,bL,Bool.false_and,Bool.false_or];exact gl
  |true=>
   rw[bO,bZ,i1,bZ,Bool.true_and];cases decide (x.equiv=s)with
   |true=>rfl
   |false=>rw[bL,Bool.false_or];exact gl
def aDA{c:bT}{L B:Nat}{s:G.Y}{w:List G.E}(hB:B<1000000)(hL:B<L)(ha:YE B w): ∀(l:List G.E) (k m:Nat),w.drop k=l->l.length<m->
    AS c L m w (k:Int) s=some (bb (l.any (bBl s))):=by
 intro l;have h0:=ha.l;induction l with
 |nil=>
  intro k m h1 h3;obtain⟨m,rfl⟩:=sK m 1 (by simp at h3;omega)
  have e1:=bW h1;rw[AS,aA6,dF (by omega: ¬k<w.length),bL];rfl
 |cons x l ih=>
  intro k m h1 h3;obtain⟨m,rfl⟩:=sK m 1 (by simp at h3;omega)
  obtain⟨a1,a2,a3⟩:=bX h1;have hx:=ha.r x (List.mem_of_getElem? a1);have gl:=ih (k+1) m a3 (by simp at h3;omega)
  rw[AS,aA6,dT (by omega:k<w.length),bO,bP,a1,bZ,List.any_cons,bBl]
  cases decide (x.kind=4)with
  |false=>
   rw[Bool.not_false,bO,Bool.false_and,Bool.false_or];simp only[ZV,aLa];rw[cS (by omega)];exact gl
  |true=>
   rw[bD,bL,Bool.true_and];refine(aDz (c:=c) (n2:=AS c L m) a1 (by omega) x.rules 0 L rfl (by omega)).trans ?_
   rw[cS (by omega)]
   cases x.rules.any (aY1 s)with
   |true=>rfl
   |false=>rw[aJ,Bool.false_or];exact gl
def aNT{L n B:Nat}{s:G.Y}{w:List G.E}(hB:B<1000000)(hL:B<L)(ha:YE B w):bR L (n+2) 29 [yS 16 w,yR 1 s]=some (bb (OP w s)):=by
 have h0:=ha.l;have h2:=aDA (c:=bR L (n+1)) (L:=L) (s:=s) hB hL ha w 0 L rfl (by omega)
 rw[bQN,bJa,aLc,sS,kQ,OP];simp only[];show bN (decide (s=⟨fD,aCe⟩)) _ _=_;cases decide (s=⟨fD,aCe⟩)with
 |true=>rfl
 |false=>
  rw[bL,sS,kQ,Bool.false_or];show ZW (bR L (n+1)) L (decide (s=⟨fD,aB8⟩)) w s=_;cases decide (s=⟨fD,aB8⟩)with
  |true=>rfl
  |false=>
   simp only[ZW,aLb];rw[bL,Bool.false_or];exact h2
noncomputable def cQ(L M k:Nat):bT:=a3m (λ_ _=>none) (a55 (L+7000) M) (L+7000) k
def aG3(L M k:Nat):cQ L M k=bR (L+7000) (M+k):=EF (λn i d r h=>by cases h) k
def bPU(c:UInt8):G.T:=⟨1,⟨fD,[c]⟩,aE3,[]⟩
def a1l(f:List UInt8)(l:List G.T):G.T:=⟨3,⟨fD,f⟩,aE3,l⟩
def aY5(s:G.Y)(a b:UInt8):G.T:=⟨3,s,aE3,[bPU a,bPU b]⟩
def bQb:List UInt8:=[105,109,112,108,105,101,115]
def aO0(s:G.Y):G.T:=a1l XX [a1l [98,111,111,108,101,97,110,112] [aY5 s 120 121],
 a1l XX [aY5 s 120 120,a1l XX [a1l bQb [aY5 s 120 121,aY5 s 121 120],a1l bQb [a1l XX [aY5 s 120 121,aY5 s 121 122,G3],aY5 s 120 122],G3],G3],G3]
def bNc(L M:Nat)(s:G.Y):cQ L M 20 83 [yR 1 s]=some [yR 3 (aO0 s)]:=by kernel_rfl
def bNb(L M:Nat)(s:G.Y):cQ L M 20 39 [yR 1 s]=some [yR 3 (aO0 s)]:=by kernel_rfl
structure a4H(c:bT)(w:List G.E):Prop where
 fP: ∀f:G.Y,c 82 [yS 16 w,yR 1 f]=some (a6f (a3g w f))
 fR: ∀f:G.Y,c 38 [yS 16 w,yR 1 f]=some (a6f (a3g w f))
 rP: ∀s:G.Y,c 67 [yS 16 w,yR 1 s]=some [yB (OP w s)]
 rR: ∀s:G.Y,c 29 [yS 16 w,yR 1 s]=some [yB (OP w s)]
 qP: ∀s:G.Y,c 83 [yR 1 s]=some [yR 3 (aO0 s)]
 qR: ∀s:G.Y,c 39 [yR 1 s]=some [yR 3 (aO0 s)]
def aO1{c1 c2:bT}{L M:Nat}(E1:vB c1 M)(E2:vB c2 M){w:List G.E}(U1:a4H c1 w)(U2:a4H c2 w){nm:G.Y}{k:Int}{f:G.T}(hf:cJ f<=M):
    Bo M (bJe c1 L w f ⟨nm,k,[],eH,eB,eB,[],0,[],0,eH⟩) (cO (c2 30 [yR 3 f,yT ([105,102]:List UInt8),yI (3:Int)]) λ(r15:Bool×Unit)=>
      bN (!r15.1) (U7 c2 L true w f f ⟨nm,k,[],eH,eB,eB,[],0,[],0,eH⟩ kX) (ob (cI f.args (0:Int)) λv16=>
      cO (c2 30 [yR 3 v16,yT ([98,111,111,108,101,97,110,112]:List UInt8),yI (1:Int)]) λ(r17:Bool×Unit)=>
      bN (!r17.1) (U7 c2 L true w f f ⟨nm,k,[],eH,eB,eB,[],0,[],0,eH⟩ kX) (ob (cI f.args (0:Int)) λv18=>
      ob (cI v18.args (0:Int)) λv19=>
      U7 c2 L (!decide (v19.kind=(3:Int))) w f f ⟨nm,k,[],eH,eB,eB,[],0,[],0,eH⟩ kX))):=by
 have er:Bo M (aAd c1 L true w ⟨nm,k,[],eH,eB,eB,[],0,[],0,eH⟩ f) (U7 c2 L true w f f ⟨nm,k,[],eH,eB,eB,[],0,[],0,eH⟩ kX):= .er (e:=40) (by decide) rfl rfl
 rw[bJe,aLq,E1.icP,cH,E2.icR,cH];simp only[];refine .cn _ (λ_=>er) λhi=>?_
 have hi:Gf f [105,102] 3=true:=by simpa using hi
 obtain⟨_,_,h3⟩:=qG (k:=3) hi;obtain⟨a,ea,sa⟩:=gJ (t:=f) (k:=0) (by omega)
 have ia:cI f.args (0:Int)=some a:=(bP f.args 0).trans ea;rw[ia];simp only[bZ];rw[E1.icP,cH,E2.icR,cH];simp only[];refine .cn _ (λ_=>er) λhj=>?_
 have hj:Gf a [98,111,111,108,101,97,110,112] 1=true:=by simpa using hj
 obtain⟨_,_,h4⟩:=qG (k:=1) hj;obtain⟨u,eu,su⟩:=gJ (t:=a) (k:=0) (by omega)
 have iu:cI a.args (0:Int)=some u:=(bP a.args 0).trans eu;rw[iu];simp only[bZ];simp only[aAd,aLp,U7,a5B];refine .cn _ (λ_=> .er (e:=40) (by decide) rfl rfl) λ_=>?_
 rw[ia];simp only[bZ];rw[iu];simp only[bZ];rw[U1.fP,U2.fR];have fin: ∀b:Bool,Bo M (aAc c1 L b ⟨nm,k,[],eH,eB,eB,[],0,[],0,eH⟩ u.name) (ZO c2 L b u.name ⟨nm,k,[],eH,eB,eB,[],0,[],0,eH⟩ kX):=λb=>by
  simp only[aAc,aLo,ZO,aKL];refine .cn _ (λ_=> .er (e:=40) (by decide) rfl rfl) λ_=> .ok rfl rfl ⟨λt ht=>(by cases ht),Nat.zero_le _,λt ht=>(by cases ht),Nat.zero_le _,Or.inl rfl,Or.inl rfl,Nat.zero_le _⟩
 cases a3g w u.name with
 |none=>exact fin true
 |some g=>
  show Bo M (eC (c1 83 [yR 1 u.name]) _) (eC (c2 39 [yR 1 u.name]) _);rw[U1.qP,sV,E1.eP _ _ hf,cH,U2.qR,sV,E2.eR _ _ hf,cH];exact fin _
end Go.TV
namespace Go.TV
open Go.AI Go.PI Go.Proofs
set_option maxRecDepth 20000
mutual
noncomputable def Q2(a b:G.T):G.T->G.T
 |⟨k,n,v,l⟩=>bif decide (G.T.mk k n v l=a)then b else bif decide (k=3)then⟨k,n,v,JB a b l⟩else⟨k,n,v,l⟩
noncomputable def JB(a b:G.T):List G.T->List G.T
 |[]=>[]
 |x::l=>Q2 a b x::JB a b l
end
def Kb{W:Type}{a b d:G.T}{K:G.T×G.T×G.T×Unit->Option W}:fU (D:=U0.D) [.rc 3,.rc 3,.rc 3] (some [yR 3 a,yR 3 b,yR 3 d]) K=K (a,b,d,()):=rfl
def GN{N:Type}(x:N): ∀n,(wH x n).length=n
 |0=>rfl
 |n+1=>by show(wH x n).length+1=n+1;rw[GN x n]
def aNj{c:bT}{L:Nat}{a b t z:G.T}{al:List G.T}(hb:al.length<1000000000): ∀(l:List G.T) (k m:Nat) (acc:List G.T),al.drop k=l->l.length<m->acc.length=al.length->
    (∀x,x∈l->c 145 [yR 3 x,yR 3 a,yR 3 b]=some [yR 3 (Q2 a b x),yR 3 a,yR 3 b])->
    uV c L m (al.length:Int) al (k:Int) a b acc t z=some [yR 3 (⟨t.kind,t.name,t.value,acc.take k++JB a b l⟩:G.T),yR 3 a,yR 3 b]:=by
 intro l;induction l with
 |nil=>
  intro k m acc h1 h3 h4 _;obtain⟨m,rfl⟩:=sK m 1 (by simp at h3;omega)
  have e1:=bW h1;have e5:acc.take k=acc:=List.take_of_length_le (by omega)
  rw[uV,M7,dF (by omega: ¬k<al.length),bL,JB,bA,e5]
 |cons x l ih=>
  intro k m acc h1 h3 h4 hc;obtain⟨m,rfl⟩:=sK m 1 (by simp at h3;omega)
  obtain⟨a1,a2,a3⟩:=bX h1;have hx:=hc x (aH ..);have hk:k<acc.length:=by omega
  have hi:dO (k:Int) acc.length=true:=by
   unfold dO;simp;omega
  have e6:(acc.set k (Q2 a b x)).take (k+1)=acc.take k++ [Q2 a b x]:=by
   rw[List.take_add_one,List.take_set_of_le (aS _)];simp[hk]
  rw[uV,M7,dT (by omega:k<al.length),bO,bP,a1,bZ,hx,Kb]
  try dsimp only
  rw[hi,fS,bP,aV hk,bZ,cS (by omega),Int.toNat_natCast,
   ih (k+1) m (acc.set k (Q2 a b x)) a3 (by simp at h3;omega) (by simpa using h4) λz hz=>hc z (aG _ hz),e6,JB,aQ]
  rfl
def aYZ(a b:G.T): ∀t:G.T,∀(L n:Nat),cJ t<L->3*cJ t<=n->cJ t<1000000->bR L n 84 [yR 3 t,yR 3 a,yR 3 b]=some [yR 3 (Q2 a b t)]:=λt=>by
 induction t using fW with
 |h k nm v l ih=>
  intro L n hL hn hw;have h0:cC l+4<=cJ ⟨k,nm,v,l⟩:=jS (t:=⟨k,nm,v,l⟩);have hlen:=dV l;have he: ∀m,3*cJ ⟨k,nm,v,l⟩<=m+3->bR L m 74 [yR 3 (⟨k,nm,v,l⟩:G.T),yR 3 a]=some [yB (decide (G.T.mk k nm v l=a))]:=λm hm=>MO ⟨k,nm,v,l⟩ (by simp only[Q1];omega) a L m (by omega) (by omega)
  obtain⟨n,rfl⟩:=sK n 3 (by omega)
  rw[show n+3=n+2+1 from rfl,c84,bPi,aUl,he (n+2) (by omega),cH,Q2]
  try dsimp only
  cases decide (G.T.mk k nm v l=a)with
  |true=>rfl
  |false=>
   rw[bL,aJ];by_cases hk:k=3
   .rw[bF hk,aI];have e1:bR L (n+2) 124 [yR 3 (⟨k,nm,v,l⟩:G.T),yR 3 a,yR 3 b]=some [yR 3 (⟨k,nm,v,JB a b l⟩:G.T),yR 3 a,yR 3 b]:=by
     rw[show n+2=n+1+1 from rfl,bHi,aQQ,M8,show decide ((G.T.mk k nm v l).kind=3)=true from bF hk,bD,bL]
     show iQ (decide (0<=(l.length:Int))&&decide ((l.length:Int)<=(l.length:Int))&&decide ((l.length:Int)*(176:Int)<=1073741824)&&decide ((l.length:Int)<=1073741824)) _=_;rw[bF (by omega:(0:Int)<=(l.length:Int)),bF (Int.le_refl _),bF (by omega:(l.length:Int)*176<=1073741824),bF (by omega:(l.length:Int)<=1073741824)]
     show iQ (decide ((l.length:Int)=(l.length:Int))) _=_;rw[bF rfl,fS];show uV (bR L (n+1)) L L (l.length:Int) l ((0:Nat):Int) a b (wH _ (Int.toNat (l.length:Int))) ⟨k,nm,v,l⟩ _=_;exact(aNj (c:=bR L (n+1)) (t:=⟨k,nm,v,l⟩) (al:=l) (by omega) l 0 L _ rfl (by omega) (by rw[GN];omega) λx hx=>by
      rw[bOI,a5b,aMG,ih x hx L n (by have:=dB hx;omega) (by have:=dB hx;omega) (by have:=dB hx;omega),sV]).trans (by rw[List.take_zero,aW];rfl)
    rw[e1,Kb]
   .rw[bG hk,aJ];have e1:bR L (n+2) 124 [yR 3 (⟨k,nm,v,l⟩:G.T),yR 3 a,yR 3 b]=some [yR 3 (⟨k,nm,v,l⟩:G.T),yR 3 a,yR 3 b]:=by
     rw[show n+2=n+1+1 from rfl,bHi,aQQ,M8,show decide ((G.T.mk k nm v l).kind=3)=false from bG hk,Bool.not_false,bO]
    rw[e1,Kb]
def bHt{L n:Nat}(f:G.Y)(l:List G.T):bR L (n+1) 58 [yR 1 f,yS 3 l]=some [yR 3 (⟨3,f,aE3,l⟩:G.T)]:=by
 rw[bQz];rfl
def aNP{L n:Nat}{a b t z:G.T}(hb:t.args.length<1000000): ∀(l:List G.T) (k m:Nat) (acc:List G.T),t.args.drop k=l->l.length<m->acc.length=k->
    (∀x,x∈l->bR L (n+1) 88 [yR 3 x,yR 3 a,yR 3 b]=some [yR 3 (Q2 a b x)])->
    Fy (bR L (n+1)) L m (k:Int) acc a b t z=some [yR 3 (⟨3,t.name,aE3,acc++JB a b l⟩:G.T)]:=by
 intro l;induction l with
 |nil=>
  intro k m acc h1 h3 h4 _;obtain⟨m,rfl⟩:=sK m 1 (by simp at h3;omega)
  have e1:=bW h1;rw[Fy,aAA,dF (by omega: ¬k<t.args.length),bL,bHt,sV,JB,bA]
 |cons x l ih=>
  intro k m acc h1 h3 h4 hc;obtain⟨m,rfl⟩:=sK m 1 (by simp at h3;omega)
  obtain⟨a1,a2,a3⟩:=bX h1;have hx:=hc x (aH ..);have e5:Nat.ble ((acc.length+([Q2 a b x]:List G.T).length)*176) 1073741824=true:=qK (by simp only[aM,aX];omega)
  rw[Fy,aAA,dT (by omega:k<t.args.length),bO,bP,a1,bZ,hx,sV]
  try dsimp only
  rw[e5,fS,cS (by omega),ih (k+1) m (acc++ [Q2 a b x]) a3 (by simp at h3;omega) (by simp;omega) λz hz=>hc z (aG _ hz),JB,aQ]
  rfl
def aYY(a b:G.T): ∀t:G.T,∀(L n:Nat),cJ t<L->cJ t+2<=n->cJ t<1000000->bR L n 88 [yR 3 t,yR 3 a,yR 3 b]=some [yR 3 (Q2 a b t)]:=λt=>by
 induction t using fW with
 |h k nm v l ih=>
  intro L n hL hn hw;have h0:cC l+4<=cJ ⟨k,nm,v,l⟩:=jS (t:=⟨k,nm,v,l⟩);have hlen:=dV l;have h3:=aNu (t:=⟨k,nm,v,l⟩) (by omega)
  obtain⟨n,rfl⟩:=sK n 2 (by omega)
  have he:bR L (n+1) 40 [yR 3 (⟨k,nm,v,l⟩:G.T),yR 3 a]=some [yB (decide (G.T.mk k nm v l=a))]:=zA ⟨k,nm,v,l⟩ (by simp only[Q1];omega) a L (n+1) (by omega) (by omega)
  rw[bQp,bIW,aKz,he,cH,Q2]
  try dsimp only
  cases decide (G.T.mk k nm v l=a)with
  |true=>rfl
  |false=>
   rw[bL,aJ];by_cases hk:k=3
   .rw[show decide ((G.T.mk k nm v l).kind=3)=true from bF hk,bD,bL,bF hk,aI]
    have hv:v=aE3:=by
     rcases h3 with h|⟨h,_⟩|h
     .exact absurd (congrArg G.T.kind h) (by show¬k=1;omega)
     .exact absurd (congrArg G.T.kind h) (by show¬k=2;omega)
     .injection h
    exact(aNP (L:=L) (n:=n) (t:=⟨k,nm,v,l⟩) (by show l.length<_;omega) l 0 L [] rfl (by omega) rfl λx hx=>ih x hx L (n+1) (by have:=dB hx;omega) (by have:=dB hx;omega) (by have:=dB hx;omega)).trans (by rw[hk,hv];rfl)
   .rw[show decide ((G.T.mk k nm v l).kind=3)=false from bG hk,Bool.not_false,bO,bG hk,aJ]
def aRZ{c:bT}{L:Nat}{n3:Int->Int->G.T->G.T->G.T->G.T->G.T->G.T->G.U->G.U->Rt}{pos:Int}{u x y l h d:G.T}{R:G.U}{i:Nat}{a:G.T}(ha:l.args[i]?=some a)(hi:i<1000000): ∀(q j m:Nat),j+q=i->q<m->
    Cr c L n3 m (j:Int) (i:Int) pos u x y l h d R kX=bif decide (a.name∈((l.args.take i).drop j).map λz=>z.name)then bNa 40 else n3 ((i+1:Nat):Int) pos u x y l h d R kX
 |0,j,m,hq,hm=>by
  obtain⟨m,rfl⟩:=sK m 1 (by omega)
  obtain rfl:j=i:=by omega
  have e0:(l.args.take j).drop j=[]:=by rw[List.drop_eq_nil_iff,List.length_take];omega
  rw[Cr,aA3,dF (by omega: ¬j<j),bL,e0,cS (by omega)]
  rfl
 |q+1,j,m,hq,hm=>by
  obtain⟨m,rfl⟩:=sK m 1 (by omega)
  have hil:i<l.args.length:=(List.getElem?_eq_some_iff.1 ha).1;have hj:l.args[j]?=some l.args[j]:=aV (by omega)
  have e0:(l.args.take i).drop j=l.args[j]::(l.args.take i).drop (j+1):=by
   rw[List.drop_eq_getElem_cons (by rw[List.length_take];omega),List.getElem_take]
  rw[Cr,aA3,dT (by omega:j<i),bO,bP,hj,bZ,bP,ha,bZ,e0,aO,cS (by omega)]
  by_cases e:l.args[j].name=a.name
  .rw[bF e,bO,bF (by rw[e];exact aH ..)];rfl
  .rw[bG e,bL,aRZ ha hi q (j+1) m (by omega) (by omega)]
   congr 1;exact decide_eq_decide.2 ⟨λh=>aG _ h,λh=>(List.mem_cons.1 h).resolve_left λq=>e q.symm⟩
def aP6{c1 c2:bT}{L M:Nat}(E1:vB c1 M)(E2:vB c2 M)(X1:MkX c1 M)(hM:M<200000)(hL:M<L){nm:G.Y}{k:Int}{u x y l h d:G.T}(hl:cJ l<=M)(hu:cJ u<=M)
    (hP:c1 84 [yR 3 l,yR 3 x,yR 3 y]=some [yR 3 (Q2 x y l)]) (hR:c2 88 [yR 3 l,yR 3 x,yR 3 y]=some [yR 3 (Q2 x y l)]):
    ∀(r:List G.T) (i m m':Nat) (pos:Int),l.args.drop i=r->r.length<m->r.length<m'->(∀z∈l.args.take i,z.kind=1)->
    Bo M (AT c1 L m (l.args.length:Int) l.args (i:Int) pos ⟨nm,k,[],eH,eB,eB,[],0,[],0,eH⟩ u x y l h d) (AQ c2 L m' (i:Int) pos u x y l h d ⟨nm,k,[],eH,eB,eB,[],0,[],0,eH⟩ kX):=by
 intro r;have a1:=jS (t:=l);have a2:=dV l.args;have ju: ∀u∈l.args,cJ u<=M:=λu hu=>by have:=pN hu;omega
 induction r with
 |nil=>
  intro i m m' pos h1 h3 h4 _;obtain⟨m,rfl⟩:=sK m 1 (by simp at h3;omega)
  obtain⟨m',rfl⟩: ∃q,m'=q+1:=⟨m'-1,by simp at h4;omega⟩
  have e1:=bW h1;have fin: ∀b:Bool,Bo M (ZZ c1 L b pos ⟨nm,k,[],eH,eB,eB,[],0,[],0,eH⟩ l h d) (ZS c2 L b pos l h d ⟨nm,k,[],eH,eB,eB,[],0,[],0,eH⟩ kX):=λb=>by
   simp only[ZZ,aLj,ZS,aK2];exact .cn _ (λ_=> .er (e:=40) (by decide) rfl rfl) λ_=> .ok rfl rfl ⟨λt ht=>(by cases ht),Nat.zero_le _,λt ht=>(by cases ht),Nat.zero_le _,Or.inr hl,Or.inl rfl,Nat.zero_le _⟩
  rw[AT,aA9,AQ,aA4,dF (by omega: ¬i<l.args.length),bL,bL]
  refine .cn _ (λ_=>fin true) λ_=>?_
  rw[hP,sV,hR,sV,E1.eP _ _ hu,cH,E2.eR _ _ hu,cH];exact fin _
 |cons a r ih=>
  intro i m m' pos h1 h3 h4 hv;obtain⟨m,rfl⟩:=sK m 1 (by simp at h3;omega)
  obtain⟨m',rfl⟩: ∃q,m'=q+1:=⟨m'-1,by simp at h4;omega⟩
  obtain⟨c1',c2',c3⟩:=bX h1;simp only[aM]at h3 h4;have ha:=ju a (List.mem_of_getElem? c1');have i1:cI l.args (i:Int)=some a:=(bP l.args i).trans c1';have er:Bo M (aAa c1 L (AT c1 L m) true (i:Int) (i:Int) (l.args.length:Int) l.args pos ⟨nm,k,[],eH,eB,eB,[],0,[],0,eH⟩ a u x y l h d) (ZT c2 L (AQ c2 L m') true (i:Int) pos u x y l h d ⟨nm,k,[],eH,eB,eB,[],0,[],0,eH⟩ kX):= .er (e:=40) (by decide) rfl rfl
  rw[AT,aA9,AQ,aA4,dT (by omega:i<l.args.length),bO,bO,i1]
  simp only[bZ];refine .cn _ (λ_=>er) λhk=>?_
  have hk:a.kind=1:=by simpa using hk
  cases decide (a.name=y.name)with
  |true=>exact er
  |false=>
   rw[bL,OB (by omega),bZ,X1.hs _ _ (λu hu=>ju u (List.mem_of_mem_take hu)) (by rw[List.length_take];omega),cH]
   have hin:(a∈l.args.take i)↔a.name∈(l.args.take i).map λz=>z.name:=by
    constructor
    .exact λhz=>List.mem_map.2 ⟨a,hz,rfl⟩
    .intro hz;obtain⟨z,hz1,hz2⟩:=List.mem_map.1 hz;have e1:=aC9 (t:=z) (by have:=ju z (List.mem_of_mem_take hz1);omega) (hv z hz1)
     have e2:=aC9 (t:=a) (by omega) hk
     rw[e2,<-hz2,<-e1];exact hz1
   have ki: ∀z∈l.args.take (i+1),z.kind=1:=λz hz=>by
    rw[List.take_add_one,c1']at hz;rcases List.mem_append.1 hz with hz|hz
    .exact hv z hz
    .rw[Option.toList_some,List.mem_singleton]at hz;subst hz;exact hk
   have st: ∀pos':Int,Bo M (bif decide (a∈l.args.take i)then some [yI (40:Int),yR 5 (⟨nm,k,[],eH,eB,eB,[],0,[],0,eH⟩:G.U)]else AT c1 L m (l.args.length:Int) l.args ((i+1:Nat):Int) pos' ⟨nm,k,[],eH,eB,eB,[],0,[],0,eH⟩ u x y l h d) (Cr c2 L (AQ c2 L m') L ((0:Nat):Int) (i:Int) pos' u x y l h d ⟨nm,k,[],eH,eB,eB,[],0,[],0,eH⟩ kX):=λpos'=>by
    rw[aRZ c1' (by omega) i 0 L (by omega) (by omega),List.drop_zero,decide_eq_decide.2 hin]
    cases decide (a.name∈(l.args.take i).map λz=>z.name)with
    |true=>exact .er (e:=40) (by decide) rfl rfl
    |false=>exact ih (i+1) m m' pos' c3 (by omega) (by omega) ki
   simp only[aAa,aLk,ZT,aK3,aJK,aLi,aJF,aK1];rw[bL,i1,cS (by omega)]
   simp only[bZ];cases decide (a.name=x.name)with
   |true=>
    have:=st (i:Int);cases hd:decide (a∈l.args.take i)with
    |true=>rw[hd]at this;exact this
    |false=>rw[hd]at this;exact this
   |false=>
    have:=st pos;cases hd:decide (a∈l.args.take i)with
    |true=>rw[hd]at this;exact this
    |false=>rw[hd]at this;exact this
def aP7{c1 c2:bT}{L M:Nat}(E1:vB c1 M)(E2:vB c2 M)(X1:MkX c1 M)(hM:M<200000)(hL:M<L){w:List G.E}(U1:a4H c1 w)(U2:a4H c2 w){nm:G.Y}{k:Int}{f:G.T}(hf:cJ f<=M)
    (hP: ∀l x y:G.T,cJ l<=M->c1 84 [yR 3 l,yR 3 x,yR 3 y]=some [yR 3 (Q2 x y l)]) (hR: ∀l x y:G.T,cJ l<=M->c2 88 [yR 3 l,yR 3 x,yR 3 y]=some [yR 3 (Q2 x y l)]):
    Bo M (bJd c1 L w f ⟨nm,k,[],eH,eB,eB,[],0,[],0,eH⟩) (bIf c2 L w ⟨nm,k,[],eH,eB,eB,[],0,[],0,eH⟩ f):=by
 rw[bJd,aLn,bIf,aK6,E1.icP,cH,E2.icR,cH];simp only[];refine .cn _ (λ_=> .er (e:=40) (by decide) rfl rfl) λhi=>?_
 have hi:Gf f [105,109,112,108,105,101,115] 2=true:=by simpa using hi
 obtain⟨_,_,h3⟩:=qG (k:=2) hi;obtain⟨h,eh,sh⟩:=gJ (t:=f) (k:=0) (by omega)
 obtain⟨d,ed,sd⟩:=gJ (t:=f) (k:=1) (by omega)
 have ih:cI f.args (0:Int)=some h:=(bP f.args 0).trans eh;have id:cI f.args (1:Int)=some d:=(bP f.args 1).trans ed;rw[ih,id];simp only[bZ];have er:Bo M (QQ c1 L true ⟨nm,k,[],eH,eB,eB,[],0,[],0,eH⟩ h d) (QP c2 L true h d ⟨nm,k,[],eH,eB,eB,[],0,[],0,eH⟩ kX):= .er (e:=40) (by decide) rfl rfl
 have go:h.args.length=2->d.args.length=2->Bo M (QQ c1 L false ⟨nm,k,[],eH,eB,eB,[],0,[],0,eH⟩ h d) (QP c2 L false h d ⟨nm,k,[],eH,eB,eB,[],0,[],0,eH⟩ kX):=λhn dn=>by
  obtain⟨x,ex,sx⟩:=gJ (t:=h) (k:=0) (by omega)
  obtain⟨y,ey,sy⟩:=gJ (t:=h) (k:=1) (by omega)
  obtain⟨l,el,sl⟩:=gJ (t:=d) (k:=0) (by omega)
  obtain⟨u,eu,su⟩:=gJ (t:=d) (k:=1) (by omega)
  have ix:cI h.args (0:Int)=some x:=(bP h.args 0).trans ex;have iy:cI h.args (1:Int)=some y:=(bP h.args 1).trans ey;have il:cI d.args (0:Int)=some l:=(bP d.args 0).trans el;have iu:cI d.args (1:Int)=some u:=(bP d.args 1).trans eu;have a1:=jS (t:=l);have a2:=dV l.args;have er2:Bo M (aAb c1 L true ⟨nm,k,[],eH,eB,eB,[],0,[],0,eH⟩ u x y l h d) (ZU c2 L true u x y l h d ⟨nm,k,[],eH,eB,eB,[],0,[],0,eH⟩ kX):= .er (e:=40) (by decide) rfl rfl
  simp only[QQ,aLm,QP,aK5];rw[bL,bL,ix,iy,il,iu];simp only[bZ];refine .cn _ (λ_=>er2) λ_=> .cn _ (λ_=>er2) λ_=> .cn _ (λ_=>er2) λ_=> .cn _ (λ_=>er2) λ_=>?_
  rw[E1.lP,kQ,E2.lR,kQ];simp only[aAb,aLl,ZU,aK4];refine .cn _ (λ_=> .er (e:=40) (by decide) rfl rfl) λ_=>?_
  exact aP6 E1 E2 X1 hM hL (by omega) (by omega) (hP l x y (by omega)) (hR l x y (by omega)) l.args 0 L L (-1) rfl (by omega) (by omega) λz hz=>by rw[List.take_zero]at hz;cases hz
 cases h1:decide (h.kind=3)with
 |false=>
  rw[Bool.not_false,bO,bO];exact er
 |true=>
  rw[bD,bL,bL];cases h4:decide (d.kind=3)with
  |false=>
   rw[Bool.not_false,bO];cases decide ((h.args.length:Int)=2)with
   |false=>exact er
   |true=>exact er
  |true=>
   simp only[bD,bL];refine .cn _ (λ_=>er) λhn=> .cn _ (λ_=>er) λdn=>?_
   have hn:(h.args.length:Int)=2:=by simpa using hn
   have dn:(d.args.length:Int)=2:=by simpa using dn
   rw[U1.rP,cH,U2.rR,cH];refine .cn _ (λ_=>er) λ_=>?_
   rw[U1.rP,cH,U2.rR,cH];simp only[];cases OP w d.name with
   |false=>exact er
   |true=>exact go (by omega) (by omega)
end Go.TV
namespace Go.TV
open Go.AI Go.PI Go.Proofs
set_option maxRecDepth 20000
def V7{s:G.Y}{L n:Nat}:bR L (n+1) 112 [yR 1 s]=some [yR 2 (⟨2,[],[],s,[],[]⟩:G.O)]:=by
 rw[bHl];rfl
def aFt{L n M:Nat}(hM:M<200000)(hL:2*M+20<=L)(hL2:2000<=L)(hn:3*M+20<=n):vB (bR L n) M:=by
 obtain⟨n,rfl⟩:=sK n 6 (by omega)
 exact{
  vP:=λl hl=>a7z l (by omega) L (n+6) (by omega) (by omega)
  vR:=λl hl=>a4y l (by omega) L (n+6) (by omega) (by omega)
  ct:=λa s ha=>aSt (by omega) (by omega)
  wP:=λa b ha hb=>a6G (by omega) (by omega) (by omega) (by omega)
  wR:=λa b ha hb=>a6F (by omega) (by omega) (by omega) (by omega)
  icP:=λt s k=>So
  icR:=λt s k=>Sn
  lP:=λs=>Ed
  lR:=λs=>sS
  nP:=by rw[bQu,bI0,aUy,V7];rfl
  tP:=by rw[c71,bPt,aUv,V7];rfl
  cP:=λo=>by rw[bQt,bIZ,aUw,bHk];rfl
  nR:=aFn
  tR:=by rw[bQH,bI6,aUJ,sS,kQ];simp only[];rw[bOe];rfl
  cR:=λo=>by rw[bOg];rfl
  eP:=λt u ht=>MO t (by simp only[Q1];omega) u L (n+6) (by omega) (by omega)
  eR:=λt u ht=>zA t (by simp only[Q1];omega) u L (n+6) (by omega) (by omega)
  mP:=λt u ht hu=>bH3 (B:=M) (by omega) t u L (n+6) ht hu (by omega) (by omega)
  mR:=λt u ht hu=>bDX (B:=M) (M:=M+1) (by omega) (by omega) t u [] L (n+6) ht hu (λx hx=>by cases hx) (by simp only[aX];omega) (by omega) (by omega) (by omega)}
def aF4{c:bT}{L:Nat}{t:G.T}{a:List G.T}(hb:a.length<1000000000)(hc: ∀x∈a,c 74 [yR 3 x,yR 3 t]=some [yB (decide (x=t))]): ∀(l:List G.T) (k m:Nat),a.drop k=l->l.length<m->
    FB c L m (a.length:Int) a (k:Int) t=some [yB (decide (t∈l))]:=by
 intro l;induction l with
 |nil=>
  intro k m h1 h3;obtain⟨m,rfl⟩:=sK m 1 (by simp at h3;omega)
  have e1:=bW h1;rw[FB,aAC,dF (by omega: ¬k<a.length),bL];simp
 |cons x l ih=>
  intro k m h1 h3;obtain⟨m,rfl⟩:=sK m 1 (by simp at h3;omega)
  obtain⟨a1,a2,a3⟩:=bX h1;rw[FB,aAC,dT (by omega:k<a.length),bO,bP,a1,bZ,hc x (List.mem_of_getElem? a1),cH,cS (by omega)]
  simp only[];by_cases e:x=t
  .rw[bF e,bO,bF (by rw[e];exact aH ..)]
  .rw[bG e,bL,ih (k+1) m a3 (by simp at h3;omega)]
   have:decide (t∈l)=decide (t∈x::l):=decide_eq_decide.2 ⟨λh=>aG _ h,λh=>(List.mem_cons.1 h).resolve_left λq=>e q.symm⟩
   rw[this]
def aFs{L n M:Nat}(hM:M<200000)(hL:2*M+20<=L)(hL2:2000<=L)(hn:3*M+20<=n):MkX (bR L n) M:=by
 obtain⟨n,rfl⟩:=sK n 6 (by omega)
 exact{
  rg:=λf=>by rw[c77,bPp,aUq,aQL,aA0]
  rr:=λf=>by rw[bQD,aQL,aA0,aQL,aA0]
  df:=λf=>a3G f L _
  pl:=λf=>aN7 f L _ (by omega)
  pp:=λf=>aEW f L _
  pr:=λf=>a0F f L _ (by omega)
  sp:=λt ht=>aWT t L (n+6) (by omega) (by omega) (by omega)
  sr:=λl hl=>a4E (by omega) (by omega) (by omega)
  hs:=λl t hl hl2=>by
   rw[c81,bPl,aKC];exact aF4 (by omega) (λx hx=>MO x (by have:=hl x hx;simp only[Q1];omega) t L (n+5) (by have:=hl x hx;omega) (by have:=hl x hx;omega)) l 0 L rfl (by omega)}
def aFu{L n B:Nat}{w:List G.E}(hB:B<1000000)(hw:YE B w)(hL:B<L)(hL2:7000<=L)(hn:20<=n):a4H (bR L n) w:=by
 obtain⟨n,rfl⟩:=sK n 20 (by omega)
 obtain⟨L',rfl⟩: ∃q,L=q+7000:=⟨L-7000,by omega⟩
 exact{
  fP:=λf=>a3i hB hL hw
  fR:=λf=>a3h hB hL hw
  rP:=λs=>aNU hB hL hw
  rR:=λs=>aNT hB hL hw
  qP:=λs=>by rw[<-bNc L' n s,aG3]
  qR:=λs=>by rw[<-bNb L' n s,aG3]}
def aFi{W:Type}{i:Int}{r:G.U}{K:Int×G.U×Unit->Option W}:wU (some [yI i,yR 5 r]) K=K (i,r,()):=rfl
def aQY(M:Nat):RuB M kX:=⟨λt ht=>(by cases ht),Nat.zero_le _,λt ht=>(by cases ht),Nat.zero_le _,Or.inl rfl,Or.inl rfl,Nat.zero_le _⟩
def Sm(M:Nat)(x y:Rt):Prop:= ∃(r:G.U) (e:Int),x=some [yR 5 r,yI e]/\y=some [yR 5 r,yI e]/\RuB M r
def Bo.fin{c:bT}{L M:Nat}{x y:Rt}(h:Bo M x y):Sm M (wU x λ(r1:Int×G.U×Unit)=>aQG c L r1.1 r1.2.1 kX) y:=by
 obtain⟨o,h1,h2,h3⟩:=h;cases o with
 |ok r=>
  rw[show x=_ from h1,show y=_ from h2,aFi]
  exact⟨r,0,rfl,rfl,h3 r rfl⟩
 |er e=>
  obtain⟨he,r,h1⟩:=h1;rw[h1,show y=_ from h2,aFi]
  refine⟨kX,e,?_,rfl,aQY M⟩;simp only[aQG,a5I];rw[bG he];rfl
def Sm.cn{M:Nat}{x y x' y':Rt}(b:Bool)(h1:b=true->Sm M x y)(h2:b=false->Sm M x' y'):Sm M (bN b x x') (bN b y y'):=by
 cases b
 .exact h2 rfl
 .exact h1 rfl
def aFh{W:Type}{l:List G.T}{t:G.T}{K:List G.T×G.T×Unit->Option W}:fU (D:=U0.D) [.sl (.rc 3),.rc 3] (some [yS 3 l,yR 3 t]) K=K (l,t,()):=rfl
def Xy{L n M B:Nat}(hM:M<200000)(hL:2*M+20<=L)(hL2:7000<=L)(hn:3*M+30<=n){w:List G.E}(hB:B<1000000)(hBL:B<L)(hw:YE B w)(nm:G.Y)(f:G.T)(k:Int)(hf:cJ f+60<=M):
    Sm M (bR L n 5 [yS 16 w,yR 1 nm,yR 3 f,yI k]) (bR L n 6 [yS 16 w,yR 1 nm,yR 3 f,yI k]):=by
 obtain⟨n,rfl⟩:=sK n 2 (by omega)
 have E1:vB (bR L n) M:=aFt hM hL (by omega) (by omega)
 have E2:vB (bR L (n+1)) M:=aFt hM hL (by omega) (by omega)
 have X1:MkX (bR L n) M:=aFs hM hL (by omega) (by omega)
 have X2:MkX (bR L (n+1)) M:=aFs hM hL (by omega) (by omega)
 have U1:a4H (bR L n) w:=aFu hB hw hBL hL2 (by omega)
 have U2:a4H (bR L (n+1)) w:=aFu hB hw hBL hL2 (by omega)
 obtain⟨h,d,p1,p2,p3⟩:=bDb f L (n+1) (by omega) (by omega) (by omega)
 have hh:cC h<=M:=by omega
 have hd:cC [d]<=M:=by rw[nX];omega
 have bw: ∀l r:G.T,cJ l+1<=M->cJ r<=M->bR L (n+1) 44 [yR 3 l,yR 3 r]=some [yS 4 (NE l r)]:=λl r hl hr=>by
  rw[bQB];exact aWJ E1 hM (by omega) hl hr
 rw[c5,F5,a5K,c6,F6,a5H,p2,aFh,E2.vR h hh,gC,E2.vR [d] hd,gC];simp only[];have bad:(k<1∨8<k)->Sm M (aQH (bR L (n+1)) L true k w nm f kX) (some [yR 5 kX,yI (24:Int)]):=λ_=>⟨kX,24,rfl,rfl,aQY M⟩
 by_cases hk:k<1
 .rw[bF hk,bO,bG (by omega: ¬k=1),bG (by omega: ¬k=2),bG (by omega: ¬k=3),bG (by omega: ¬k=4),bG (by omega: ¬k=5),bG (by omega: ¬k=6),bG (by omega: ¬k=7),bG (by omega: ¬k=8)]
  simp only[bL];exact bad (.inl hk)
 .rw[bG hk,bL];by_cases hk8:8<k
  .rw[bF hk8,bG (by omega: ¬k=1),bG (by omega: ¬k=2),bG (by omega: ¬k=3),bG (by omega: ¬k=4),bG (by omega: ¬k=5),bG (by omega: ¬k=6),bG (by omega: ¬k=7),bG (by omega: ¬k=8)]
   simp only[bL];exact bad (.inr hk8)
  .rw[bG hk8];simp only[aQH,a5J];rw[bL,p1,aFh];simp only[];refine .cn _ (λ_=>?_) λh1=> .cn _ (λ_=>?_) λh2=> .cn _ (λ_=>?_) λh3=> .cn _ (λ_=>?_) λh4=> .cn _ (λ_=>?_) λh5=> .cn _ (λ_=>?_) λh6=>?_
   .rw[c19];obtain⟨o,g1,g2,g3⟩:=aNM (L:=L) E1 E2 hM (by omega) (R:=⟨nm,k,h,eH,eB,eB,[],0,[],0,eH⟩) (d:=d) (w:=w) (rel:=OP w) rfl (by show cJ d+cC h+40<=M;omega) bw U1.rP U2.rR
    refine Bo.fin (M:=M) ⟨o,g1,g2,λQ hQ=>?_⟩
    obtain⟨e,l,r,rfl,s1,s2⟩:=g3 Q hQ;have s3:=aNA l r (aS _);have s4:=dV h;exact⟨Eu (by show cC h<=M;omega),by show h.length<=M;omega,λt ht=>(by cases ht),Nat.zero_le _,Or.inr (by show cJ l<=M;omega),Or.inr (by show cJ r<=M;omega),by show(NE l r).length<=M;omega⟩
   .rw[c20];exact(aNs (L:=L) E1 E2 X1 X2 hM (by omega)).fin
   .rw[c21];exact(aOV (L:=L) E1 E2 hM (by omega)).fin
   .rw[c22];exact(aOC (L:=L) E1 E2 X1 X2 hM (by omega) (by omega)).fin
   .rw[c23];exact(aO4 (L:=L) E1 E2 X1 hM (by omega) (by omega)).fin
   .rw[c24];exact(aO1 (L:=L) E1 E2 U1 U2 (by omega)).fin
   .have h8:k=7∨k=8:=by
     have h1: ¬k=1:=by simpa using h1
     have h2: ¬k=2:=by simpa using h2
     have h3: ¬k=3:=by simpa using h3
     have h4: ¬k=4:=by simpa using h4
     have h5: ¬k=5:=by simpa using h5
     have h6: ¬k=6:=by simpa using h6
     omega
    refine .cn _ (λ_=>?_) λh7=>?_
    .rw[c25,bQL];have hb:=aP7 (L:=L) E1 E1 X1 hM (by omega) U1 U1 (nm:=nm) (k:=k) (f:=f) (by omega) (λl x y hl=>aYZ x y l L n (by omega) (by omega) (by omega)) (λl x y hl=>aYY x y l L n (by omega) (by omega) (by omega))
     obtain⟨r,e,g1,g2,g3⟩:=Bo.fin (c:=bR L (n+1)) (L:=L) hb;refine⟨r,e,g1,?_,g3⟩;exact(congrArg (λz=>wS z λ(r20:G.U×Int×Unit)=>some [(yR 5 r20.1:TV U0.D),yI r20.2.1]) g2).trans rfl
    .have h7: ¬k=7:=by simpa using h7
     rw[bF (by omega:k=8),bO,c26]
     exact(aOR (L:=L) E1 E2 X1 X2 hM (by omega) (by omega) (by omega)).fin
end Go.TV
