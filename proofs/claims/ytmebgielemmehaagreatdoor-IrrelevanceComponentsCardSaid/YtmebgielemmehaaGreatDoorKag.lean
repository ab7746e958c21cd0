import Derived.Test.YtmebgielemmehaaGreatDoorKad
set_option linter.unusedVariables false
set_option linter.unusedSimpArgs false
set_option linter.constructorNameAsVariable false
set_option linter.defProp false
namespace Go.TV
open Go.AI Go.PI Go.Proofs
def aLl{W:Type}{b:List G.R}{K:List G.R×Unit->Option W}:fZ (D:=U0.D) [.sl (.rc 22)] (some [yS 22 b]) K=K (b,()):=rfl
def rowsL:List G.R:=match aIc (λ_ _=>none)with
 |some l=>(match fH (D:=U0.D) [.sl (.rc 22)] l with|some r=>r.1|none=>[])
 |none=>[]
def aBI{L n:Nat}:cG L (n+1) 73 []=some [yS 22 rowsL]:=by
 rw[a3Z];rfl
def Uv:rowsL.length<1000:=by decide+kernel
def uQ(s:List UInt8):List G.R->Option Int
 |[]=>none
 |r::l=>if r.name=s then some r.arity else uQ s l
def arity(s:G.Y):Option Int:=if s.package=Bt then uQ s.name rowsL else none
def oI(o:Option Int):oB:=match o with
 |some k=>[yI k,yB true]
 |none=>[yI (0:Int),yB false]
def aFn{c:cJ}{L:Nat}{t:G.Y}{a:List G.R}(hb:a.length<1000000000): ∀(l:List G.R) (k m:Nat),a.drop k=l->l.length<m->
    Co c L m a (k:Int) t=some (oI (uQ t.name l)):=by
 intro l;induction l with
 |nil=>
  intro k m h1 h3;obtain⟨m,rfl⟩:=sK m 1 (by simp at h3;omega)
  have e1:=dJ h1;have e3:decide ((k:Int)<(a.length:Int))=false:=by simp;omega
  rw[Co,Rs,e3,bU];rfl
 |cons x l ih=>
  intro k m h1 h3;obtain⟨m,rfl⟩:=sK m 1 (by simp at h3;omega)
  obtain⟨a1,a2,a3⟩:=dL h1;have e3:decide ((k:Int)<(a.length:Int))=true:=by simp;omega
  rw[Co,Rs,e3,cC,bZ,a1,cY,dU (by omega),uQ]
  by_cases e:x.name=t.name
  .simp only[e,bM,cC,cY,bO,oI]
  .simp only[e,decide_false,bU,bN];exact ih (k+1) m a3 (by simp at h3;omega)
def aOu(s:G.Y)(L n:Nat)(hL:1000<=L):cG L (n+2) 80 [yR 1 s]=some (oI (arity s)):=by
 have hl:=Uv;rw[a3Y,aXQ,aAr];by_cases e:s.package=Bt
 .have e':decide (s.package=([108,105,115,112]:List UInt8))=true:=bF e;have ea:arity s=uQ s.name rowsL:=by simp[arity,e]
  rw[e',ea,aBI,aLl];exact aFn (a:=rowsL) (by omega) rowsL 0 L rfl (by omega)
 .have e':decide (s.package=([108,105,115,112]:List UInt8))=false:=bG e;have ea:arity s=none:=by simp[arity,e]
  rw[e',ea];rfl
end Go.TV
namespace Go.TV
open Go.AI Go.PI Go.Proofs
structure eB(s:G.Z):Prop where
 b: ∀x∈s.b,0<=x/\x<256
 p0:0<=s.pos
 p1:s.pos<=(s.b.length:Int)
 l:s.b.length<=100
def a2R(x:Rt)(a:Int):Prop:= ∃(r:Int) (s:G.Z),x=some [yI r,yR 0 s]/\0<=r/\r<a/\eB s
def lV{W:Type}{a:Int}{b:G.Z}{K:Int×G.Z×Unit->Option W}:tL (some [yI a,yR 0 b]) K=K (a,b,()):=rfl
def aXc{s:G.Z}{a:Int}{L n:Nat}(h:eB s)(h1:1<=a):a2R (cG L (n+1) 12 [yI a,yR 0 s]) a:=by
 rw[c12,a3f,aAO];cases e1:decide ((s.b.length:Int)<=s.pos)with
 |true=>exact⟨0,s,rfl,Int.le_refl _,by omega,h⟩
 |false=>
  have e2:decide (a<(1:Int))=false:=by simp;omega
  simp only[bC]at e1;rw[bU,e2,aAa,aAN,bU];obtain⟨k,hk⟩: ∃k:Nat,s.pos=(k:Int):=⟨s.pos.toNat,by have:=h.p0;omega⟩
  have hl:=h.l;have hkl:k<s.b.length:=by omega
  have e3:s.b[k]?=some s.b[k]:=aV hkl;obtain⟨q1,q2⟩:=h.b s.b[k] (List.getElem_mem hkl);generalize s.b[k]=v at e3 q1 q2;have e4:IntKind.i64.wrap (((k+1:Nat):Int)-1)=(k:Int):=by
   rw[show((k+1:Nat):Int)-1=(k:Int) by omega];exact TQ (by omega)
  obtain⟨m,rfl⟩: ∃m:Nat,v=(m:Int):=⟨v.toNat,by omega⟩
  rw[hk,dU (by omega),e4,bZ,e3,cY,show decide (a=0)=false by simp;omega]
  simp only[Bool.not_false,eH];rw[TQ (by omega)]
  exact⟨_,_,rfl,Int.tmod_nonneg _ q1,Int.tmod_lt_of_pos _ (by omega),⟨h.b,by show(0:Int)<=((k+1:Nat):Int);omega,by show((k+1:Nat):Int)<=(s.b.length:Int);omega,h.l⟩⟩
def Gz(e:G.E):List G.F:=bif decide (e.kind=3)||decide (e.kind=5)||decide (e.kind=6)||decide (e.kind=7)then e.functions else []
def aHN(e:G.E)(L n:Nat):cG L (n+1) 104 [yR 15 e]=some [yS 5 (Gz e)]:=by
 rw[aWs];simp only[aE1,OM,NW,OL,Gz];generalize decide (e.kind=3)=a,decide (e.kind=5)=b,decide (e.kind=6)=d,decide (e.kind=7)=f;cases a<;>cases b<;>cases d<;>cases f<;>rfl
def aW8(E:List G.E)(x:Rt):Prop:= ∃(i k:Int) (b:Bool),x=some [yI i,yI k,yB b]/\(b=true->∃(i' k':Nat) (e:G.E),i=i'/\k=k'/\E[i']?=some e/\k'<(Gz e).length)
def Vu{W:Type}{a:List G.F}{K:List G.F×Unit->Option W}:fZ (D:=U0.D) [.sl (.rc 5)] (some [yS 5 a]) K=K (a,()):=rfl
def aW7{E:List G.E}{f:G.Y}{c:cJ}{L:Nat}{n1:List G.E->Int->G.Y->Rt}{i:Nat}{e:G.E}(he:E[i]?=some e)(hb:(Gz e).length<1000000000)(hn:aW8 E (n1 E (IntKind.i64.wrap ((i:Int)+1)) f)):
    ∀(r:List G.F) (k m:Nat),(Gz e).drop k=r->r.length<m->aW8 E (uW c L n1 m (Gz e) (k:Int) (i:Int) E f):=by
 intro r;induction r with
 |nil=>
  intro k m h1 h2;obtain⟨m,rfl⟩:=sK m 1 (by simp at h2;omega)
  have e1:=dJ h1;have e3:decide ((k:Int)<((Gz e).length:Int))=false:=by simp;omega
  rw[uW,Gv,e3,bU];exact hn
 |cons x r ih=>
  intro k m h1 h2;obtain⟨m,rfl⟩:=sK m 1 (by simp at h2;omega)
  obtain⟨a1,a2,a3⟩:=dL h1;have e3:decide ((k:Int)<((Gz e).length:Int))=true:=by simp;omega
  rw[uW,Gv,e3,cC,bZ,a1,cY,dU (by omega)]
  cases decide (x.name=f)with
  |true=>exact⟨_,_,true,rfl,λ_=>⟨i,k,e,rfl,rfl,he,a2⟩⟩
  |false=>exact ih (k+1) m a3 (by simp at h2;omega)
def aN7{E:List G.E}{f:G.Y}{c:cJ}{L:Nat}(hb:E.length<1000000)(hf: ∀e∈E,(Gz e).length<L/\(Gz e).length<1000000)(hc: ∀e:G.E,c 104 [yR 15 e]=some [yS 5 (Gz e)]):
    ∀(r:List G.E) (k m:Nat),E.drop k=r->r.length<m->aW8 E (uX c L m E (k:Int) f):=by
 intro r;induction r with
 |nil=>
  intro k m h1 h2;obtain⟨m,rfl⟩:=sK m 1 (by simp at h2;omega)
  have e1:=dJ h1;have e3:decide ((k:Int)<(E.length:Int))=false:=by simp;omega
  rw[uX,Gw,e3,bU];exact⟨0,0,false,rfl,λh=>by cases h⟩
 |cons x r ih=>
  intro k m h1 h2;obtain⟨m,rfl⟩:=sK m 1 (by simp at h2;omega)
  obtain⟨a1,a2,a3⟩:=dL h1;have e3:decide ((k:Int)<(E.length:Int))=true:=by simp;omega
  rw[uX,Gw,e3,cC,bZ,a1,cY,hc,Vu];obtain⟨g1,g2⟩:=hf x (List.mem_of_getElem? a1);refine aW7 a1 (by omega) ?_ (Gz x) 0 L rfl g1
  rw[dU (by omega)]
  exact ih (k+1) m a3 (by simp at h2;omega)
structure aXN(E:List G.E):Prop where
 l:E.length<=1000
 f: ∀e∈E,e.functions.length<=1000
 p: ∀e∈E,∀f∈e.functions,f.params.length<=3
def aCN{e:G.E}{f:G.F}(h:f∈Gz e):f∈e.functions:=by
 unfold Gz at h;revert h;cases decide (e.kind=3)||decide (e.kind=5)||decide (e.kind=6)||decide (e.kind=7)with
 |true=>exact id
 |false=>intro h;cases h
def aCO(e:G.E):(Gz e).length<=e.functions.length:=by
 unfold Gz;cases decide (e.kind=3)||decide (e.kind=5)||decide (e.kind=6)||decide (e.kind=7)with
 |true=>exact aS _
 |false=>exact Nat.zero_le _
def aLh{W:Type}{a b:Int}{d:Bool}{K:Int×Int×Bool×Unit->Option W}:fZ (D:=U0.D) [.int .i64,.int .i64,.bool] (some [yI a,yI b,yB d]) K=K (a,b,d,()):=rfl
def aLm{W:Type}{a:G.F}{d:Bool}{K:G.F×Bool×Unit->Option W}:fZ (D:=U0.D) [.rc 5,.bool] (some [yR 5 a,yB d]) K=K (a,d,()):=rfl
def aXg{E:List G.E}(hE:aXN E)(f:G.Y){L n:Nat}(hL:2000<=L): ∃(g:G.F) (b:Bool),cG L (n+3) 81 [yS 15 E,yR 1 f]=some [yR 5 g,yB b]/\g.params.length<=3:=by
 have aVC:aW8 E (cG L (n+2) 103 [yS 15 E,yR 1 f]):=by
  show aW8 E (cG L (n+1+1) 103 _);rw[aWt,aE2,ON];have:=hE.l;exact aN7 (by omega) (λe he=>by have:=hE.f e he;have:=aCO e;omega) (λe=>aHN e L n) E 0 L rfl (by omega)
 obtain⟨i,k,b,aVC,hb⟩:=aVC;show∃(g:G.F) (b:Bool),cG L (n+2+1) 81 _=_/\_;rw[a3X,aXP,aIb,aVC,aLh];cases b with
 |false=>exact⟨_,_,rfl,Nat.zero_le _⟩
 |true=>
  obtain⟨i',k',e,rfl,rfl,h1,h2⟩:=hb rfl;have h3:(Gz e)[k']?=some (Gz e)[k']:=aV h2;simp only[bD,bU];rw[bZ,h1,cY,aHN,Vu];simp only[bZ,h3,cY];exact⟨_,_,rfl,hE.p e (List.mem_of_getElem? h1) _ (aCN (List.getElem_mem h2))⟩
def aBJ:(rowsL.all λr=>decide (0<=r.arity)&&decide (r.arity<=3))=true:=by kernel_rfl
def En: ∀(l:List G.R),(l.all λr=>decide (0<=r.arity)&&decide (r.arity<=3))=true->∀s k,uQ s l=some k->0<=k/\k<=3
 |[],_,s,k,h=>by cases h
 |r::l,h,s,k,hk=>by
  simp only[aP,aC,aD]at h;simp only[uQ]at hk;split at hk
  .simp only[aA]at hk;subst hk;exact h.1
  .exact En l h.2 s k hk
def aXr(x:Rt):Prop:= ∃(k:Nat) (b:Bool),x=some [yI (k:Int),yB b]/\k<=3
def aXq{E:List G.E}(hE:aXN E)(f:G.Y){L n:Nat}(hL:2000<=L):aXr (cG L (n+4) 61 [yS 15 E,yR 1 f]):=by
 have h55:=aOu f L (n+1) (by omega)
 show aXr (cG L (n+3+1) 61 _);rw[a30,aXR,aIh];show aXr (fZ (D:=U0.D) [.int .i64,.bool] (cG L (n+1+2) 80 [yR 1 f]) _);rw[h55];cases ha:arity f with
 |some k=>
  obtain⟨g1,g2⟩:0<=k/\k<=3:=by
   unfold arity at ha;split at ha
   .exact En rowsL aBJ _ _ ha
   .cases ha
  obtain⟨m,rfl⟩: ∃m:Nat,k=(m:Int):=⟨k.toNat,by omega⟩
  exact⟨m,true,rfl,by omega⟩
 |none=>
  simp only[oI];rw[E6,bU];obtain⟨g,b,h1,h2⟩:=aXg (n:=n) hE f hL;rw[h1,aLm];cases b with
  |false=>exact⟨0,false,rfl,by omega⟩
  |true=>exact⟨g.params.length,true,rfl,h2⟩
end Go.TV
namespace Go.TV
open Go.AI Go.PI Go.Proofs
set_option maxRecDepth 20000
def aNB{P:Program}{T:TP U0.D}{l:List (Nat×cM)}{i:Nat}{x:cM}(hx:pL l i=some x)(hs:T.sig i=some x.sig)(hb:(aCe T.orc x.sig&&Nat.ble x.sig.bx.length 100&&Bk x.sig.bx.length x.sig.bx)=true)(L n:Nat)(d:oB){y:OV}(ho:aB9 U0 T.orc x.sig d=some y):
    zF U0 T (AL P l) L (n+1) i d=some [a0F U0 y]:=by
 have hg:AL P l i=some (fP x.sk (iT P x.sig.f),rO P x.sig.f):=by simp only[AL,hx]
 simp only[zF,hs,hg,hb,aI,ho]
def Kf:cJ:=λi d=>bif Nat.beq i 140 then(match aB9 U0 orcI ii140.sig d with|some x=>some [a0F U0 x]|none=>none)else none
noncomputable def cF(L M k:Nat):cJ:=aOI Kf (aPI (L+7000) M) (L+7000) k
def aWo(L M k:Nat):cF L M k=cG (L+7000) (M+k):=FD (λn i d r h=>by
 unfold Kf at h;cases hb:Nat.beq i 140 with
 |false=>rw[hb]at h;cases h
 |true=>
  rw[hb,aI]at h;split at h
  .rename_i x hx;simp only[aA]at h;subst h;rw[aE hb];exact aNB (x:=ii140) (by kernel_rfl) (by kernel_rfl) (by kernel_rfl) _ _ d hx
  .cases h) k
def GX:List UInt8:=[117,115,101,114]
def aOv:G.O:=⟨0,[],[],⟨[],[]⟩,[],[]⟩
def tV(w:List UInt8):G.T:=⟨1,⟨GX,w⟩,aOv,[]⟩
def tA(f:G.Y)(l:List G.T):G.T:=⟨3,f,aOv,l⟩
def tC(o:G.O):G.T:=⟨2,⟨[],[]⟩,o,[]⟩
def Tw:G.O:=⟨2,[],[],⟨Bt,[110,105,108]⟩,[],[]⟩
def GA(a b:G.O):G.O:=⟨4,[],[],⟨[],[]⟩,[],[a,b]⟩
def Ew(x:Rt):Prop:= ∃o:G.O,x=some [yR 2 o]/\E3 o+Gb o<=20
def a3V(r:Rt):Bool:=match r with|some [⟨.rc 2,o⟩]=>Nat.ble (E3 o+Gb o) 20|_=>false
def qP{r:Rt}(h:a3V r=true):Ew r:=by
 unfold a3V at h;split at h
 .rename_i o;exact⟨o,rfl,bP h⟩
 .cases h
section
variable(L M:Nat)
def aYv(w:List UInt8):cF L M 60 13 [yT w]=some [yR 3 (tV w)]:=by kernel_rfl
def a00(w:List UInt8)(l:List G.T):cF L M 60 24 [yT w,yS 3 l]=some [yR 3 (tA ⟨Bt,w⟩ l)]:=by kernel_rfl
def a2O(f:G.Y)(l:List G.T):cF L M 60 34 [yR 1 f,yS 3 l]=some [yR 3 (tA f l)]:=by kernel_rfl
def a06(o:G.O):cF L M 60 49 [yR 2 o]=some [yR 3 (tC o)]:=by kernel_rfl
def aYy(w:List UInt8):cF L M 60 11 [yT w]=some [yR 1 ⟨GX,w⟩]:=by kernel_rfl
def aYZ(w:List UInt8):cF L M 60 60 [yT w]=some [yR 1 ⟨Bt,w⟩]:=by kernel_rfl
def aWm(a b:G.O):cF L M 60 78 [yR 2 a,yR 2 b]=some [yR 2 (GA a b)]:=by kernel_rfl
def aLB:cF L M 60 79 [yS 2 []]=some [yR 2 Tw]:=by kernel_rfl
def aLA(a:G.O):cF L M 60 79 [yS 2 ([a]:List G.O)]=some [yR 2 (GA a Tw)]:=by kernel_rfl
def aLz(a b:G.O):cF L M 60 79 [yS 2 ([a,b]:List G.O)]=some [yR 2 (GA a (GA b Tw))]:=by kernel_rfl
def aLy(a b d:G.O):cF L M 60 79 [yS 2 ([a,b,d]:List G.O)]=some [yR 2 (GA a (GA b (GA d Tw)))]:=by kernel_rfl
def a0M:Ew (cF L M 60 54 []):=qP (by kernel_rfl)
def a0L:Ew (cF L M 60 48 []):=qP (by kernel_rfl)
def a0N(r:Int)(h0:0<=r)(h1:r<7):Ew (cF L M 60 55 [yI (IntKind.i64.wrap (r-3))]):=by
 obtain rfl|rfl|rfl|rfl|rfl|rfl|rfl:r=0∨r=1∨r=2∨r=3∨r=4∨r=5∨r=6:=by omega
 all_goals exact qP (by kernel_rfl)
def a0P:Ew (cF L M 60 55 [yI (0:Int)]):=qP (by kernel_rfl)
def a0O:Ew (cF L M 60 55 [yI (1:Int)]):=qP (by kernel_rfl)
def aS6:Ew (cF L M 60 75 [yT ([49]:List UInt8),yT ([50]:List UInt8)]):=qP (by kernel_rfl)
def aS5:Ew (cF L M 60 75 [yT ([45,53]:List UInt8),yT ([51]:List UInt8)]):=qP (by kernel_rfl)
def aS4(y:G.Y):Ew (cF L M 60 70 [yR 1 y]):=qP (by kernel_rfl)
def a0K(w:List UInt8):Ew (cF L M 60 77 [yT w]):=qP (by kernel_rfl)
def aVy: ∃l:List (List UInt8),cF L M 60 58 []=some [⟨.sl .str,l⟩]/\l.length=25:=⟨match aIj (λ_ _=>none)with|some (⟨.sl .str,t⟩::_)=>t|_=>[],by kernel_rfl,by kernel_rfl⟩
def aS0: ∃l:List (List UInt8),cF L M 60 59 []=some [⟨.sl .str,l⟩]/\l.length=8:=⟨match aIi (λ_ _=>none)with|some (⟨.sl .str,t⟩::_)=>t|_=>[],by kernel_rfl,by kernel_rfl⟩
end
structure Lib(c:cJ):Prop where
 v: ∀w,c 13 [yT w]=some [yR 3 (tV w)]
 l: ∀w (l:List G.T),c 24 [yT w,yS 3 l]=some [yR 3 (tA ⟨Bt,w⟩ l)]
 a: ∀(f:G.Y) (l:List G.T),c 34 [yR 1 f,yS 3 l]=some [yR 3 (tA f l)]
 k: ∀o:G.O,c 49 [yR 2 o]=some [yR 3 (tC o)]
 u: ∀w,c 11 [yT w]=some [yR 1 (⟨GX,w⟩:G.Y)]
 s: ∀w,c 60 [yT w]=some [yR 1 (⟨Bt,w⟩:G.Y)]
 cn: ∀a b:G.O,c 78 [yR 2 a,yR 2 b]=some [yR 2 (GA a b)]
 l0:c 79 [yS 2 ([]:List G.O)]=some [yR 2 Tw]
 l1: ∀a:G.O,c 79 [yS 2 ([a]:List G.O)]=some [yR 2 (GA a Tw)]
 l2: ∀a b:G.O,c 79 [yS 2 ([a,b]:List G.O)]=some [yR 2 (GA a (GA b Tw))]
 l3: ∀a b d:G.O,c 79 [yS 2 ([a,b,d]:List G.O)]=some [yR 2 (GA a (GA b (GA d Tw)))]
 n:Ew (c 54 [])
 t:Ew (c 48 [])
 i: ∀r:Int,0<=r->r<7->Ew (c 55 [yI (IntKind.i64.wrap (r-3))])
 i0:Ew (c 55 [yI (0:Int)])
 i1:Ew (c 55 [yI (1:Int)])
 q1:Ew (c 75 [yT ([49]:List UInt8),yT ([50]:List UInt8)])
 q2:Ew (c 75 [yT ([45,53]:List UInt8),yT ([51]:List UInt8)])
 sy: ∀y:G.Y,Ew (c 70 [yR 1 y])
 x: ∀w,Ew (c 77 [yT w])
 hd: ∃l:List (List UInt8),c 58 []=some [⟨.sl .str,l⟩]/\l.length=25
 ow: ∃l:List (List UInt8),c 59 []=some [⟨.sl .str,l⟩]/\l.length=8
 nx: ∀(s:G.Z) (a:Int),eB s->1<=a->a2R (c 12 [yI a,yR 0 s]) a
def aLw(L M:Nat):Lib (cG (L+7000) (M+60)):=by
 have h: ∀(s:G.Z) (a:Int),eB s->1<=a->a2R (cG (L+7000) (M+60) 12 [yI a,yR 0 s]) a:=λs a h1 h2=>aXc (n:=M+59) h1 h2
 rw[<-aWo]at h⊢;exact⟨aYv L M,a00 L M,a2O L M,a06 L M,aYy L M,aYZ L M,aWm L M,aLB L M,aLA L M,aLz L M,aLy L M,a0M L M,a0L L M,a0N L M,a0P L M,a0O L M,aS6 L M,aS5 L M,aS4 L M,a0K L M,aVy L M,aS0 L M,h⟩
end Go.TV
namespace Go.TV
open Go.AI Go.PI Go.Proofs
def OSR(x:Rt)(B:Nat):Prop:= ∃(o:G.O) (s:G.Z),x=some [yR 2 o,yR 0 s]/\E3 o+Gb o<=B/\eB s
def OSR.mk{o:G.O}{s:G.Z}{B:Nat}(h:E3 o+Gb o<=B)(hs:eB s):OSR (some [yR 2 o,yR 0 s]) B:=⟨o,s,rfl,h,hs⟩
def OSR.le{x:Rt}{A B:Nat}(h:OSR x A)(hl:A<=B):OSR x B:=by obtain⟨o,s,h1,h2,h3⟩:=h;exact⟨o,s,h1,by omega,h3⟩
def DN{W:Type}{a:G.O}{K:G.O×Unit->Option W}:oK (some [yR 2 a]) K=K (a,()):=rfl
def E5{W:Type}{a:G.O}{b:G.Z}{K:G.O×G.Z×Unit->Option W}:fZ (D:=U0.D) [.rc 2,.rc 0] (some [yR 2 a,yR 0 b]) K=K (a,b,()):=rfl
def aLd{W:Type}{a:G.Y}{K:G.Y×Unit->Option W}:Bm (some [yR 1 a]) K=K (a,()):=rfl
def uE{N:Type}{l:List N}{lo hi:Int}(h0:0<=lo)(h1:lo<=hi)(h2:hi<=(l.length:Int)): ∃w,slc l lo hi=some w/\(w.length:Int)=hi-lo:=by
 unfold slc;have e1:decide (0<=lo)=true:=by simpa using h0
 have e2:decide (lo<=hi)=true:=by simpa using h1
 have e3:decide (hi<=(l.length:Int))=true:=by simpa using h2
 rw[e1,e2,e3];refine⟨_,rfl,?_⟩;rw[List.length_drop,List.length_take];omega
section
variable{c:cJ}(h:Lib c)
include h
def ZK{L:Nat}{s:G.Z}(hs:eB s){a5 a1:Int}{b:G.O}(h0:0<=a5)(h9:a5<=9):OSR (KX c L a5 a1 s b) 20:=by
 have seven: ∀K:Int×G.Z×Unit->Rt,(∀r s',0<=r->r<7->eB s'->OSR (K (r,s',())) 20)->OSR (tL (c 12 [yI (7:Int),yR 0 s]) K) 20:=λK hK=>by
  obtain⟨r,s',e,g1,g2,g3⟩:=h.nx s 7 hs (by omega)
  rw[e,lV];exact hK r s' g1 g2 g3
 have three: ∀K:Int×G.Z×Unit->Rt,(∀r s',0<=r->r<3->eB s'->OSR (K (r,s',())) 20)->OSR (tL (c 12 [yI (3:Int),yR 0 s]) K) 20:=λK hK=>by
  obtain⟨r,s',e,g1,g2,g3⟩:=h.nx s 3 hs (by omega)
  rw[e,lV];exact hK r s' g1 g2 g3
 have obj: ∀{x:Rt} {s':G.Z},Ew x->eB s'->OSR (oK x λ(r:G.O×Unit)=>some [yR 2 r.1,yR 0 s']) 20:=λhx fy=>by
  obtain⟨o,e,g⟩:=hx;rw[e,DN];exact .mk g fy
 rw[KX,RB];obtain rfl|rfl|rfl|rfl|rfl|rfl|rfl|rfl|rfl|rfl:a5=0∨a5=1∨a5=2∨a5=3∨a5=4∨a5=5∨a5=6∨a5=7∨a5=8∨a5=9:=by omega
 .exact obj h.n hs
 .exact obj h.t hs
 .exact seven _ λr s' g1 g2 g3=>obj (h.i r g1 g2) g3
 .exact seven _ λr s' g1 g2 g3=>obj (h.i r g1 g2) g3
 .exact obj h.q1 hs
 .exact obj h.q2 hs
 .refine three _ λr s' g1 g2 g3=>?_
  obtain⟨w,e1,l1⟩:=uE (l:=([97,98,99]:List UInt8)) (hi:=3) g1 (by omega) (by decide)
  obtain⟨w2,e2,l2⟩:=uE (l:=w) (lo:=0) (hi:=1) (by omega) (by omega) (by omega)
  show OSR (ob (slc ([97,98,99]:List UInt8) r 3) λv5=>ob (slc v5 (0:Int) (1:Int)) λv6=>Bm (c 11 [yT v6]) λ(r7:G.Y×Unit)=>oK (c 70 [yR 1 r7.1]) λ(r8:G.O×Unit)=>some [yR 2 r8.1,yR 0 s']) 20
  rw[e1,cY,e2,cY,h.u,aLd];exact obj (h.sy _) g3
 .refine three _ λr s' g1 g2 g3=>?_
  obtain⟨w,e1,l1⟩:=uE (l:=([112,113]:List UInt8)) (lo:=0) (hi:=r) (by omega) g1 (by show r<=2;omega)
  show OSR (ob (slc ([112,113]:List UInt8) 0 r) λv10=>oK (c 77 [yT v10]) λ(r11:G.O×Unit)=>some [yR 2 r11.1,yR 0 s']) 20
  rw[e1,cY];exact obj (h.x _) g3
 .exact obj h.i0 hs
 .exact obj h.i1 hs
def Ob0{L:Nat}{s:G.Z}(hs:eB s):OSR (aOL c L 0 s) 20:=by
 rw[aOL,RD];obtain⟨r,s',e,g1,g2,g3⟩:=h.nx s 14 hs (by omega)
 rw[e,lV];show OSR (Ez c L (decide ((9:Int)<r)) r 0 s' _) 20;rw[Ez,RC];cases e2:decide ((9:Int)<r)with
 |true=>
  simp only[aD]at e2;obtain⟨m,rfl⟩: ∃m:Nat,r=((m+8:Nat):Int):=⟨(r-8).toNat,by omega⟩
  rw[cC,show((m+8:Nat):Int)-8=(m:Int) by omega,TQ (by omega)]
  exact ZK h g3 (by omega) (by omega)
 |false=>
  simp only[bC]at e2;exact ZK h g3 g1 (by omega)
def aEV{L:Nat}(h0: ∀s,eB s->OSR (c 57 [yI (0:Int),yR 0 s]) 20){b:G.O}{r:Nat}(hr:r<=3):
    ∀(j k m:Nat) (a6:List G.O) (s:G.Z),r=k+j->a6.length=k->pX a6<=21*k->j<m->eB s->OSR (Cr c L m (r:Int) 1 (k:Int) a6 s b) 200:=by
 intro j;induction j with
 |zero=>
  intro k m a6 s h1 h2 h3 h4 hs;obtain⟨m,rfl⟩:=sK m 1 (by omega)
  have e3:decide ((k:Int)<(r:Int))=false:=by simp;omega
  rw[Cr,Ry,e3,bU]
  match a6,h2 with
  |[],_=>rw[h.l0,DN];exact .mk (by simp[Tw,E3,pX,FZ,aNL]) hs
  |[a],h2=>rw[h.l1,DN];exact .mk (by simp[pX]at h3;simp[Tw,GA,E3,pX,FZ,F5,F9];simp only[aM,aX]at h2;omega) hs
  |[a,d],h2=>rw[h.l2,DN];exact .mk (by simp[pX]at h3;simp[Tw,GA,E3,pX,FZ,F5,F9];simp only[aM,aX]at h2;omega) hs
  |[a,d,e],h2=>rw[h.l3,DN];exact .mk (by simp[pX]at h3;simp[Tw,GA,E3,pX,FZ,F5,F9];simp only[aM,aX]at h2;omega) hs
  |_::_::_::_::l,h2=>simp at h2;omega
 |succ j ih=>
  intro k m a6 s h1 h2 h3 h4 hs;obtain⟨m,rfl⟩:=sK m 1 (by omega)
  have e3:decide ((k:Int)<(r:Int))=true:=by simp;omega
  rw[Cr,Ry,e3,cC];obtain⟨o,s',e,g1,g2⟩:=h0 s hs;show OSR (fZ (D:=U0.D) [.rc 2,.rc 0] (c 57 [yI (0:Int),yR 0 s]) _) 200;rw[e,E5];have e4:Nat.ble ((a6.length+([o]:List G.O).length)*112) 1073741824=true:=by
   rw[Nat.ble_eq];simp only[aM,aX];omega
  simp only[e4,eH];rw[dU (by omega)]
  have hz: ∀l:List G.O,pX (l++ [o])=pX l+E3 o+1:=by
   intro l;induction l with
   |nil=>simp[pX]
   |cons x l ih=>simp only[aY,pX,ih];omega
  exact ih (k+1) m (a6++ [o]) s' (by omega) (by simp;omega) (by rw[hz];omega) (by omega) g2
def Ob1{L:Nat}(hL:10<=L)(h0: ∀s,eB s->OSR (c 57 [yI (0:Int),yR 0 s]) 20){s:G.Z}(hs:eB s):OSR (aOL c L 1 s) 200:=by
 rw[aOL,RD];obtain⟨r,s',e,g1,g2,g3⟩:=h.nx s 14 hs (by omega)
 rw[e,lV];show OSR (Ez c L false r 1 s' _) 200;rw[Ez,RC,bU];by_cases h9:r<=9
 .exact(ZK h g3 g1 h9).le (by omega)
 have lst: ∀b,OSR (Ey c L true 1 s' b) 200:=λb=>by
  rw[Ey,RA,cC];obtain⟨q,s2,e,k1,k2,k3⟩:=h.nx s' 4 g3 (by omega)
  rw[e,lV];obtain⟨m,rfl⟩: ∃m:Nat,q=(m:Int):=⟨q.toNat,by omega⟩
  exact aEV h h0 (by omega) m 0 L [] s2 (by omega) rfl (Nat.zero_le _) (by omega) k3
 rw[KX,RB];obtain rfl|rfl|rfl|rfl:r=10∨r=11∨r=12∨r=13:=by omega
 .exact lst _
 .exact lst _
 .exact lst _
 .have pr: ∀b,OSR (Ey c L false 1 s' b) 200:=λb=>by
   rw[Ey,RA,bU];obtain⟨o,s2,e,k1,k2⟩:=h0 s' g3;show OSR (fZ (D:=U0.D) [.rc 2,.rc 0] (c 57 [yI (0:Int),yR 0 s']) _) 200;rw[e,E5];obtain⟨o2,s3,e,k3,k4⟩:=h0 s2 k2;show OSR (fZ (D:=U0.D) [.rc 2,.rc 0] (c 57 [yI (0:Int),yR 0 s2]) _) 200;rw[e,E5,h.cn,DN];exact .mk (by simp[GA,E3,pX,F5,F9];omega) k4
  exact pr aOv
end
end Go.TV
namespace Go.TV
open Go.AI Go.PI Go.Proofs
def TSR(x:Rt)(B:Nat):Prop:= ∃(t:G.T) (s:G.Z),x=some [yR 3 t,yR 0 s]/\kA t<=B/\eB s
def TSR.mk{o:G.T}{s:G.Z}{B:Nat}(h:kA o<=B)(hs:eB s):TSR (some [yR 3 o,yR 0 s]) B:=⟨o,s,rfl,h,hs⟩
def TSR.le{x:Rt}{A B:Nat}(h:TSR x A)(hl:A<=B):TSR x B:=by obtain⟨o,s,h1,h2,h3⟩:=h;exact⟨o,s,h1,by omega,h3⟩
def jN{W:Type}{a:G.T}{K:G.T×Unit->Option W}:qB (some [yR 3 a]) K=K (a,()):=rfl
def qA{W:Type}{a:G.T}{b:G.Z}{K:G.T×G.Z×Unit->Option W}:wX (some [yR 3 a,yR 0 b]) K=K (a,b,()):=rfl
def Vo{W:Type}{a:List (List UInt8)}{K:List (List UInt8)×Unit->Option W}:fZ (D:=U0.D) [.sl .str] (some [⟨.sl .str,a⟩]) K=K (a,()):=rfl
def Lz{W:Type}{a:G.Y}{K:G.Y×Unit->Option W}:Bm (some [yR 1 a]) K=K (a,()):=rfl
def aNH(n:G.Y):XF 1 n aOv []=0:=rfl
def aNJ(n:G.Y)(l:List G.T):XF 3 n aOv l=0:=rfl
def aNI(o:G.O):XF 2 ⟨[],[]⟩ o []=Gb o:=by
 unfold XF aS2 Gb;cases decide (o.kind=0)<;>rfl
def TD:E3 aOv=2:=rfl
def aFz(w:List UInt8):kA (tV w)=6:=by simp only[tV,kA,dH,aNH,TD]
def tS(f:G.Y)(l:List G.T):kA (tA f l)=6+dH l:=by simp only[tA,kA,aNJ,TD];omega
def aQb(o:G.O):kA (tC o)=4+(E3 o+Gb o):=by simp only[tC,kA,dH,aNI];omega
def tsz'_app(l:List G.T)(t:G.T):dH (l++ [t])=dH l+kA t+1:=by
 induction l with
 |nil=>simp[dH]
 |cons x l ih=>simp only[aY,dH,ih];omega
section
variable{c:cJ}(h:Lib c)
include h
def aWV{L:Nat}{s:G.Z}(hs:eB s):TSR (aXT c L s) 6:=by
 rw[aXT,aIu];obtain⟨r,s',e,g1,g2,g3⟩:=h.nx s 3 hs (by omega)
 rw[e,lV];obtain⟨w,e1,l1⟩:=uE (l:=([120,121,122]:List UInt8)) (hi:=3) g1 (by omega) (by decide)
 obtain⟨w2,e2,l2⟩:=uE (l:=w) (lo:=0) (hi:=1) (by omega) (by omega) (by omega)
 show TSR (ob (slc ([120,121,122]:List UInt8) r 3) λv1=>ob (slc v1 (0:Int) (1:Int)) λv2=>qB (c 13 [yT v2]) λ(r3:G.T×Unit)=>some [yR 3 r3.1,yR 0 s']) 6
 rw[e1,cY,e2,cY,h.v,jN];exact .mk (by rw[aFz];omega) g3
def aET{L:Nat}{E:List G.E}{d:Int}{B:Nat}(hB:B<1000000)(hr: ∀s,eB s->TSR (c 36 [yS 15 E,yI (IntKind.i64.wrap (d-1)),yR 0 s]) B){f:G.Y}{b:G.T}{r:Nat}(h3:r<=3):
    ∀(j k m:Nat) (a:List G.T) (s:G.Z),r=k+j->a.length=k->dH a<=(B+1)*k->j<m->eB s->TSR (CB c L m (r:Int) E d (k:Int) a s f b) (6+3*(B+1)):=by
 intro j;induction j with
 |zero=>
  intro k m a s h1 h2 h4 h5 hs;obtain⟨m,rfl⟩:=sK m 1 (by omega)
  have e3:decide ((k:Int)<(r:Int))=false:=by simp;omega
  rw[CB,RJ,e3,bU,h.a,jN];refine .mk ?_ hs;have:(B+1)*k<=(B+1)*3:=Nat.mul_le_mul_left _ (by omega)
  rw[tS];omega
 |succ j ih=>
  intro k m a s h1 h2 h4 h5 hs;obtain⟨m,rfl⟩:=sK m 1 (by omega)
  have e3:decide ((k:Int)<(r:Int))=true:=by simp;omega
  obtain⟨t,s',e,g1,g2⟩:=hr s hs;rw[CB,RJ,e3,cC,e,qA];have e4:Nat.ble ((a.length+([t]:List G.T).length)*176) 1073741824=true:=by
   rw[Nat.ble_eq];simp only[aM,aX];omega
  simp only[e4,eH];rw[dU (by omega)]
  refine ih (k+1) m (a++ [t]) s' (by omega) (by simp;omega) ?_ (by omega) g2
  rw[tsz'_app,Nat.mul_add];omega
def ZF{L:Nat}(hL:10<=L){E:List G.E}{d:Int}{B:Nat}(hB:B<1000000)(hB2:204<=B)(hv: ∀s,eB s->TSR (c 37 [yR 0 s]) 6)(ho: ∀s,eB s->OSR (c 57 [yI (1:Int),yR 0 s]) 200)
    (ha: ∀f:G.Y,aXr (c 61 [yS 15 E,yR 1 f])) (hr:1<=d->∀s,eB s->TSR (c 36 [yS 15 E,yI (IntKind.i64.wrap (d-1)),yR 0 s]) B) {s:G.Z} (hs:eB s):
    TSR (aXU c L E d s) (bif decide (d<1)then 204 else 6+3*(B+1)):=by
 have lo: ∀(a7:Int) (s':G.Z) (b:G.T),a7<=3->eB s'->TSR (KY c L a7 E d s' b) 204:=λa7 s' b g1 g2=>by
  rw[KY,RM];cases e1:decide (a7<(3:Int))with
  |true=>
   obtain⟨t,s2,e,q1,q2⟩:=hv s' g2;rw[cC,e,qA];exact .mk (by show kA t<=204;omega) q2
  |false=>
   simp only[bC]at e1;have e2:decide (a7=(3:Int))=true:=by simp;omega
   obtain⟨o,s2,e,q1,q2⟩:=ho s' g2;rw[bU,e2,cC,e,E5,h.k,jN];exact .mk (by show kA (tC o)<=204;rw[aQb];omega) q2
 obtain⟨r,s',e,g1,g2,g3⟩:=h.nx s 12 hs (by omega)
 rw[aXU,aAz,e,lV];cases e1:decide (d<(1:Int))with
 |true=>
  rw[cC,aI];show TSR (EA c L (decide ((3:Int)<r)) r E d s' _) _;rw[EA,RN];cases e2:decide ((3:Int)<r)with
  |true=>
   rw[cC,show decide ((4:Int)=0)=false by decide]
   simp only[Bool.not_false,eH];exact lo _ _ _ (by have:=Int.tmod_lt_of_pos r (b:=4) (by omega);omega) g3
  |false=>
   simp only[bC]at e2;exact lo _ _ _ (by omega) g3
 |false=>
  rw[bU,aJ];simp only[bC]at e1;show TSR (EA c L false r E d s' _) _;rw[EA,RN,bU];by_cases h4:r<=3
  .exact(lo _ _ _ h4 g3).le (by omega)
  have jn: ∀(s2:G.Z) (f:G.Y) (b:G.T),eB s2->TSR (Ri c L E d s2 f b) (6+3*(B+1)):=λs2 f b k1=>by
   obtain⟨k,b2,e,k2⟩:=ha f;rw[Ri,aAy,e,E6];exact aET h hB (hr (by omega)) k2 k 0 L [] s2 (by omega) rfl (Nat.zero_le _) (by omega) k1
  have e2:decide (r<(3:Int))=false:=by simp;omega
  have e3:decide (r=(3:Int))=false:=by simp;omega
  obtain⟨lh,eh,hh⟩:=h.hd;obtain⟨lw,ew,hw⟩:=h.ow;obtain⟨q,s2,e4,k1,k2,k3⟩:=h.nx s' 4 g3 (by omega)
  rw[KY,RM,e2,bU,e3,bU,eh,Vo,ew,Vo,e4,lV];cases e5:decide (q<(3:Int))with
  |true=>
   obtain⟨i,s3,e6,k4,k5,k6⟩:=h.nx s2 (lh.length:Int) k3 (by omega)
   obtain⟨m,rfl⟩: ∃m:Nat,i=(m:Int):=⟨i.toNat,by omega⟩
   have hm:lh[m]?=some (lh[m]'(by omega)):=aV _
   simp only[cC];rw[e6,lV];simp only[bZ,hm,cY];rw[h.s,Lz];exact jn _ _ _ k6
  |false=>
   obtain⟨i,s3,e6,k4,k5,k6⟩:=h.nx s2 (lw.length:Int) k3 (by omega)
   obtain⟨m,rfl⟩: ∃m:Nat,i=(m:Int):=⟨i.toNat,by omega⟩
   have hm:lw[m]?=some (lw[m]'(by omega)):=aV _
   simp only[bU];rw[e6,lV];simp only[bZ,hm,cY];rw[h.u,Lz];exact jn _ _ _ k6
def aXe{L:Nat}{E:List G.E}{A B:Nat}(hv: ∀s,eB s->TSR (c 37 [yR 0 s]) 6)
    (h2: ∀s,eB s->TSR (c 36 [yS 15 E,yI (2:Int),yR 0 s]) A) (h1: ∀s,eB s->TSR (c 36 [yS 15 E,yI (1:Int),yR 0 s]) B) {s:G.Z} (hs:eB s):
    TSR (aXW c L E 2 s) (A+B+30):=by
 obtain⟨t,s2,e,g1,g2⟩:=h2 s hs;obtain⟨r,s3,e2,k1,k2,k3⟩:=h.nx s2 8 g2 (by omega)
 rw[aXW,aAH,e,qA,e2,lV];have key: ∀(a:Bool) (b:G.T),TSR (Rn c L a r E 2 s3 t b) (A+B+30):=λa b=>by
  rw[Rn,aAG];cases a with
  |true=>
   rw[cC,h.l,jN];exact .mk (by rw[tS];simp only[dH];omega) k3
  |false=>
   rw[bU];cases decide (r=(2:Int))with
   |true=>
    obtain⟨t2,s4,e,q1,q2⟩:=h1 s3 k3;rw[cC];show TSR (wX (c 36 [yS 15 E,yI (1:Int),yR 0 s3]) _) _;rw[e,qA];simp only[];rw[h.l,jN];simp only[];rw[h.l,jN];exact .mk (by rw[tS];simp only[dH];rw[tS];simp only[dH];omega) q2
   |false=>
    rw[bU];cases decide (r=(3:Int))with
    |true=>
     obtain⟨t2,s4,e,q1,q2⟩:=hv s3 k3;rw[cC,e,qA];simp only[];rw[h.l,jN];simp only[];rw[h.l,jN];exact .mk (by rw[tS];simp only[dH];rw[tS];simp only[dH];omega) q2
    |false=>
     rw[bU];cases decide (r=(4:Int))with
     |true=>
      obtain⟨t2,s4,e,q1,q2⟩:=h1 s3 k3;rw[cC];show TSR (wX (c 36 [yS 15 E,yI (1:Int),yR 0 s3]) _) _;rw[e,qA];simp only[];rw[h.l,jN];exact .mk (by rw[tS];simp only[dH];omega) q2
     |false=>
      rw[bU];cases decide (r=(5:Int))with
      |true=>
       obtain⟨t1,s4,e,q1,q2⟩:=hv s3 k3;rw[cC,e,qA];obtain⟨t2,s5,e,q3,q4⟩:=h1 s4 q2;show TSR (wX (c 36 [yS 15 E,yI (1:Int),yR 0 s4]) _) _;rw[e,qA];simp only[];rw[h.l,jN];simp only[];rw[h.l,jN];exact .mk (by rw[tS];simp only[dH];rw[tS];simp only[dH];omega) q4
      |false=>exact .mk (by omega) k3
 cases decide (r=(0:Int))with
 |true=>exact key _ _
 |false=>exact key _ _
end
end Go.TV
namespace Go.TV
open Go.AI Go.PI Go.Proofs
set_option maxRecDepth 20000
section
variable(L:Nat){E:List G.E}(hE:aXN E)
def zA{n:Nat}(h:60<=n):Lib (cG (L+7000) n):=by
 obtain⟨m,rfl⟩: ∃m,n=m+60:=⟨n-60,by omega⟩
 exact aLw L m
def aBq{n:Nat}(h:61<=n)(s:G.Z)(hs:eB s):TSR (cG (L+7000) n 37 [yR 0 s]) 6:=by
 obtain⟨m,rfl⟩: ∃m,n=m+1:=⟨n-1,by omega⟩
 rw[c37];exact aWV (zA L (by omega)) hs
def a0R{n:Nat}(h:61<=n)(s:G.Z)(hs:eB s):OSR (cG (L+7000) n 57 [yI (0:Int),yR 0 s]) 20:=by
 obtain⟨m,rfl⟩: ∃m,n=m+1:=⟨n-1,by omega⟩
 rw[a31];exact Ob0 (zA L (by omega)) hs
def aLo{n:Nat}(h:62<=n)(s:G.Z)(hs:eB s):OSR (cG (L+7000) n 57 [yI (1:Int),yR 0 s]) 200:=by
 obtain⟨m,rfl⟩: ∃m,n=m+1:=⟨n-1,by omega⟩
 rw[a31];exact Ob1 (zA L (by omega)) (by omega) (a0R L (by omega)) hs
include hE
def aNQ{n:Nat}(h:4<=n)(f:G.Y):aXr (cG (L+7000) n 61 [yS 15 E,yR 1 f]):=by
 obtain⟨m,rfl⟩: ∃m,n=m+4:=⟨n-4,by omega⟩
 exact aXq hE f (by omega)
def aYV{n:Nat}(h:63<=n)(s:G.Z)(hs:eB s):TSR (cG (L+7000) n 36 [yS 15 E,yI (0:Int),yR 0 s]) 204:=by
 obtain⟨m,rfl⟩: ∃m,n=m+1:=⟨n-1,by omega⟩
 rw[a2z];exact ZF (zA L (by omega)) (by omega) (B:=204) (by omega) (by omega) (aBq L (by omega)) (aLo L (by omega)) (aNQ L hE (by omega)) (λh=>by omega) hs
def aQc{n:Nat}(h:64<=n)(s:G.Z)(hs:eB s):TSR (cG (L+7000) n 36 [yS 15 E,yI (1:Int),yR 0 s]) 621:=by
 obtain⟨m,rfl⟩: ∃m,n=m+1:=⟨n-1,by omega⟩
 rw[a2z];exact ZF (zA L (by omega)) (by omega) (B:=204) (by omega) (by omega) (aBq L (by omega)) (aLo L (by omega)) (aNQ L hE (by omega)) (λ_=>aYV L hE (by omega)) hs
def aYU{n:Nat}(h:65<=n)(s:G.Z)(hs:eB s):TSR (cG (L+7000) n 36 [yS 15 E,yI (2:Int),yR 0 s]) 1872:=by
 obtain⟨m,rfl⟩: ∃m,n=m+1:=⟨n-1,by omega⟩
 rw[a2z];exact ZF (zA L (by omega)) (by omega) (B:=621) (by omega) (by omega) (aBq L (by omega)) (aLo L (by omega)) (aNQ L hE (by omega)) (λ_=>aQc L hE (by omega)) hs
def a0X{n:Nat}(h:66<=n)(s:G.Z)(hs:eB s):TSR (cG (L+7000) n 14 [yS 15 E,yI (2:Int),yR 0 s]) 2523:=by
 obtain⟨m,rfl⟩: ∃m,n=m+1:=⟨n-1,by omega⟩
 rw[c14];exact aXe (zA L (by omega)) (aBq L (by omega)) (aYU L hE (by omega)) (aQc L hE (by omega)) hs
end
def aJQ{E:List G.E}(h:aOD E=true):aXN E:=by
 simp only[aOD,Uk,aC,bJ]at h;exact⟨bP h.1.2,λe he=>bP (h.2 e he).1,λe he f hf=>bP ((h.2 e he).2 f hf)⟩
end Go.TV
namespace Go.AI
section
variable{P:Program}
def Ky(aw:FuncId)(c0:FuncId->Array Value->St->Option (Value×St))(f:FuncId)(args:Array Value)(H:St):Option (Value×St):=
 bif Nat.beq f aw then(match args.toList with
 |[]=>some (.bool true,H)
 |_=>none)else c0 f args H
def Xu{w0:W0}{aw:FuncId}{c0:FuncId->Array Value->St->Option (Value×St)}(h0:CallOK w0 P c0)
    (ha: ∀w,Kept w0.toWorld w->(∃fn c,P.funcs[aw]?=some fn/\fn.body=some c/\(fn.name== "runtime.NumGoroutine")=false)/\Calls P aw #[] w λe w'=>e= .returned (.bool true)/\Kept w w'):CallOK w0 P (Ky aw c0):=by
 intro f args args' H H' w Y r h ρ hargs;unfold Ky at h;cases hf:Nat.beq f aw with
 |false=>rw[hf]at h;exact h0 f args args' H H' w Y r h ρ hargs
 |true=>
  rw[hf,aI]at h;rw[aE hf];split at h
  .rename_i he;simp only[aA,aB]at h;obtain⟨rfl,rfl⟩:=h;rw[he]at hargs;have q3:args'= #[]:=by rw[<-Array.toArray_toList (xs:=args'),hargs.nil_inv]
   subst q3;obtain⟨g1,g2⟩:=ha w ρ.kept.toKept;exact⟨g1,g2.mono λe w' ⟨h5,h6⟩=>⟨Y,_,h5,.same _ rfl,ρ.keep h6,.refl _ _,aS _⟩⟩
  .cases h
end
end Go.AI
namespace Go.PI
open Go.AI
def Cb(aw:FuncId)(pc:fI):fI:=λf args p=>
 bif Nat.beq f aw then(match args with
 |[]=>some (.v (.bool true),false,p)
 |_=>none)else pc f args p
def S5{aw:FuncId}{pc:fI}{ac:FuncId->Array Value->St->Option (Value×St)}(h0:jD pc ac):jD (Cb aw pc) (Ky aw ac):=by
 intro g args p v own p' h J I H us M r ho;unfold Cb at h;unfold Ky;cases hf:Nat.beq g aw with
 |false=>rw[hf]at h;exact h0 g args p v own p' h J I H us M r ho
 |true=>
  rw[hf,aI]at h;simp only[aI];split at h
  .simp only[aA,aB]at h;obtain⟨rfl,rfl,rfl⟩:=h;have hu:us.toList=[]:=List.length_eq_zero_iff.1 (by have:=r.1;simpa using this.symm)
   rw[hu];exact⟨_,H,J,I,rfl,R.v _ rfl,λh=>(by cases h),M,Adv.refl J I p H,λj _ h=>h⟩
  .cases h
end Go.PI
namespace Go.TV
open Go.AI Go.PI
section
variable{U:gT}{T:TP U.D}
def a4f(aw:FuncId):Dj:=⟨aw,[],[],[],[.bool],false⟩
def MD(T:TP U.D)(aw:FuncId)(tc:kX U.D):kX U.D:=λi d=>match T.sig i with
 |some s=>bif Nat.beq s.f aw then(match d with
  |[]=>some [⟨.bool,true⟩]
  |_=>none)else tc i d
 |none=>none
def S4{aw:FuncId}{tc:kX U.D}{pc:fI}(h0:CallOK U T tc pc)(hs: ∀i s,T.sig i=some s->s.f=aw->s=a4f aw):CallOK U T (MD T aw tc) (Cb aw pc):=by
 intro i s d out h1 h p cc args S0 M0 hin;unfold MD at h;rw[h1]at h;simp only at h;unfold Cb;cases hf:Nat.beq s.f aw with
 |false=>rw[hf]at h;exact h0 i s d out h1 h p cc args S0 M0 hin
 |true=>
  rw[hf,aI]at h;have e:=hs i s h1 (aE hf);subst e;split at h
  .simp only[aA]at h;subst h;have hl:args=[]:=List.length_eq_zero_iff.1 hin.len;subst hl;refine⟨.v (.bool true),false,p,rfl,?_⟩;exact⟨⟨eU _,bW _ _⟩,⟨[],rfl,λj x hj=>(by cases hj)⟩,rfl,λ_ _ _=>rfl,λ_ _ _=>rfl,λid h=> .inl h,λid h=>h,λid h=> .inl h⟩
  .cases h
end
end Go.TV
namespace Go.AI
def aA0:mX:={wr:=false,tip:=false,z:=1,grp:=none}
def qH(l:List Nat):List Value:=l.map λ(x:Nat)=> .int .i64 (x:Int)
def aFB(b:Nat):List (List Nat)->List Value
 |[]=>[]
 |g::gs=> .slice (some ⟨b,0,none⟩) g.length (g.length+1)::aFB (b+1) gs
def Lu(b:Nat):List (List Nat)->St->St
 |[],H=>H
 |g::gs,H=>Lu (b+1) gs (H.put b (.cells (qH g) aA0))
def aEq(b:Nat):List (List Nat)->Value
 |[]=> .slice none 0 0
 |g::gs=> .slice (some ⟨b,0,none⟩) (gs.length+1) (gs.length+2)
def kJ(H:St)(gs:List (List Nat)):St:=(Lu (H.next+1) gs {H with next:=H.next+1+gs.length}).put H.next (.cells (aFB (H.next+1) gs) aA0)
def A4: ∀(gs:List (List Nat)) (b:Nat) (H:St) (k:Nat),(Lu b gs H).get k=match(bif Nat.ble b k then gs[k-b]? else none)with|some g=>some (.cells (qH g) aA0)|none=>H.get k:=by
 intro gs;induction gs with
 |nil=>intro b H k;cases Nat.ble b k<;>rfl
 |cons g gs ih=>
  intro b H k;rw[Lu,ih];by_cases h1:b+1<=k
  .have e1:Nat.ble (b+1) k=true:=Nat.ble_eq_true_of_le h1;have e2:Nat.ble b k=true:=Nat.ble_eq_true_of_le (by omega)
   rw[e1,e2,aI,aI,show k-b=(k-(b+1))+1 by omega,aT,St.get_put,bH (by omega)]
  .have e1:Nat.ble (b+1) k=false:=by rw[<-Bool.not_eq_true,Nat.ble_eq];exact h1
   rw[e1,aJ,St.get_put];by_cases h2:k=b
   .subst h2;rw[bI rfl,Nat.ble_eq_true_of_le (aS _),aI,Nat.sub_self,aU]
   .have e2:Nat.ble b k=false:=by rw[<-Bool.not_eq_true,Nat.ble_eq];omega
    rw[bH h2,e2,aJ]
def DF: ∀(gs:List (List Nat)) (b:Nat) (H:St),(Lu b gs H).next=H.next/\(Lu b gs H).vers=H.vers:=by
 intro gs;induction gs with
 |nil=>intro b H;exact⟨rfl,rfl⟩
 |cons g gs ih=>intro b H;rw[Lu];exact ih _ _
def mG(H:St)(gs:List (List Nat)):(kJ H gs).next=H.next+1+gs.length:=(DF gs _ _).1
def pO(H:St)(gs:List (List Nat)):(kJ H gs).vers=H.vers:=(DF gs _ _).2
def jY(H:St)(gs:List (List Nat))(m:mX):(kJ H gs).good m=H.good m:=by
 simp only[St.good,St.ver,pO]
def eY{H:St}{gs:List (List Nat)}{k:Nat}(h:k<H.next):(kJ H gs).get k=H.get k:=by
 unfold kJ;rw[St.get_put,bH (by omega),A4]
 have e1:Nat.ble (H.next+1) k=false:=by rw[<-Bool.not_eq_true,Nat.ble_eq];omega
 rw[e1,aJ];rfl
def sI{H:St}{gs:List (List Nat)}:(kJ H gs).get H.next=some (.cells (aFB (H.next+1) gs) aA0):=by
 unfold kJ;rw[St.get_put,bI rfl]
def Av{H:St}{gs:List (List Nat)}{j:Nat}{g:List Nat}(h:gs[j]?=some g):(kJ H gs).get (H.next+1+j)=some (.cells (qH g) aA0):=by
 unfold kJ;rw[St.get_put,bH (by omega),A4,Nat.ble_eq_true_of_le (by omega),aI,show H.next+1+j-(H.next+1)=j by omega,h]
def B8{H:St}{gs:List (List Nat)}{k:Nat}(h:H.next+1+gs.length<=k):(kJ H gs).get k=H.get k:=by
 unfold kJ;rw[St.get_put,bH (by omega),A4,Nat.ble_eq_true_of_le (by omega),aI,List.getElem?_eq_none (by omega)];rfl
def Ll: ∀(gs:List (List Nat)) (b j:Nat) (g:List Nat),gs[j]?=some g->(aFB b gs)[j]?=some (.slice (some ⟨b+j,0,none⟩) g.length (g.length+1))
 |[],b,j,g,h=>by cases j<;>cases h
 |x::gs,b,0,g,h=>by cases h;rfl
 |x::gs,b,j+1,g,h=>by
  rw[aFB,aT,Ll gs (b+1) j g (by simpa using h),show b+1+j=b+(j+1) by omega]
def EM: ∀(gs:List (List Nat)) (b:Nat),(aFB b gs).length=gs.length
 |[],b=>rfl
 |g::gs,b=>by rw[aFB,aM,EM gs,aM]
structure aAe(w1 w2:World)(g:List Nat)(q:Place):Prop where
 new:w1.heap.size<=q.b
 lt:q.b<w2.heap.size
 z:q.z=1
 row: ∃C t fr,w2.heap[q.b]?=some (.cells C t fr)/\∀(i x:Nat),g[i]?=some x->C[q.o+i]?=some (.int .i64 (x:Int))
structure aN8(w1 w2:World)(gs:List (List Nat))(p:Place):Prop where
 new:w1.heap.size<=p.b
 lt:p.b<w2.heap.size
 z:p.z=1
 row: ∃C t fr,w2.heap[p.b]?=some (.cells C t fr)/\∀(j:Nat) (g:List Nat),gs[j]?=some g->∃(q:Place) (cap:Nat),C[p.o+j]?=some (.slice (some ⟨q.b,q.o,none⟩) g.length cap)/\g.length<=cap/\q.o+cap*q.z<=q.e/\aAe w1 w2 g q
def aXf(w1 w2:World)(gs:List (List Nat))(v:Value):Prop:=
 (gs=[]/\v= .slice none 0 0)∨(gs≠ []/\∃(p:Place) (cap:Nat),v= .slice (some ⟨p.b,p.o,none⟩) gs.length cap/\gs.length<=cap/\p.o+cap*p.z<=p.e/\aN8 w1 w2 gs p)
def EW{w1 w2:World}{C:Array Value}{o:Nat}: ∀(gs:List (List Nat)) (b:Nat),(∀(j:Nat) (g:List Nat),gs[j]?=some g->∃(q:Place) (cap:Nat),C[o+(b+j)]?=some (.slice (some ⟨q.b,q.o,none⟩) g.length cap)/\g.length<=cap/\q.o+cap*q.z<=q.e/\aAe w1 w2 g q)->
    ∃ps:List Place,ps.length=gs.length/\∀(j:Nat) (g:List Nat),gs[j]?=some g->∃(q:Place) (cap:Nat),ps[j]?=some q/\C[o+(b+j)]?=some (.slice (some ⟨q.b,q.o,none⟩) g.length cap)/\g.length<=cap/\q.o+cap*q.z<=q.e/\aAe w1 w2 g q:=by
 intro gs;induction gs with
 |nil=>intro b _;exact⟨[],rfl,λj g h=>by cases j<;>cases h⟩
 |cons g gs ih=>
  intro b h;obtain⟨q,cap,h1⟩:=h 0 g rfl;obtain⟨ps,h2,h3⟩:=ih (b+1) λj x hx=>by
   have:=h (j+1) x (by simpa using hx)
   rwa [show b+(j+1)=b+1+j by omega]at this
  refine⟨q::ps,by simp[h2],λj x hx=>?_⟩
  cases j with
  |zero=>cases hx;exact⟨q,cap,rfl,h1⟩
  |succ j=>
   obtain⟨q',gk,e,h4⟩:=h3 j x (by simpa using hx)
   refine⟨q',gk,by simpa using e,?_⟩
   rwa [show b+(j+1)=b+1+j by omega]
def qQ(Y:Mp)(b:Nat)(p:Place)(ps:List Place):Mp:=λk=>if k=b then some p else if b<k then ps[k-(b+1)]? else Y k
section
variable{w0:W0}{P:Program}{Y:Mp}{H:St}{w1 w2:World}
def Xn{p:Place}{ps:List Place}{b:Nat}(h: ∀k,b<=k->Y k=none):Ext b Y (qQ Y b p ps):=by
 refine⟨λk q hk=>?_,λk hk=>?_⟩
 .have hb:k<b:=by
   rcases Nat.lt_or_ge k b with h1|h1
   .exact h1
   .rw[h k h1]at hk;cases hk
  unfold qQ;rw[bH (by omega),bH (by omega)];exact hk
 .unfold qQ;rw[bH (by omega),bH (by omega)]
def Sim.canon(ρ:Sim w0 P Y H w1)(K:Kept w1 w2){gs:List (List Nat)}{v:Value}(h:aXf w1 w2 gs v):
    ∃Y',VR Y' (aEq H.next gs) v/\Sim w0 P Y' (kJ H gs) w2/\Ext H.next Y Y':=by
 have Z2:=ρ.keep K;rcases h with⟨rfl,rfl⟩|⟨bn,p,cap,rfl,fc,hpe,hO⟩
 ·
  refine⟨Y,.same _ rfl,?_,.refl _ _⟩;have hold: ∀{k q},Y k=some q->(kJ H []).get k=H.get k:=by
   intro k q hk;refine eY ?_;rcases Nat.lt_or_ge k H.next with h1|h1
   .exact h1
   .rw[ρ.dom k h1]at hk;cases hk
  refine⟨Z2.kept,λk hk=>ρ.dom k (by rw[mG]at hk;simp at hk;omega),ρ.glob,?_,?_,?_,?_,?_,?_,?_⟩
  .intro k q cs m h1 h2 h3;rw[hold h1]at h2;rw[jY]at h3;exact Z2.row k q cs m h1 h2 h3
  .intro k q es h1 h2;rw[hold h1]at h2;exact Z2.map k q es h1 h2
  .intro i j q r cs ds m n bj h1 h2 h3 h4 h5 h6;rw[hold h1]at h3;rw[hold h2]at h4;rw[jY]at h5 h6;exact Z2.off i j q r cs ds m n bj h1 h2 h3 h4 h5 h6
  .intro i j q r cs ds m n bj h1 h2 h3 h4 h5 h6;rw[hold h1]at h3;rw[hold h2]at h4;rw[jY]at h5 h6;exact Z2.tip i j q r cs ds m n bj h1 h2 h3 h4 h5 h6
  .intro i j q r es fs bj h1 h2 h3 h4;rw[hold h1]at h3;rw[hold h2]at h4;exact Z2.maps i j q r es fs bj h1 h2 h3 h4
  .intro k cs m g x h1 h2;have e:(kJ H []).ver g=H.ver g:=by simp only[St.ver,pO]
   rw[e];by_cases hk:k=H.next
   .subst hk;rw[sI]at h1;cases h1;cases h2
   .refine ρ.vers k cs m g x ?_ h2;rw[<-h1];rcases Nat.lt_or_ge k H.next with h3|h3
    .rw[eY h3]
    .rw[B8 (by simp;omega)]
  .intro i j q r cs ds m n bj h1 h2 h3 h4 h5 h6;rw[hold h1]at h3;rw[hold h2]at h4;rw[jY]at h5 h6;exact Z2.lim i j q r cs ds m n bj h1 h2 h3 h4 h5 h6
 .obtain⟨o1,o2,o3,C,t,fr,o4,o5⟩:=hO;obtain⟨ps,jo,hq⟩:=EW (w1:=w1) (w2:=w2) (C:=C) (o:=p.o) gs 0 (by simpa using o5)
  have hE:Ext H.next Y (qQ Y H.next p ps):=Xn ρ.dom
  have hM: ∀k q,Y k=some q->qQ Y H.next p ps k=some q:=hE.1
  have bh: ∀{k q},Y k=some q->k<H.next:=by
   intro k q hk;rcases Nat.lt_or_ge k H.next with h1|h1
   .exact h1
   .rw[ρ.dom k h1]at hk;cases hk
  have hin: ∀{j:Nat} {q:Place},ps[j]?=some q->qQ Y H.next p ps (H.next+1+j)=some q:=by
   intro j q h1;unfold qQ;rw[bH (by omega),bI (by omega),show H.next+1+j-(H.next+1)=j by omega];exact h1
  have hout:qQ Y H.next p ps H.next=some p:=by unfold qQ;rw[bI rfl]
  have lq: ∀{k q},qQ Y H.next p ps k=some q->(k<H.next/\Y k=some q)∨(w1.heap.size<=q.b/\q.b<w2.heap.size/\(∃cs,(kJ H gs).get k=some (.cells cs aA0))/\H.next<=k):=by
   intro k q hk;unfold qQ at hk;by_cases h1:k=H.next
   .rw[bI h1]at hk;cases hk;subst h1;exact .inr ⟨o1,o2,⟨_,sI⟩,aS _⟩
   .rw[bH h1]at hk;by_cases h2:H.next<k
    .rw[bI h2]at hk;have hj:k-(H.next+1)<gs.length:=by
      rcases Nat.lt_or_ge (k-(H.next+1)) ps.length with h3|h3
      .omega
      .rw[List.getElem?_eq_none h3]at hk;cases hk
     obtain⟨q',gk,e1,e2,e3,e4,e5⟩:=hq _ _ (aV hj);rw[hk]at e1;cases e1;have:=Av (H:=H) (aV hj);rw[show H.next+1+(k-(H.next+1))=k by omega]at this
     exact .inr ⟨e5.new,e5.lt,⟨_,this⟩,by omega⟩
    .rw[bH h2]at hk;exact .inl ⟨by omega,hk⟩
  have hofb: ∀{k q},Y k=some q->q.b<w1.heap.size:=λhk=>ρ.kept.bnd _ _ hk
  have bu: ∀{k q cs m},qQ Y H.next p ps k=some q->(kJ H gs).get k=some (.cells cs m)->(m.wr=true∨m.tip=true)->k<H.next/\Y k=some q/\H.get k=some (.cells cs m):=by
   intro k q cs m h1 h2 h3;rcases lq h1 with⟨h4,h5⟩|⟨_,_,⟨ds,h5⟩,_⟩
   .exact⟨h4,h5,by rw[<-h2,eY h4]⟩
   .rw[h5]at h2;cases h2;rcases h3 with h3|h3<;>cases h3
  have pm: ∀{i q j r},Y i=some q->qQ Y H.next p ps j=some r->¬(j<H.next)->q.b≠r.b:=by
   intro i q j r h1 h2 h3 h4;rcases lq h2 with⟨h5,_⟩|⟨h5,_⟩
   .exact h3 h5
   .have:=hofb h1;omega
  have hold2: ∀{k q},qQ Y H.next p ps k=some q->k<H.next->Y k=some q:=by
   intro k q h1 h2;rw[hE.2 k h2]at h1;exact h1
  refine⟨qQ Y H.next p ps,?_,?_,hE⟩
  .have hc:aEq H.next gs= .slice (some ⟨H.next,0,none⟩) gs.length (gs.length+1):=by cases gs with|nil=>exact absurd rfl bn|cons g gs=>rfl
   rw[hc];exact .slc H.next 0 gs.length (gs.length+1) cap p hout (λh=>by omega) fc (.inl (by simpa using hpe))
  refine⟨⟨Z2.kept.toKept,λk o hk=>⟨(Z2.kept.oth k o hk).1,λid q hid=>?_⟩,λid q hid=>?_⟩,λk hk=>?_,λg hg=>?_,?_,?_,?_,?_,?_,?_,?_⟩
  .rcases lq hid with⟨_,h2⟩|⟨h2,_⟩
   .exact(ρ.kept.oth k o hk).2 id q h2
   .have:=mE (ρ.kept.oth k o hk).1;omega
  .rcases lq hid with⟨_,h2⟩|⟨_,h2,_⟩
   .have:=hofb h2;have:=K.size;omega
   .exact h2
  .rw[mG]at hk;unfold qQ;rw[bH (by omega),bI (by omega),List.getElem?_eq_none (by omega)]
  .obtain⟨q,h1,h2⟩:=ρ.glob g hg;exact⟨q,hM _ _ h1,h2⟩
  .intro k q cs m h1 h2 h3;rw[jY]at h3;rcases Nat.lt_or_ge k H.next with hk|hk
   .have h4:=hold2 h1 hk;rw[eY hk]at h2;obtain⟨⟨C',t',qu,r1,r2,r3⟩,r4,r5,r6,r7⟩:=Z2.row k q cs m h4 h2 h3;exact⟨⟨C',t',qu,r1,λi x hx=>by obtain⟨u,h5,h6⟩:=r2 i x hx;exact⟨u,h5,h6.mono' hM⟩,r3⟩,r4,r5,r6,r7⟩
   .by_cases e:k=H.next
    .subst e;rw[hout]at h1;cases h1;rw[sI]at h2;cases h2;refine⟨⟨C,t,fr,o4,λi x hx=>?_,(λh=>by cases h)⟩,(λh=>by cases h),(λh=>by cases h),o3,λh=>by cases h⟩
     have hi:i<gs.length:=by
      rcases Nat.lt_or_ge i gs.length with h4|h4
      .exact h4
      .rw[List.getElem?_eq_none (by rw[EM];exact h4)]at hx;cases hx
     obtain⟨q',gk,e1,e2,e3,e4,e5⟩:=hq _ _ (aV hi);rw[Ll gs _ i _ (aV hi)]at hx;cases hx;exact⟨_,by simpa using e2,by
      have:=VR.slc (Y:=qQ Y H.next p ps) (H.next+1+i) 0 (gs[i]'hi).length ((gs[i]'hi).length+1) gk q' (hin e1) (λh=>by omega) e3 (.inl (by simpa using e4))
      simpa using this⟩
    .have hj:k-(H.next+1)<gs.length:=by
      rcases Nat.lt_or_ge (k-(H.next+1)) gs.length with h4|h4
      .exact h4
      .unfold qQ at h1;rw[bH e,bI (by omega),List.getElem?_eq_none (by omega)]at h1;cases h1
     obtain⟨q',gk,e1,e2,e3,e4,e5⟩:=hq _ _ (aV hj);have po:=hin e1;have hc:=Av (H:=H) (aV hj);rw[show H.next+1+(k-(H.next+1))=k by omega]at po hc
     rw[po]at h1;cases h1;rw[hc]at h2;cases h2;obtain⟨C',t',qu,r1,r2⟩:=e5.row;refine⟨⟨C',t',qu,r1,λi x hx=>?_,(λh=>by cases h)⟩,(λh=>by cases h),(λh=>by cases h),e5.z,λh=>by cases h⟩
     unfold qH at hx;rw[List.getElem?_map,aF]at hx;obtain⟨y,hy,rfl⟩:=hx;exact⟨_,r2 i y hy,.same _ rfl⟩
  .intro k q es h1 h2;rcases Nat.lt_or_ge k H.next with hk|hk
   .rw[eY hk]at h2;obtain⟨⟨ES,cl,r1,r2,r3⟩,r4⟩:=Z2.map k q es (hold2 h1 hk) h2;exact⟨⟨ES,cl,r1,r2.mono' hM,r3.mono' hM⟩,r4⟩
   .rcases lq h1 with⟨h5,_⟩|⟨_,_,⟨cs,h5⟩,_⟩
    .omega
    .rw[h5]at h2;cases h2
  .intro i j q r cs ds m n bj h1 h2 h3 h4 h5 h6 hw hs;obtain⟨g1,g2,g3⟩:=bu h1 h3 (.inl hw);by_cases hj:j<H.next
   .rw[eY hj]at h4;rw[jY]at h5 h6;exact Z2.off i j q r cs ds m n bj g2 (hold2 h2 hj) g3 h4 h5 h6 hw hs
   .exact λe=>absurd e (pm g2 h2 hj)
  .intro i j q r cs ds m n bj h1 h2 h3 h4 h5 h6 hw;obtain⟨g1,g2,g3⟩:=bu h1 h3 (.inr hw);by_cases hj:j<H.next
   .rw[eY hj]at h4;rw[jY]at h5 h6;exact Z2.tip i j q r cs ds m n bj g2 (hold2 h2 hj) g3 h4 h5 h6 hw
   .exact⟨λe=>absurd e (pm g2 h2 hj),λ_ e=>absurd e (pm g2 h2 hj)⟩
  .intro i j q r es fs bj h1 h2 h3 h4;have hh: ∀{k q es},qQ Y H.next p ps k=some q->(kJ H gs).get k=some (.map es)->k<H.next:=by
    intro k q es h5 h6;rcases lq h5 with⟨h7,_⟩|⟨_,_,⟨cs,h7⟩,_⟩
    .exact h7
    .rw[h7]at h6;cases h6
   have hi:=hh h1 h3;have hj:=hh h2 h4;rw[eY hi]at h3;rw[eY hj]at h4;exact Z2.maps i j q r es fs bj (hold2 h1 hi) (hold2 h2 hj) h3 h4
  .intro k cs m g x h1 h2;have e:(kJ H gs).ver g=H.ver g:=by simp only[St.ver,pO]
   rw[e];by_cases hk:k=H.next
   .subst hk;rw[sI]at h1;cases h1;cases h2
   .rcases Nat.lt_or_ge k H.next with h3|h3
    .rw[eY h3]at h1;exact ρ.vers k cs m g x h1 h2
    .rcases Nat.lt_or_ge k (H.next+1+gs.length)with h4|h4
     .have hj:k-(H.next+1)<gs.length:=by omega
      have:=Av (H:=H) (aV hj);rw[show H.next+1+(k-(H.next+1))=k by omega]at this
      rw[this]at h1;cases h1;cases h2
     .rw[B8 h4]at h1;exact ρ.vers k cs m g x h1 h2
  .intro i j q r cs ds m n bj h1 h2 h3 h4 h5 h6 hw;obtain⟨g1,g2,g3⟩:=bu h1 h3 (.inr hw);by_cases hj:j<H.next
   .rw[eY hj]at h4;rw[jY]at h5 h6;exact Z2.lim i j q r cs ds m n bj g2 (hold2 h2 hj) g3 h4 h5 h6 hw
   .exact λe=>absurd e (pm g2 h2 hj)
def aEW(H:St)(u:Value)(gs:List (List Nat)):Prop:=
 (gs=[]/\u= .slice none 0 0)∨(gs≠ []/\∃o k cs m,u= .slice (some ⟨o,0,none⟩) gs.length k/\H.row o=some (cs,m)/\m.wr=true/\m.z=1/\
  ∀(j:Nat) (g:List Nat),gs[j]?=some g->∃i ki mi,cs[j]?=some (.slice (some ⟨i,0,none⟩) g.length ki)/\H.row i=some (qH g,mi)/\mi.wr=true/\mi.z=1)
def aCA{w1 w2:World}{Y:Mp}{H:St}{u v:Value}{gs:List (List Nat)}(ρ:Sim (W0.of w1) P Y H w2)(h:aEW H u gs)(hv:VR Y u v):aXf w1 w2 gs v:=by
 rcases h with⟨rfl,rfl⟩|⟨bn,o,k,cs,m,rfl,h1,h2,h3,h4⟩
 .left;refine⟨rfl,?_⟩;cases hv;rfl
 .right;refine⟨bn,?_⟩;cases hv with
  |same _ h=>cases h
  |slc _ _ _ _ cap p hp hc hl he=>
   obtain⟨hg,bf⟩:=St.row_some h1;obtain⟨⟨C,t,fr,r1,r2,_⟩,r4,_,r6,_⟩:=ρ.row o p cs m hp hg bf;have hz:p.z=1:=r6.trans h3;refine⟨p,cap,rfl,hl,?_,⟨r4 h2,mE r1,hz,C,t,fr,r1,λj g hj=>?_⟩⟩
   .rcases he with he|he
    .simpa using he
    .omega
   .obtain⟨i,ki,mi,e1,e2,e3,e4⟩:=h4 j g hj;obtain⟨x,x1,x2⟩:=r2 j _ e1;cases x2 with
    |same _ h=>cases h
    |slc _ _ _ _ gk q hq _ dw dz=>
     obtain⟨bp,si⟩:=St.row_some e2;obtain⟨⟨C',t',qu,s1,s2,_⟩,s4,_,s6,_⟩:=ρ.row i q _ mi hq bp si;have ln:q.z=1:=s6.trans e4;refine⟨q,gk,by simpa using x1,dw,?_,⟨s4 e3,mE s1,ln,C',t',qu,s1,λn y hy=>?_⟩⟩
     .rcases dz with dz|dz
      .simpa using dz
      .omega
     .obtain⟨x,y1,y2⟩:=s2 n (.int .i64 (y:Int)) (by unfold qH;rw[List.getElem?_map,hy];rfl)
      cases y2;exact y1
end
end Go.AI
namespace Go.Ic
open Go.AI
def mg(a b:Nat)(l:List Nat):List Nat:=l.map λx=>if x=b then a else x
def at0(l:List Nat)(i:Nat):Nat:=l[i]?.getD 0
def stp(s:Bool)(i k:Nat)(l:List Nat):List Nat:=if s then mg (min (at0 l i) (at0 l k)) (max (at0 l i) (at0 l k)) l else l
def inn(s:Nat->Nat->Bool)(i:Nat):Nat->Nat->List Nat->List Nat
 |0,_,l=>l
 |j+1,k,l=>inn s i j (k+1) (stp (s i k) i k l)
def outr(s:Nat->Nat->Bool):Nat->Nat->List Nat->List Nat
 |0,_,l=>l
 |j+1,i,l=>outr s j (i+1) (inn s i i 0 l)
def lab(s:Nat->Nat->Bool)(n:Nat):List Nat:=outr s n 0 (List.range n)
def JL(l:List Nat):Prop:= ∀(j f:Nat),l[j]?=some f->f<=j/\l[f]?=some f
def VT{a b:Nat}{l:List Nat}{j f:Nat}:(mg a b l)[j]?=some f↔∃x,l[j]?=some x/\f=if x=b then a else x:=by
 unfold mg;rw[List.getElem?_map,aF];exact⟨λ⟨x,h1,h2⟩=>⟨x,h1,h2.symm⟩,λ⟨x,h1,h2⟩=>⟨x,h1,h2.symm⟩⟩
def mg_len(a b:Nat)(l:List Nat):(mg a b l).length=l.length:=List.length_map ..
def mg_same(a:Nat)(l:List Nat):mg a a l=l:=by
 unfold mg
 conv=>rhs;rw[<-List.map_id l]
 refine List.map_congr_left λx _=>?_
 by_cases h:x=a<;>simp[h]
def JL.mg{l:List Nat}(h:JL l){a b:Nat}(ha:l[a]?=some a)(hb:l[b]?=some b)(hab:a<=b):JL (mg a b l):=by
 intro j f hj;obtain⟨x,h1,rfl⟩:=VT.1 hj;obtain⟨h2,h3⟩:=h j x h1;by_cases e:x=b
 .rw[bI e];exact⟨by omega,VT.2 ⟨a,ha,by split<;>simp_all⟩⟩
 .rw[bH e];exact⟨h2,VT.2 ⟨x,h3,by rw[bH e]⟩⟩
def Pk(s:Bool)(i k:Nat)(l:List Nat):(stp s i k l).length=l.length:=by unfold stp;split;exact mg_len ..;rfl
def inn_len(s:Nat->Nat->Bool)(i:Nat): ∀(j k:Nat) (l:List Nat),(inn s i j k l).length=l.length
 |0,_,l=>rfl
 |j+1,k,l=>by rw[inn,inn_len s i j,Pk]
def ID(s:Nat->Nat->Bool): ∀(j i:Nat) (l:List Nat),(outr s j i l).length=l.length
 |0,_,l=>rfl
 |j+1,i,l=>by rw[outr,ID s j,inn_len]
def lab_len(s:Nat->Nat->Bool)(n:Nat):(lab s n).length=n:=by rw[lab,ID,List.length_range]
def at0_eq{l:List Nat}{i:Nat}(h:i<l.length):l[i]?=some (at0 l i):=by unfold at0;rw[aV h];rfl
def JL.stp{l:List Nat}(h:JL l){s:Bool}{i k:Nat}(hi:i<l.length)(hk:k<l.length):JL (stp s i k l):=by
 unfold Ic.stp;split
 .have h1:=(h i _ (at0_eq hi)).2;have h2:=(h k _ (at0_eq hk)).2;generalize at0 l i=x at h1⊢;generalize at0 l k=y at h2⊢;rcases Nat.le_total x y with h3|h3
  .rw[Nat.min_eq_left h3,Nat.max_eq_right h3];exact h.mg h1 h2 h3
  .rw[Nat.min_eq_right h3,Nat.max_eq_left h3];exact h.mg h2 h1 h3
 .exact h
def JL.inn{s:Nat->Nat->Bool}{i:Nat}: ∀(j k:Nat) (l:List Nat),JL l->i<l.length->k+j<=i->JL (inn s i j k l)
 |0,_,l,h,_,_=>h
 |j+1,k,l,h,hi,hk=>by rw[Ic.inn];exact JL.inn j (k+1) _ (h.stp hi (by omega)) (by rw[Pk];exact hi) (by omega)
def JL.outr{s:Nat->Nat->Bool}: ∀(j i:Nat) (l:List Nat),JL l->i+j<=l.length->JL (outr s j i l)
 |0,_,l,h,_=>h
 |j+1,i,l,h,hi=>by rw[Ic.outr];exact JL.outr j (i+1) _ (JL.inn i 0 l h (by omega) (by omega)) (by rw[inn_len];omega)
def lab_JL(s:Nat->Nat->Bool)(n:Nat):JL (lab s n):=by
 refine JL.outr n 0 _ (λj f h=>?_) (by rw[List.length_range];omega)
 have hj:j<n:=by
  rcases Nat.lt_or_ge j n with h1|h1
  .exact h1
  .rw[List.getElem?_eq_none (by rw[List.length_range];exact h1)]at h;cases h
 rw[List.getElem?_range hj]at h;cases h;exact⟨aS _,List.getElem?_range hj⟩
def wth(l:List Nat)(i f:Nat):List Nat:=(List.range i).filter λk=>decide (l[k]?=some f)
def fst(l:List Nat)(i:Nat):List Nat:=(List.range i).filter λf=>decide (l[f]?=some f)
def grpN(l:List Nat)(i:Nat):List (List Nat):=(fst l i).map (wth l i)
def grp(l:List Nat):List (List Nat):=grpN l l.length
def wth_succ(l:List Nat)(i f:Nat):wth l (i+1) f=if l[i]?=some f then wth l i f++ [i]else wth l i f:=by
 unfold wth;rw[List.range_succ,List.filter_append];by_cases h:l[i]?=some f<;>simp[h]
def fst_succ(l:List Nat)(i:Nat):fst l (i+1)=if l[i]?=some i then fst l i++ [i]else fst l i:=by
 unfold fst;rw[List.range_succ,List.filter_append];by_cases h:l[i]?=some i<;>simp[h]
def mem_fst{l:List Nat}{i f:Nat}:f∈fst l i↔f<i/\l[f]?=some f:=by simp[fst]
def grpN_new{l:List Nat}(h:JL l){i:Nat}(hi:l[i]?=some i):grpN l (i+1)=grpN l i++ [[i]]:=by
 unfold grpN;rw[fst_succ,bI hi,List.map_append];congr 1
 .refine List.map_congr_left λf hf=>?_
  rw[wth_succ,bH (λe=>by rw[hi]at e;cases e;have:=(mem_fst.1 hf).1;omega)]
 .simp only[aO,List.map_nil];rw[wth_succ,bI hi];have:wth l i i=[]:=by
   unfold wth;rw[List.filter_eq_nil_iff];intro k hk;simp only[List.mem_range]at hk;simp only[aD];intro e;have:=(h k i e).1;omega
  rw[this];rfl
def pos(f:Nat):List Nat->Nat
 |[]=>0
 |x::l=>if x=f then 0 else pos f l+1
def pos_lt{f:Nat}: ∀{l:List Nat},f∈l->pos f l<l.length/\l[pos f l]?=some f
 |x::l,h=>by
  unfold pos;split
  .rename_i e;subst e;exact⟨by simp,by simp⟩
  .rename_i e;have:=pos_lt (l:=l) ((List.mem_cons.1 h).resolve_left λe'=>e e'.symm)
   exact⟨by simp;omega,by simpa using this.2⟩
def pos_app_new{f:Nat}: ∀{l:List Nat},f∉l->pos f (l++ [f])=l.length
 |[],_=>by simp[pos]
 |x::l,h=>by
  rw[aY,pos,bH (λe:x=f=>h (by subst e;exact aH ..)),pos_app_new (λh'=>h (aG _ h')),aM]
def pos_app_old{f y:Nat}: ∀{l:List Nat},f∈l->pos f (l++ [y])=pos f l
 |x::l,h=>by
  rw[aY,pos,pos];by_cases e:x=f
  .rw[bI e,bI e]
  .rw[bH e,bH e,pos_app_old ((List.mem_cons.1 h).resolve_left λe'=>e e'.symm)]
def Qc{f:Nat}{g g':Nat->List Nat}: ∀{l:List Nat},l.Nodup->f∈l->(∀x,x≠f->g' x=g x)->l.map g'=(l.map g).set (pos f l) (g' f)
 |x::l,hn,hm,h=>by
  have hn':=List.nodup_cons.1 hn;unfold pos;by_cases e:x=f
  .subst e;rw[bI rfl,aO,aO,List.set_cons_zero];congr 1;exact List.map_congr_left λy hy=>h y λe=>hn'.1 (e▸hy)
  .rw[bH e,aO,aO,List.set_cons_succ,h x e,Qc hn'.2 ((List.mem_cons.1 hm).resolve_left λe'=>e e'.symm) h]
def SK(l:List Nat)(i:Nat):(fst l i).Nodup:=List.Pairwise.filter _ List.nodup_range
def grpN_old{l:List Nat}(h:JL l){i f:Nat}(hi:l[i]?=some f)(hf:f<i):f∈fst l i/\grpN l (i+1)=(grpN l i).set (pos f (fst l i)) (wth l i f++ [i])/\(grpN l i)[pos f (fst l i)]?=some (wth l i f):=by
 have hm:f∈fst l i:=mem_fst.2 ⟨hf,(h i f hi).2⟩;refine⟨hm,?_,?_⟩
 .unfold grpN;rw[fst_succ,bH (λe=>by rw[hi]at e;cases e;omega),Qc (g:=wth l i) (SK l i) hm (λx hx=>?_),wth_succ,bI hi]
  rw[wth_succ,bH (λe=>by rw[hi]at e;cases e;exact hx rfl)]
 .unfold grpN;rw[List.getElem?_map,(pos_lt hm).2];rfl
def grpN_len(l:List Nat)(i:Nat):(grpN l i).length=(fst l i).length:=List.length_map ..
def grp_ne{l:List Nat}{g:List Nat}(h:g∈grp l):g≠ []:=by
 unfold grp grpN at h;obtain⟨f,hf,rfl⟩:=List.mem_map.1 h;obtain⟨h1,h2⟩:=mem_fst.1 hf;intro e;have:f∈wth l l.length f:=by
  unfold wth;rw[List.mem_filter];exact⟨List.mem_range.2 h1,by simp[h2]⟩
 rw[e]at this;cases this
def fst_le(l:List Nat)(i:Nat):(fst l i).length<=i:=by
 have:=List.length_filter_le (λf=>decide (l[f]?=some f)) (List.range i)
 rw[List.length_range]at this;exact this
def wth_le(l:List Nat)(i f:Nat):(wth l i f).length<=i:=by
 have:=List.length_filter_le (λk=>decide (l[k]?=some f)) (List.range i)
 rw[List.length_range]at this;exact this
end Go.Ic
namespace Go.AI
variable{P:Program}
def G9:List Code->Code->Code
 |[],T=>T
 |a::l,T=> .seq a (G9 l T)
def D1(P:Program)(call:FuncId->Array Value->St->Option (Value×St))(L:Nat):List Code->Slots->St->Option (Slots×St)
 |[],S,H=>some (S,H)
 |a::l,S,H=>match cR P call L a S H with
  |some (.normal,S',H')=>D1 P call L l S' H'
  |_=>none
def mL:Code->Bool
 | .seq a b=>mL a&&mL b
 | .cond _ a b=>mL a&&mL b
 | .block _ a=>mL a
 | .loop a=>mL a
 | .scope a=>mL a
 | .ret=>false
 |_=>true
section
variable{call:FuncId->Array Value->St->Option (Value×St)}{L:Nat}
def VB: ∀(c:Code) (S S':Slots) (H H':St),mL c=true->cR P call L c S H≠some (.ret,S',H'):=by
 intro c;induction c with
 |region id ops d=>intro S S' H H' _ h;simp[cR,aF]at h
 |seq a b cy fi=>
  intro S S' H H' hn h;simp only[mL,aC]at hn;simp only[cR]at h;split at h
  .exact fi _ _ _ _ hn.2 h
  .exact cy _ _ _ _ hn.1 h
 |cond x a b cy fi=>
  intro S S' H H' hn h;simp only[mL,aC]at hn;simp only[cR]at h;split at h
  .exact cy _ _ _ _ hn.1 h
  .exact fi _ _ _ _ hn.2 h
  .cases h
 |block id a ih=>
  intro S S' H H' hn h;simp only[mL]at hn;simp only[cR]at h;split at h
  .rename_i n S1 H1 _;cases hb:Nat.beq n id with
   |true=>rw[hb]at h;cases h
   |false=>rw[hb]at h;cases h
  .exact ih _ _ _ _ hn h
 |loop a ih=>
  intro S S' H H' hn h;simp only[mL]at hn;simp only[cR]at h;have: ∀n S H,sA (λS H=>cR P call L a S H) n S H≠some (.ret,S',H'):=by
   intro n;induction n with
   |zero=>intro S H h;cases h
   |succ n ihn=>
    intro S H h;simp only[sA]at h;split at h
    .exact ihn _ _ h
    .exact ih _ _ _ _ hn h
  exact this _ _ _ h
 |scope a ih=>intro S S' H H' hn h;simp only[cR]at h;exact ih _ _ _ _ hn h
 |ret=>intro S S' H H' hn;cases hn
 |_=>intro S S' H H' _ h;simp[cR]at h
def Up{T:Code}: ∀(l:List Code) (S S':Slots) (H H':St) (fl:Fl),l.all mL=true->(∀k,fl≠ .exit k)->cR P call L (G9 l T) S H=some (fl,S',H')->
    ∃S1 H1,D1 P call L l S H=some (S1,H1)/\cR P call L T S1 H1=some (fl,S',H'):=by
 intro l;induction l with
 |nil=>intro S S' H H' fl _ _ h;exact⟨S,H,rfl,h⟩
 |cons a l ih=>
  intro S S' H H' fl hn hf h;simp only[aP,aC]at hn;simp only[G9,cR]at h;split at h
  .rename_i S2 H2 e;obtain⟨S1,H1,h1,h2⟩:=ih _ _ _ _ _ hn.2 hf h;exact⟨S1,H1,by simp only[D1,e];exact h1,h2⟩
  .rename_i bn;cases fl with
   |normal=>exact absurd h (bn _ _)
   |exit k=>exact absurd rfl (hf k)
   |ret=>exact absurd h (VB a _ _ _ _ hn.1)
def aBE{w0:W0}(bm:CallOK w0 P call)(dt:P.toTables.follows .mixedOrders=true)(α:Nat){T:Code}: ∀(l:List Code) (S S1:Slots) (H H1:St) (a:Act) (w:World) (Y:Mp) (Q:Exit->Act->World->Prop),
    D1 P call L l S H=some (S1,H1)->l.all (dX P α)=true->AR Y S α a->Sim w0 P Y H w->Post w0 P Y H.next α S1 H1 (λa' w'=>T.wp P Q a' w')->(G9 l T).wp P Q a w:=by
 intro l;induction l with
 |nil=>
  intro S S1 H H1 a w Y Q h _ A ρ hp;cases h;exact hp a w Y A ρ (Ext.refl _ _) (aS _)
 |cons c l ih=>
  intro S S1 H H1 a w Y Q h bw A ρ hp;simp only[aP,aC]at bw;simp only[D1]at h;split at h
  .rename_i S2 H2 e;exact wp_seq (At bm dt L α c S H .normal S2 H2 a w Y _ e bw.1 A ρ λa' w' Y' A' ρ' E hn=>ih S2 S1 H2 H1 a' w' Y' Q h bw.2 A' ρ' (hp.later E hn))
  .cases h
end
def rW:List Value->Option (List Nat)
 |[]=>some []
 | .int .i64 n::r=>bif decide (0<=n)then(rW r).map (n.toNat:: ·)else none
 |_=>none
def xH(H:St):Value->Option (List Nat)
 | .slice none 0 _=>some []
 | .slice (some ⟨a,off,none⟩) n _=>match H.row a with
  |some (cs,_)=>match cut cs off n with
   |some l=>rW l
   |none=>none
  |none=>none
 | .slice (some ⟨_,_,some _⟩) 0 _=>some []
 |_=>none
def okL(l:List Nat):Bool:=Nat.ble l.length 6&&(List.range l.length).all λj=>match l[j]? with|some f=>Nat.ble f j&&Nat.beq (Ic.at0 l f) f|none=>false
def aLb{l:List Nat}(h:okL l=true):l.length<=6/\Ic.JL l:=by
 simp only[okL,aC,bJ,List.mem_range]at h;refine⟨bP h.1,λj f hj=>?_⟩
 have bh:j<l.length:=by
  rcases Nat.lt_or_ge j l.length with h1|h1
  .exact h1
  .rw[List.getElem?_eq_none h1]at hj;cases hj
 have h1:=h.2 j bh;rw[hj]at h1;simp only[aC]at h1;have h2:=bP h1.1;have h3:=aE h1.2;refine⟨h2,?_⟩;rw[Ic.at0_eq (by omega),h3]
def aOa{l:List Nat}(h1:l.length<=6)(h:Ic.JL l):okL l=true:=by
 simp only[okL,aC,bJ,List.mem_range];refine⟨Nat.ble_eq_true_of_le h1,λj hj=>?_⟩
 have e:=Ic.at0_eq hj;rw[e];obtain⟨h2,h3⟩:=h j _ e;simp only[aC];refine⟨Nat.ble_eq_true_of_le h2,?_⟩;have h4:Ic.at0 l (Ic.at0 l j)=Ic.at0 l j:=by
  conv=>lhs;unfold Ic.at0
  rw[show l[l[j]?.getD 0]?=some (Ic.at0 l j) from h3];rfl
 rw[h4];exact Nat.beq_refl _
structure Lb(H:St)(u:Value)(l:List Nat):Prop where
 ex: ∃a k,u= .slice a l.length k/\(l≠ []->∃id off cs m,a=some ⟨id,off,none⟩/\id<H.next/\H.get id=some (.cells cs m)/\m.grp=none/\∀(i f:Nat),l[i]?=some f->cs[off+i]?=some (.int .i64 (f:Int)))
def DP: ∀{cs:List Value} {l:List Nat},rW cs=some l->cs.length=l.length/\∀(i f:Nat),l[i]?=some f->cs[i]?=some (.int .i64 (f:Int))
 |[],l,h=>by cases h;exact⟨rfl,λi f h=>by simp at h⟩
 |x::cs,l,h=>by
  unfold rW at h;split at h
  .cases ‹x::cs=[]›
  .rename_i n r e;cases e;cases hd:decide (0<=n)with
   |false=>rw[hd]at h;cases h
   |true=>
    rw[hd,aI,aF]at h;obtain⟨y,h1,rfl⟩:=h;obtain⟨h2,h3⟩:=DP h1;have hn:((n.toNat:Nat):Int)=n:=Int.toNat_of_nonneg (bK hd);refine⟨by simp[h2],λi f hf=>?_⟩
    cases i with
    |zero=>simp at hf;subst hf;simp[hn]
    |succ i=>simp at hf;simpa using h3 i f hf
  .cases h
def HL(H:St):Value->Bool
 | .slice (some ⟨a,_,none⟩) (_+1) _=>match H.row a with
  |some (_,m)=>Nat.beq m.z 1
  |none=>false
 |_=>true
def nO(H:St)(u:Value):St:=match u with
 | .slice (some ⟨a,_,none⟩) (_+1) _=>match H.row a with
  |some (cs,_)=>{mem:=Tr.nil.set a (.cells cs {wr:=false,tip:=false,z:=1,grp:=none}),vers:= .nil,next:=H.next}
  |none=>{mem:= .nil,vers:= .nil,next:=H.next}
 |_=>{mem:= .nil,vers:= .nil,next:=H.next}
def Du(H:St)(u:Value):(nO H u).next=H.next:=by
 unfold nO;split
 .split<;>rfl
 .rfl
def Ui(H:St)(u:Value)(g:Nat):(nO H u).ver g=0:=by
 unfold nO;split
 .split<;>rfl
 .rfl
def rI{H:St}{u:Value}{k:Nat}{ob:AObj}(h:(nO H u).get k=some ob): ∃cs m,H.row k=some (cs,m)/\ob= .cells cs {wr:=false,tip:=false,z:=1,grp:=none}/\∃off n c,u= .slice (some ⟨k,off,none⟩) (n+1) c:=by
 unfold nO at h;split at h
 .rename_i a off n c;split at h
  .rename_i cs m hr;simp only[St.get,Tr.get_set]at h;split at h
   .rename_i e;subst e;cases h;exact⟨cs,m,hr,rfl,off,n,c,rfl⟩
   .cases h
  .cases h
 .cases h
def Sim.star{w0:W0}{Y:Mp}{H:St}{w:World}(ρ:Sim w0 P Y H w){u v:Value}(hv:VR Y u v)(hz: ∀a off n c cs m,u= .slice (some ⟨a,off,none⟩) (n+1) c->H.row a=some (cs,m)->m.z=1):Sim (W0.of w) P Y (nO H u) w:=by
 have one: ∀{i j ob ob'},(nO H u).get i=some ob->(nO H u).get j=some ob'->i=j:=λhi hj=>by
  obtain⟨_,_,_,_,_,_,_,e1⟩:=rI hi;obtain⟨_,_,_,_,_,_,_,e2⟩:=rI hj;rw[e1]at e2;cases e2;rfl
 refine⟨.refl ρ.kept.bnd,λk hk=>ρ.dom k (by rwa [Du]at hk),ρ.glob,?_,?_,?_,?_,?_,?_,?_⟩
 .intro k p cs m h1 h2 h3;obtain⟨ds,n,h4,h5,_,_,_,hu⟩:=rI h2;cases h5;obtain⟨hg,bf⟩:=St.row_some h4;obtain⟨⟨C,t,fr,r1,r2,r3⟩,r4,r5,r6,r7⟩:=ρ.row k p cs n h1 hg bf;exact⟨⟨C,t,fr,r1,r2,λh=>by cases h⟩,(λh=>by cases h),(λh=>by cases h),r6.trans (hz _ _ _ _ _ _ hu h4),λh=>by cases h⟩
 .intro k p es h1 h2;obtain⟨_,_,_,h5,_⟩:=rI h2;cases h5
 .intro i j p q cs ds m n bj h1 h2 h3 h4;exact absurd (one h3 h4) bj
 .intro i j p q cs ds m n bj h1 h2 h3 h4;exact absurd (one h3 h4) bj
 .intro i j p q es fs bj h1 h2 h3 h4;exact absurd (one h3 h4) bj
 .intro k cs m g x h1 h2;obtain⟨_,_,_,h5,_⟩:=rI h1;cases h5;cases h2
 .intro i j p q cs ds m n bj h1 h2 h3 h4;exact absurd (one h3 h4) bj
def aM0{cs l:List Value}{off n:Nat}(h:cut cs off n=some l):l.length=n/\∀(i:Nat) (x:Value),l[i]?=some x->cs[off+i]?=some x:=by
 unfold cut at h;simp only at h;cases hb:Nat.beq ((cs.drop off).take n).length n with
 |false=>rw[hb]at h;cases h
 |true=>
  rw[hb,aI,aA]at h;subst h;refine⟨aE hb,λi x hx=>?_⟩
  rw[List.getElem?_take]at hx;split at hx
  .rwa [List.getElem?_drop]at hx
  .cases hx
def Lb.star{H:St}{u:Value}{l:List Nat}(h:xH H u=some l)(bh: ∀a off n c,u= .slice (some ⟨a,off,none⟩) n c->a<H.next):Lb (nO H u) u l:=by
 unfold xH at h;split at h
 .cases h;exact⟨⟨none,_,rfl,λh=>absurd rfl h⟩⟩
 .rename_i a off n c;split at h
  .rename_i cs m hr;split at h
   .rename_i r hc;obtain⟨g1,g2⟩:=DP h;obtain⟨g3,g4⟩:=aM0 hc;have e:n=l.length:=by omega
    subst e;cases l with
    |nil=>exact⟨⟨_,c,rfl,λh=>absurd rfl h⟩⟩
    |cons y l=>
    refine⟨⟨_,c,rfl,λ_=>⟨a,off,cs,{wr:=false,tip:=false,z:=1,grp:=none},rfl,?_,?_,rfl,λi f hf=>g4 i _ (g2 i f hf)⟩⟩⟩
    .rw[Du];exact bh _ _ _ _ rfl
    .have:(nO H (.slice (some ⟨a,off,none⟩) (y::l).length c)).get a=some (.cells cs {wr:=false,tip:=false,z:=1,grp:=none}):=by
      rw[aM];unfold nO;simp only[hr,St.get,Tr.get_set,bO]
     exact this
   .cases h
  .cases h
 .cases h;exact⟨⟨_,_,rfl,λh=>absurd rfl h⟩⟩
 .cases h
def aCt(o:Oper):Bool:=match o.op with
 | .call c=>match c.callee with
  | .builtin _=>true
  |_=>false
 |_=>true
def LB:Code->Bool
 | .seq a b=>LB a&&LB b
 | .cond _ a b=>LB a&&LB b
 | .block _ a=>LB a
 | .loop a=>LB a
 | .scope a=>LB a
 | .region _ ops d=> !d&&ops.toList.all aCt
 |_=>true
section
variable{call call':FuncId->Array Value->St->Option (Value×St)}{L:Nat}
def aNV{base i:Nat}{o:Oper}{S:Slots}{H:St}(h:aCt o=true):tY P call base i o S H=tY P call' base i o S H:=by
 unfold tY;cases cL o with
 |pure=>rfl
 |read=>rfl
 |alloc=>rfl
 |eff=>
  simp only;unfold lY;unfold aCt at h;cases ho:o.op with
  |call c=>
   rw[ho]at h;simp only at h⊢;cases hc:c.callee with
   |builtin b=>
    cases b<;>first|rfl|(simp only[gJ,hc])
   |_=>rw[hc]at h;cases h
  |_=>rfl
def aLa{ops:Array Oper}{base:Nat}: ∀(l:List Oper) (i:Nat) (S:Slots) (H:St),l.all aCt=true->eN P call ops base l i S H=eN P call' ops base l i S H:=by
 intro l;induction l with
 |nil=>intro i S H _;rfl
 |cons o l ih=>
  intro i S H h;simp only[aP,aC]at h;simp only[eN,aNV (P:=P) (call:=call) (call':=call') h.1];cases wanted ops S o with
  |true=>
   simp only[aI];split
   .exact ih _ _ _ h.2
   .rfl
  |false=>simp only[aJ];exact ih _ _ _ h.2
def aCR: ∀(c:Code) (S:Slots) (H:St),LB c=true->cR P call L c S H=cR P call' L c S H:=by
 intro c;induction c with
 |region id ops d=>
  intro S H h;simp only[LB,aC,Bool.not_eq_true']at h;obtain⟨rfl,h⟩:=h;simp only[cR,iC,aJ,aLa (P:=P) (call:=call) (call':=call') _ _ _ _ h]
 |seq a b cy fi=>
  intro S H h;simp only[LB,aC]at h;simp only[cR,cy S H h.1];split
  .exact fi _ _ h.2
  .rfl
 |cond x a b cy fi=>
  intro S H h;simp only[LB,aC]at h;simp only[cR];split
  .exact cy _ _ h.1
  .exact fi _ _ h.2
  .rfl
 |block id a ih=>intro S H h;simp only[LB]at h;simp only[cR,ih S H h]
 |loop a ih=>
  intro S H h;simp only[LB]at h;simp only[cR];have:(λS H=>cR P call L a S H)=λS H=>cR P call' L a S H:=funext λS=>funext λH=>ih S H h
  rw[this]
 |scope a ih=>intro S H h;simp only[LB]at h;simp only[cR,ih S H h]
 |_=>intro S H _;rfl
end
structure Cm where
 f:FuncId
 fn:Func
 c:Code
 L:Nat
def Ej(P:Program)(K:Cm)(c0:FuncId->Array Value->St->Option (Value×St))(f:FuncId)(args:Array Value)(H:St):Option (Value×St):=
 bif Nat.beq f K.f then(match pM P K.fn (cR P c0 K.L K.c (fU args.toList 0 .nil) H)with
 |some (u,H1)=>match xH H1 u with
  |some l=>bif okL l&&HL H1 u then some (aEq H1.next (Ic.grp l),kJ H1 (Ic.grp l))else none
  |none=>none
 |none=>none)else c0 f args H
def aJs{Y:Mp}{a off n c:Nat}{u:Value}(hv:VR Y (.slice (some ⟨a,off,none⟩) n c) u): ∃p,Y a=some p:=by
 cases hv with
 |same _ h=>cases h
 |slc _ _ _ _ _ p hp _ _ _=>exact⟨p,hp⟩
def Xp{w0:W0}:CallOK w0 P (λ_ _ _=>none):=λf args args' H H' w Y r h=>by cases h
def Xt{K:Cm}{fn0:Func}{As:List Code}{T:Code}{k:Nat}(hf:P.funcs[K.f]?=some fn0)(hb:fn0.body=some (G9 As T))(na:(fn0.name== "runtime.NumGoroutine")=false)
    (dt:P.toTables.follows .mixedOrders=true) (hA:As.all (dX P fn0.ntmps)=true) (hn:As.all mL=true) (hT:dX P fn0.ntmps T=true) (hc:K.c=G9 As .ret) (hr:K.fn.results.toList=[.tmp k])
    (hw: ∀(S:Slots) (H:St) (l:List Nat),Lb H (S.at k) l->l.length<=6->Ic.JL l->(∀g,H.ver g=0)->∃LT fl S' H' v,cR P (λ_ _ _=>none) LT T S H=some (fl,S',H')/\(fl= .normal∨fl= .ret)/\
      cO P S' H' fn0.results.toList=some [v]/\aEW H' v (Ic.grp l))
    {w0:W0} {c0:FuncId->Array Value->St->Option (Value×St)} (h0:CallOK w0 P c0):CallOK w0 P (Ej P K c0):=by
 intro f args args' H H' w Y r h ρ hargs;unfold Ej at h;cases hfk:Nat.beq f K.f with
 |false=>rw[hfk]at h;exact h0 f args args' H H' w Y r h ρ hargs
 |true=>
 rw[hfk,aI]at h;rw[aE hfk];refine⟨⟨fn0,_,hf,hb,na⟩,?_⟩;cases hx:cR P c0 K.L K.c (fU args.toList 0 .nil) H with
 |none=>rw[hx]at h;cases h
 |some x=>
 obtain⟨fl,S1,H1⟩:=x;have fm: ∀n,fl≠ .exit n:=λn e=>by subst e;rw[hx]at h;cases h
 obtain⟨S2,H2,e1,e2⟩: ∃S2 H2,D1 P c0 K.L As (fU args.toList 0 .nil) H=some (S2,H2)/\cR P c0 K.L .ret S2 H2=some (fl,S1,H1):=by
  rw[hc]at hx;exact Up As _ _ _ _ _ hn fm hx
 simp only[cR,aA,aB]at e2;obtain⟨rfl,rfl,rfl⟩:=e2;rw[hx]at h;simp only[pM,hr,cO,oH,aK,kN]at h;split at h
 .rename_i l hl;cases hk:okL l&&HL H2 (S2.at k)with
  |false=>rw[hk]at h;cases h
  |true=>
  rw[hk,aI]at h;simp only[aA,aB]at h;obtain⟨rfl,rfl⟩:=h;simp only[aC]at hk;obtain⟨hle,hJ⟩:=aLb hk.1;have A0:AR Y (fU args.toList 0 .nil) fn0.ntmps {tmps:=args'++Array.replicate (fn0.ntmps-args'.size) undef,defers:=[]}:=by
   have cq:=hargs.size;refine⟨by simp;omega,rfl,λi=>?_⟩
   rw[BL];simp only[Nat.zero_le,true_and,Nat.zero_add,Nat.sub_zero,Array.length_toList];rw[Array.getD_eq_getD_getElem?];by_cases hi:i<args.size
   .rw[bI hi,Array.getElem?_append_left (by omega)]
    have h1:args.toList[i]?=some args[i]:=by simp[hi]
    obtain⟨u,hu,hr⟩:=hargs.get h1;have jx:args'[i]?=some u:=by simpa using hu
    rw[h1,jx];exact hr
   .rw[bH hi,Array.getElem?_append_right (by omega)]
    have:((Array.replicate (fn0.ntmps-args'.size) undef)[i-args'.size]?).getD undef=undef:=by
     by_cases h2:i-args'.size<fn0.ntmps-args'.size
     .simp[h2]
     .simp[h2]
    rw[this];exact .undef
  refine calls_of_wp hf hb (aBE h0 dt fn0.ntmps As _ _ _ _ _ _ _ _ e1 hA A0 ρ λa1 w1 Y1 A1 Z1 E1 hn1=>?_)
  have hv:=A1.slot k;have bh: ∀a off n c,S2.at k= .slice (some ⟨a,off,none⟩) n c->a<H2.next:=λa off n c e=>by
   rw[e]at hv;obtain⟨p,hp⟩:=aJs hv;rcases Nat.lt_or_ge a H2.next with h1|h1
   .exact h1
   .rw[Z1.dom a h1]at hp;cases hp
  have hz: ∀a off n c cs m,S2.at k= .slice (some ⟨a,off,none⟩) (n+1) c->H2.row a=some (cs,m)->m.z=1:=λa off n c cs m e hr=>by
   have:=hk.2;rw[e]at this;simp only[HL,hr]at this;exact aE this
  obtain⟨LT,fl,S3,H3,v,q1,q2,q3,q4⟩:=hw S2 (nO H2 (S2.at k)) l (Lb.star hl bh) hle hJ (Ui _ _);refine At Xp dt LT fn0.ntmps T S2 (nO H2 (S2.at k)) fl S3 H3 a1 w1 Y1 _ q1 hT A1 (Z1.star hv hz) λa2 w2 Y2 A2 Z2 E2 hn2=>?_
  obtain⟨v',g1,g2⟩:=Eo (fn:=fn0) A2 Z2 q3;obtain⟨Y',r1,r2,r3⟩:=Z1.canon Z2.kept.toKept (aCA Z2 q4 g2);have jf:H.next<=(kJ H2 (Ic.grp l)).next:=by rw[mG];omega
  rcases q2 with rfl|rfl
  .exact⟨A2.defers,v',g1,Y',v',rfl,r1,r2,E1.trans r3 hn1,jf⟩
  .exact⟨A2.defers,v',g1,Y',v',rfl,r1,r2,E1.trans r3 hn1,jf⟩
 .cases h
end Go.AI
