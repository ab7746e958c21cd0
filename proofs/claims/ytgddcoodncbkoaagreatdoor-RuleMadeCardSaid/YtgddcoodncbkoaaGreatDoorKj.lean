import Derived.Test.YtgddcoodncbkoaaGreatDoorKi
set_option linter.unusedVariables false
set_option linter.unusedSimpArgs false
set_option linter.constructorNameAsVariable false
set_option linter.defProp false
namespace Go.TV
open Go.AI Go.PI Go.Proofs
def TSR(x:Rt)(B:Nat):Prop:= ∃(t:G.T) (s:G.Z),x=some [yR 3 t,yR 0 s]/\cJ t<=B/\dU s
def TSR.mk{o:G.T}{s:G.Z}{B:Nat}(h:cJ o<=B)(hs:dU s):TSR (some [yR 3 o,yR 0 s]) B:=⟨o,s,rfl,h,hs⟩
def TSR.le{x:Rt}{A B:Nat}(h:TSR x A)(hl:A<=B):TSR x B:=by obtain⟨o,s,h1,h2,h3⟩:=h;exact⟨o,s,h1,by omega,h3⟩
def fF{W:Type}{a:G.T}{K:G.T×Unit->Option W}:eC (some [yR 3 a]) K=K (a,()):=rfl
def fN{W:Type}{a:G.T}{b:G.Z}{K:G.T×G.Z×Unit->Option W}:mC (some [yR 3 a,yR 0 b]) K=K (a,b,()):=rfl
def aFe{W:Type}{a:List (List UInt8)}{K:List (List UInt8)×Unit->Option W}:fU (D:=U0.D) [.sl .str] (some [⟨.sl .str,a⟩]) K=K (a,()):=rfl
def R0{W:Type}{a:G.Y}{K:G.Y×Unit->Option W}:gU (some [yR 1 a]) K=K (a,()):=rfl
def a30(n:G.Y):aCq 1 n a54 []=0:=rfl
def a32(n:G.Y)(l:List G.T):aCq 3 n a54 l=0:=rfl
def a31(o:G.O):aCq 2 ⟨[],[]⟩ o []=LW o:=by
 unfold aCq aFb LW;cases decide (o.kind=0)<;>rfl
def aCW:xX a54=2:=rfl
def a8m(w:List UInt8):cJ (tV w)=6:=by simp only[tV,cJ,cC,a30,aCW]
def iT(f:G.Y)(l:List G.T):cJ (tA f l)=6+cC l:=by simp only[tA,cJ,a32,aCW];omega
def a8n(o:G.O):cJ (tC o)=4+(xX o+LW o):=by simp only[tC,cJ,cC,a31];omega
def tsz'_app(l:List G.T)(t:G.T):cC (l++ [t])=cC l+cJ t+1:=by
 induction l with
 |nil=>simp[cC]
 |cons x l ih=>simp only[aY,cC,ih];omega
section
variable{c:bT}(h:Lib c)
include h
def bHB{L:Nat}{s:G.Z}(hs:dU s):TSR (bJk c L s) 6:=by
 rw[bJk,aUN];obtain⟨r,s',e,g1,g2,g3⟩:=h.nx s 3 hs (by omega)
 rw[e,nH];obtain⟨w,e1,l1⟩:=DF (l:=([120,121,122]:List UInt8)) (hi:=3) g1 (by omega) (by decide)
 obtain⟨w2,e2,l2⟩:=DF (l:=w) (lo:=0) (hi:=1) (by omega) (by omega) (by omega)
 show TSR (ob (slc ([120,121,122]:List UInt8) r 3) λv1=>ob (slc v1 (0:Int) (1:Int)) λv2=>eC (c 8 [yT v2]) λ(r3:G.T×Unit)=>some [yR 3 r3.1,yR 0 s']) 6
 rw[e1,bZ,e2,bZ,h.v,fF];exact .mk (by rw[a8m];omega) g3
def aQB{L:Nat}{E:List G.E}{d:Int}{B:Nat}(hB:B<1000000)(hr: ∀s,dU s->TSR (c 15 [yS 16 E,yI (IntKind.i64.wrap (d-1)),yR 0 s]) B){f:G.Y}{b:G.T}{r:Nat}(h3:r<=3):
    ∀(j k m:Nat) (a:List G.T) (s:G.Z),r=k+j->a.length=k->cC a<=(B+1)*k->j<m->dU s->TSR (FP c L m (r:Int) E d (k:Int) a s f b) (6+3*(B+1)):=by
 intro j;induction j with
 |zero=>
  intro k m a s h1 h2 h4 h5 hs;obtain⟨m,rfl⟩:=sK m 1 (by omega)
  have e3:decide ((k:Int)<(r:Int))=false:=by simp;omega
  rw[FP,aBj,e3,bL,h.a,fF];refine .mk ?_ hs;have:(B+1)*k<=(B+1)*3:=Nat.mul_le_mul_left _ (by omega)
  rw[iT];omega
 |succ j ih=>
  intro k m a s h1 h2 h4 h5 hs;obtain⟨m,rfl⟩:=sK m 1 (by omega)
  have e3:decide ((k:Int)<(r:Int))=true:=by simp;omega
  obtain⟨t,s',e,g1,g2⟩:=hr s hs;rw[FP,aBj,e3,bO,e,fN];have e4:Nat.ble ((a.length+([t]:List G.T).length)*176) 1073741824=true:=by
   rw[Nat.ble_eq];simp only[aM,aX];omega
  simp only[e4,fS];rw[cS (by omega)]
  refine ih (k+1) m (a++ [t]) s' (by omega) (by simp;omega) ?_ (by omega) g2
  rw[tsz'_app,Nat.mul_add];omega
def aJh{L:Nat}(hL:10<=L){E:List G.E}{d:Int}{B:Nat}(hB:B<1000000)(hB2:204<=B)(hv: ∀s,dU s->TSR (c 16 [yR 0 s]) 6)(ho: ∀s,dU s->OSR (c 59 [yI (1:Int),yR 0 s]) 200)
    (ha: ∀f:G.Y,bIz (c 63 [yS 16 E,yR 1 f])) (hr:1<=d->∀s,dU s->TSR (c 15 [yS 16 E,yI (IntKind.i64.wrap (d-1)),yR 0 s]) B) {s:G.Z} (hs:dU s):
    TSR (bJl c L E d s) (bif decide (d<1)then 204 else 6+3*(B+1)):=by
 have lo: ∀(a7:Int) (s':G.Z) (b:G.T),a7<=3->dU s'->TSR (QU c L a7 E d s' b) 204:=λa7 s' b g1 g2=>by
  rw[QU,aBk];cases e1:decide (a7<(3:Int))with
  |true=>
   obtain⟨t,s2,e,q1,q2⟩:=hv s' g2;rw[bO,e,fN];exact .mk (by show cJ t<=204;omega) q2
  |false=>
   simp only[bC]at e1;have e2:decide (a7=(3:Int))=true:=by simp;omega
   obtain⟨o,s2,e,q1,q2⟩:=ho s' g2;rw[bL,e2,bO,e,Ke,h.k,fF];exact .mk (by show cJ (tC o)<=204;rw[a8n];omega) q2
 obtain⟨r,s',e,g1,g2,g3⟩:=h.nx s 12 hs (by omega)
 rw[bJl,aMi,e,nH];cases e1:decide (d<(1:Int))with
 |true=>
  rw[bO,aI];show TSR (IJ c L (decide ((3:Int)<r)) r E d s' _) _;rw[IJ,aBl];cases e2:decide ((3:Int)<r)with
  |true=>
   rw[bO,show decide ((4:Int)=0)=false by decide]
   simp only[Bool.not_false,fS];exact lo _ _ _ (by have:=Int.tmod_lt_of_pos r (b:=4) (by omega);omega) g3
  |false=>
   simp only[bC]at e2;exact lo _ _ _ (by omega) g3
 |false=>
  rw[bL,aJ];simp only[bC]at e1;show TSR (IJ c L false r E d s' _) _;rw[IJ,aBl,bL];by_cases h4:r<=3
  .exact(lo _ _ _ h4 g3).le (by omega)
  have jn: ∀(s2:G.Z) (f:G.Y) (b:G.T),dU s2->TSR (aAp c L E d s2 f b) (6+3*(B+1)):=λs2 f b k1=>by
   obtain⟨k,b2,e,k2⟩:=ha f;rw[aAp,aMh,e,Kh];exact aQB h hB (hr (by omega)) k2 k 0 L [] s2 (by omega) rfl (Nat.zero_le _) (by omega) k1
  have e2:decide (r<(3:Int))=false:=by simp;omega
  have e3:decide (r=(3:Int))=false:=by simp;omega
  obtain⟨lh,eh,hh⟩:=h.hd;obtain⟨lw,ew,hw⟩:=h.ow;obtain⟨q,s2,e4,k1,k2,k3⟩:=h.nx s' 4 g3 (by omega)
  rw[QU,aBk,e2,bL,e3,bL,eh,aFe,ew,aFe,e4,nH];cases e5:decide (q<(3:Int))with
  |true=>
   obtain⟨i,s3,e6,k4,k5,k6⟩:=h.nx s2 (lh.length:Int) k3 (by omega)
   obtain⟨m,rfl⟩: ∃m:Nat,i=(m:Int):=⟨i.toNat,by omega⟩
   have hm:lh[m]?=some (lh[m]'(by omega)):=aV _
   simp only[bO];rw[e6,nH];simp only[bP,hm,bZ];rw[h.s,R0];exact jn _ _ _ k6
  |false=>
   obtain⟨i,s3,e6,k4,k5,k6⟩:=h.nx s2 (lw.length:Int) k3 (by omega)
   obtain⟨m,rfl⟩: ∃m:Nat,i=(m:Int):=⟨i.toNat,by omega⟩
   have hm:lw[m]?=some (lw[m]'(by omega)):=aV _
   simp only[bL];rw[e6,nH];simp only[bP,hm,bZ];rw[h.u,R0];exact jn _ _ _ k6
def bH4{L:Nat}{E:List G.E}{A B:Nat}(hv: ∀s,dU s->TSR (c 16 [yR 0 s]) 6)
    (h2: ∀s,dU s->TSR (c 15 [yS 16 E,yI (2:Int),yR 0 s]) A) (h1: ∀s,dU s->TSR (c 15 [yS 16 E,yI (1:Int),yR 0 s]) B) {s:G.Z} (hs:dU s):
    TSR (a6m c L E 2 s) (A+B+30):=by
 obtain⟨t,s2,e,g1,g2⟩:=h2 s hs;obtain⟨r,s3,e2,k1,k2,k3⟩:=h.nx s2 8 g2 (by omega)
 rw[a6m,aBn,e,fN,e2,nH];have key: ∀(a:Bool) (b:G.T),TSR (IK c L a r E 2 s3 t b) (A+B+30):=λa b=>by
  rw[IK,aBm];cases a with
  |true=>
   rw[bO,h.l,fF];exact .mk (by rw[iT];simp only[cC];omega) k3
  |false=>
   rw[bL];cases decide (r=(2:Int))with
   |true=>
    obtain⟨t2,s4,e,q1,q2⟩:=h1 s3 k3;rw[bO];show TSR (mC (c 15 [yS 16 E,yI (1:Int),yR 0 s3]) _) _;rw[e,fN];simp only[];rw[h.l,fF];simp only[];rw[h.l,fF];exact .mk (by rw[iT];simp only[cC];rw[iT];simp only[cC];omega) q2
   |false=>
    rw[bL];cases decide (r=(3:Int))with
    |true=>
     obtain⟨t2,s4,e,q1,q2⟩:=hv s3 k3;rw[bO,e,fN];simp only[];rw[h.l,fF];simp only[];rw[h.l,fF];exact .mk (by rw[iT];simp only[cC];rw[iT];simp only[cC];omega) q2
    |false=>
     rw[bL];cases decide (r=(4:Int))with
     |true=>
      obtain⟨t2,s4,e,q1,q2⟩:=h1 s3 k3;rw[bO];show TSR (mC (c 15 [yS 16 E,yI (1:Int),yR 0 s3]) _) _;rw[e,fN];simp only[];rw[h.l,fF];exact .mk (by rw[iT];simp only[cC];omega) q2
     |false=>
      rw[bL];cases decide (r=(5:Int))with
      |true=>
       obtain⟨t1,s4,e,q1,q2⟩:=hv s3 k3;rw[bO,e,fN];obtain⟨t2,s5,e,q3,q4⟩:=h1 s4 q2;show TSR (mC (c 15 [yS 16 E,yI (1:Int),yR 0 s4]) _) _;rw[e,fN];simp only[];rw[h.l,fF];simp only[];rw[h.l,fF];exact .mk (by rw[iT];simp only[cC];rw[iT];simp only[cC];omega) q4
      |false=>exact .mk (by omega) k3
 cases decide (r=(0:Int))with
 |true=>exact key _ _
 |false=>exact key _ _
end
end Go.TV
namespace Go.TV
open Go.AI Go.PI Go.Proofs
inductive It where
 |op
 |cl
 |wd (nu:Bool) (w:List UInt8)
def It.by':It->List UInt8
 | .op=>[40]
 | .cl=>[41]
 | .wd _ w=>w
def It.tk(p:Nat):It->G.K
 | .op=>⟨1,(p:Int),[],[],[]⟩
 | .cl=>⟨2,(p:Int),[],[],[]⟩
 | .wd nu w=>bJq nu (p:Int) w
abbrev a4L:=List (List UInt8×It)
def wJ:a4L->List UInt8->List UInt8
 |[],tl=>tl
 |(b,t)::l,tl=>b++(t.by'++wJ l tl)
def a57:Nat->a4L->List G.K
 |_,[]=>[]
 |p,(b,t)::l=>t.tk (p+b.length)::a57 (p+b.length+t.by'.length) l
def aOJ:List UInt8->Bool
 |[48]=>true
 |[49]=>true
 |[45,49]=>true
 |_=>false
def a6d(nu:Bool):List UInt8->Bool
 |[]=>false
 |x::l=>(x::l).all (λx=>HK (u8 x))&& !decide (u8 x=35)&&(bif nu then aOJ (x::l)else !decide (u8 x=45)&&(decide (u8 x<48)||decide (57<u8 x))&& !decide (x::l=[46])&&Nat.ble (x::l).length 40)
def bJT:List UInt8->Bool
 |[]=>true
 |y::_=> !HK (u8 y)&& !decide (u8 y=58)
def aRY(r:List UInt8):It->Bool
 | .wd nu w=>a6d nu w&&bJT r
 |_=>true
def bDh:a4L->List UInt8->Bool
 |[],tl=>tl.all λx=>T6 (u8 x)
 |(b,t)::l,tl=>(b.all λx=>T6 (u8 x))&&aRY (wJ l tl) t&&bDh l tl
def a8r{r:List UInt8}(h:bJT r=true): ∀y,r.head?=some y->HK (u8 y)=false/\u8 y≠58:=by
 intro y hy;cases r with
 |nil=>cases hy
 |cons z r=>
  simp only[List.head?_cons,aA]at hy;subst hy;simpa [bJT]using h
def bHo{x:Int}(h:HK x=true):T6 x=false:=by
 simp only[HK,aC,aD]at h;simp only[T6,Bool.or_eq_false_iff,bC];omega
def bDg{t:It}{r:List UInt8}(h:aRY r t=true): ∀y,(t.by'++r).head?=some y->T6 (u8 y)=false/\u8 y≠59/\u8 y≠35:=by
 intro y hy;cases t with
 |op=>simp[It.by']at hy;subst hy;decide
 |cl=>simp[It.by']at hy;subst hy;decide
 |wd nu w=>
  cases w with
  |nil=>simp[aRY,a6d]at h
  |cons x l=>
   simp[It.by']at hy;subst hy
   simp only[aRY,a6d,aC,aP,Bool.not_eq_true',bC]at h;exact⟨bHo h.1.1.1.1,(XV h.1.1.1.1).2.2.2.2.1,h.1.1.2⟩
def a4G{s r:List UInt8}{t:It}{k L n:Nat}(hN: ∀w,aOJ w=true->aJr (bR L (n+2)) w)(hb:s.length<1000000000)(hL:s.length<L)(h:s.drop k=t.by'++r)(ht:aRY r t=true):
    bR L (n+3) 147 [yT s,yI (k:Int)]=some [yR 19 (t.tk k),yI ((k+t.by'.length:Nat):Int),yR 17 ⟨0,0⟩]:=by
 cases t with
 |op=>exact bHY hb h
 |cl=>exact bHZ hb h
 |wd nu w=>
  cases w with
  |nil=>simp[aRY,a6d]at ht
  |cons x l=>
   simp only[aRY,a6d,aC,Bool.not_eq_true',bC]at ht;obtain⟨⟨⟨h1,h2⟩,h3⟩,h4⟩:=ht;refine bPc hb hL h (by simp) (λy hy=>bJ.1 h1 y hy) (a8r h4) ?_
   cases nu with
   |true=>exact .inl ⟨rfl,hN _ h3⟩
   |false=>
    simp only[aJ,aC,Bool.or_eq_true,Bool.not_eq_true',bC,aD]at h3;exact .inr ⟨rfl,x,l,rfl,h3.1.1.1,h3.1.1.2,h3.1.2,bK h3.2⟩
def aQA{s tl:List UInt8}{L n:Nat}{er:G.X}(hN: ∀w,aOJ w=true->aJr (bR L (n+2)) w)(hb:s.length<6001)(hL:s.length<L):
    ∀(l:a4L) (k m:Nat) (acc:List G.K),s.drop k=wJ l tl->k<=s.length->bDh l tl=true->l.length<m->acc.length<=k->yQ (bR L (n+3)) L m (k:Int) s acc er=some [yS 19 (acc++a57 k l++ [⟨0,(s.length:Int),[],[],[]⟩]),yR 17 ⟨0,0⟩]:=by
 intro l;induction l with
 |nil=>
  intro k m acc h1 h2 h3 h4 h5;obtain⟨m,rfl⟩:=sK m 1 (by simp at h4;omega)
  have hl:=congrArg List.length h1;simp[wJ]at hl;have hsk:=aT5 (s:=s) (w:=tl) (r:=[]) (k:=k) (L:=L) (n:=n+1) (by omega) hL (by simpa [wJ]using h1) (λx hx=>bJ.1 h3 x hx) (by simp)
  have e1:((k+tl.length:Nat):Int)=(s.length:Int):=by omega
  rw[yQ,M4,hsk,Kh];simp only[bD,bL];rw[e1];simp only[Int.le_refl,decide_true,bO];have e2:Nat.ble ((acc.length+([⟨0,(s.length:Int),[],[],[]⟩]:List G.K).length)*64) 1073741824=true:=by
   rw[Nat.ble_eq];simp only[aM,aX];omega
  rw[e2,fS,show a57 k []=[] from rfl,bA];rfl
 |cons bt l ih=>
  obtain⟨b,t⟩:=bt;intro k m acc h1 h2 h3 h4 h5;obtain⟨m,rfl⟩:=sK m 1 (by simp at h4;omega)
  simp only[bDh,aC]at h3;obtain⟨⟨h6,h7⟩,h8⟩:=h3;have hl:=congrArg List.length h1;simp[wJ]at hl;have ht:1<=t.by'.length:=by
   cases t with
   |op=>exact aS _
   |cl=>exact aS _
   |wd nu w=>cases w with
    |nil=>simp[aRY,a6d]at h7
    |cons x l=>simp[It.by']
  have hsk:=aT5 (s:=s) (w:=b) (r:=t.by'++wJ l tl) (k:=k) (L:=L) (n:=n+1) (by omega) hL h1 (λx hx=>bJ.1 h6 x hx) (bDg h7)
  have hd:s.drop (k+b.length)=t.by'++wJ l tl:=by rw[<-List.drop_drop,h1];simp[wJ]
  have ho:=a4G (n:=n) hN (by omega) hL hd h7
  have hd2:s.drop (k+b.length+t.by'.length)=wJ l tl:=by rw[<-List.drop_drop,hd];simp
  rw[yQ,M4,hsk,Kh];simp only[bD,bL];have e1:decide ((s.length:Int)<=((k+b.length:Nat):Int))=false:=by simp only[bC];omega
  rw[e1,bL,ho,a0V];simp only[decide_true,bD,bL];have e2:Nat.ble ((acc.length+([t.tk (k+b.length)]:List G.K).length)*64) 1073741824=true:=by
   rw[Nat.ble_eq];simp only[aM,aX];omega
  rw[e2,fS,ih (k+b.length+t.by'.length) m _ hd2 (by omega) h8 (by simp at h4;omega) (by simp;omega)]
  simp[a57]
def a4B{l:a4L}{tl:List UInt8}{L n:Nat}(hN: ∀w,aOJ w=true->aJr (bR L (n+2)) w)(hs:(wJ l tl).length<6001)(hL:(wJ l tl).length<L)(hl:l.length<L)(ho:bDh l tl=true):
    bR L (n+4) 129 [yT (wJ l tl)]=some [yS 19 (a57 0 l++ [⟨0,((wJ l tl).length:Int),[],[],[]⟩]),yR 17 ⟨0,0⟩]:=by
 show bR L (n+3+1) 129 _=_;have e1:decide ((6000:Int)<((wJ l tl).length:Int))=false:=by simp only[bC];omega
 rw[bOR,a5j,VK,e1,bL];exact aQA (tl:=tl) (er:=⟨0,0⟩) hN hs hL l 0 L [] rfl (Nat.zero_le _) ho hl (aS _)
end Go.TV
namespace Go.TV
open Go.AI Go.PI Go.Proofs
set_option maxRecDepth 20000
def wV:List UInt8:=[108,105,115,112]
def lM(s:List UInt8):G.O:=⟨2,[],[],⟨wV,s⟩,[],[]⟩
def bLy(s:List UInt8):G.O:=⟨1,s,[49],⟨[],[]⟩,[],[]⟩
def ol:List G.O->G.O
 |[]=>lM [110,105,108]
 |x::l=>⟨4,[],[],⟨[],[]⟩,[],[x,ol l]⟩
def tkP(p:Int):G.K:=⟨1,p,[],[],[]⟩
def tkC(p:Int):G.K:=⟨2,p,[],[],[]⟩
def bPQ:List UInt8:=[43]
def bID:G.O:=lM bPQ
def bPP:List UInt8:=[45,49]
def bPT:G.O:=bLy bPP
def bPO:List UInt8:=[48]
def aC8:G.O:=bLy bPO
def bPN:List UInt8:=[49]
def bPS:G.O:=bLy bPN
def bPM:List UInt8:=[60]
def a63:G.O:=lM bPM
def bJp:List UInt8:=[97]
def aVl:G.O:=lM bJp
def bPL:List UInt8:=[97,110,100]
def bIC:G.O:=lM bPL
def bPK:List UInt8:=[97,112,112,101,110,100]
def w7a:G.O:=lM bPK
def bJo:List UInt8:=[97,115,115,111,99,45,101,113,117,97,108]
def bPR:G.O:=lM bJo
def bJn:List UInt8:=[97,116,111,109]
def w9a:G.O:=lM bJn
def aVh:List UInt8:=[98,105,110,97,114,121,45,97,112,112,101,110,100]
def a7x:G.O:=lM aVh
def aVg:List UInt8:=[98,111,111,108,101,97,110,112]
def bJF:G.O:=lM aVg
def a6D:List UInt8:=[99,97,114]
def zE:G.O:=lM a6D
def a6C:List UInt8:=[99,100,114]
def CM:G.O:=lM a6C
def a6B:List UInt8:=[99,111,110,100]
def a7w:G.O:=lM a6B
def a6A:List UInt8:=[99,111,110,115]
def aVC:G.O:=lM a6A
def a6z:List UInt8:=[99,111,110,115,112]
def tM:G.O:=lM a6z
def aVf:List UInt8:=[99,111,117,110,116]
def CL:G.O:=lM aVf
def a6y:List UInt8:=[100,101,102,117,110]
def lN:G.O:=lM a6y
def aVe:List UInt8:=[101]
def aVt:G.O:=lM aVe
def aVd:List UInt8:=[101,110,100,112]
def bJE:G.O:=lM aVd
def a6x:List UInt8:=[101,113,117,97,108]
def IR:G.O:=lM a6x
def aVc:List UInt8:=[102,105,120]
def bJD:G.O:=lM aVc
def a6w:List UInt8:=[103,117,97,114,100]
def aBv:G.O:=lM a6w
def a6v:List UInt8:=[105,102]
def lY:G.O:=lM a6v
def aVb:List UInt8:=[105,102,102]
def bJC:G.O:=lM aVb
def aVa:List UInt8:=[105,102,105,120]
def bJB:G.O:=lM aVa
def aU9:List UInt8:=[105,109,112,108,105,101,115]
def bJA:G.O:=lM aU9
def a6u:List UInt8:=[105,110,116,101,103,101,114,112]
def aNo:G.O:=lM a6u
def aU8:List UInt8:=[107]
def aVq:G.O:=lM aU8
def aU7:List UInt8:=[108,101,110]
def a7g:G.O:=lM aU7
def a6t:List UInt8:=[108,105,115,116]
def bJx:G.O:=lM a6t
def a6s:List UInt8:=[109,101,97,115,117,114,101]
def Ds:G.O:=lM a6s
def aU6:List UInt8:=[109,101,109,98,101,114,45,101,113,117,97,108]
def a7c:G.O:=lM aU6
def aNf:List UInt8:=[110]
def Gj:G.O:=lM aNf
def aU5:List UInt8:=[110,97,116,112]
def aBu:G.O:=lM aU5
def aU4:List UInt8:=[110,102,105,120]
def aVp:G.O:=lM aU4
def a6r:List UInt8:=[110,105,108]
def A5:G.O:=lM a6r
def aU3:List UInt8:=[110,111,116]
def Gi:G.O:=lM aU3
def aU2:List UInt8:=[110,116,104]
def a7a:G.O:=lM aU2
def aU1:List UInt8:=[111,45,102,105,110,112]
def aNn:G.O:=lM aU1
def aU0:List UInt8:=[111,45,102,105,114,115,116,45,99,111,101,102,102,105,99,105,101,110,116]
def aBt:G.O:=lM aU0
def aUZ:List UInt8:=[111,45,102,105,114,115,116,45,101,120,112,111,110,101,110,116]
def IQ:G.O:=lM aUZ
def aUY:List UInt8:=[111,45,112]
def aVo:G.O:=lM aUY
def aUX:List UInt8:=[111,45,114,101,115,116]
def aC7:G.O:=lM aUX
def aUW:List UInt8:=[111,60]
def aNm:G.O:=lM aUW
def a6q:List UInt8:=[111,114]
def bJv:G.O:=lM a6q
def aCY:List UInt8:=[112]
def aBs:G.O:=lM aCY
def aUV:List UInt8:=[112,111,115,112]
def a64:G.O:=lM aUV
def aNe:List UInt8:=[113]
def aC6:G.O:=lM aNe
def a6p:List UInt8:=[114,97,116,105,111,110,97,108,112]
def bJu:G.O:=lM a6p
def aUU:List UInt8:=[114,101,118]
def a62:G.O:=lM aUU
def aUT:List UInt8:=[115,121,110,116,97,120,112]
def bJt:G.O:=lM aUT
def a6o:List UInt8:=[116]
def CK:G.O:=lM a6o
def aUS:List UInt8:=[116,114,117,101,45,108,105,115,116,112]
def aBr:G.O:=lM aUS
def aUR:List UInt8:=[117,112,100,97,116,101,45,110,116,104]
def a61:G.O:=lM aUR
def aUQ:List UInt8:=[118]
def aVn:G.O:=lM aUQ
def mO:List UInt8:=[120]
def dC:G.O:=lM mO
def aNd:List UInt8:=[121]
def CJ:G.O:=lM aNd
def aUP:List UInt8:=[122,112]
def aVm:G.O:=lM aUP
def wdL:List (List UInt8):=[bPQ,bPP,bPO,bPN,bPM,bJp,bPL,bPK,bJo,bJn,aVh,aVg,a6D,a6C,a6B,a6A,a6z,aVf,a6y,aVe,aVd,a6x,aVc,a6w,a6v,aVb,aVa,aU9,a6u,aU8,aU7,a6t,a6s,aU6,aNf,aU5,aU4,a6r,aU3,aU2,aU1,aU0,aUZ,aUY,aUX,aUW,a6q,aCY,aUV,aNe,a6p,aUU,aUT,a6o,aUS,aUR,aUQ,mO,aNd,aUP]
def bIF:Nat->Nat->Nat->List G.K
 |0,_,_=>[]
 |f+1,p,n=>bif Nat.beq (n%64) 0 then tkP ((p+n/64%64:Nat):Int)::bIF f (p+n/64%64+1) (n/4096)
  else bif Nat.beq (n%64) 1 then tkC ((p+n/64%64:Nat):Int)::bIF f (p+n/64%64+1) (n/4096)
  else match wdL[n%64-2]? with
   |some w=>bJq (aOJ w) ((p+n/64%64:Nat):Int) w::bIF f (p+n/64%64+w.length) (n/4096)
   |none=>[]
def V5:List G.K:=bIF 942 0 0x100100100100107b00f04007a00106404300204003904000107b00e04001104000100107b00f04007a01104000106403d04001a0c000100106402604002204000100100107b03804000106402504000804001904000107b07a02404007901404000100100100107b00f04000106404300204002904000107b00e04000106403d04001a0c000100106402604002204000100100107b03804000106402504000804001904000107b02404006901404000100100100100104700f04005f00a04003724000100104700e04000100100100104700e04000e04005f01704000100104700e0400120400080002400010670010010470120400280000400100c000100104701304002204000104701f04004a01404000100106700100100107b00f04005502304007b00100107b00e04005501704001a04000107b01204001a0c000100107b01304002204000100107b03804001904000107b01504006301404000100106700100100107b00e04002104000100107b00f04003504000904000107b01204001a0c000100107b01304002204000103b04007501404000100107c00100107c00107b00f04000c04000107b00e04001104000107b01204001a0c000100107b01304002204000100107b03804001904000107c03b04004c01404000100100106707b01704000100107b00f04003804000107b01204001a04000100107b01304002204000103b04007801404000100104400100100107b00f04002004004500204000107b01204001a04000100107b01304002204000103b04006001404000100100100100107b02c04000100107b02e04002c04002f28000100107b02e04002d28000100107b02b04003228000100104400107b02c04001704002828000100107b02c04002d28000100107b00e04001204000814000107b0251c000107b02a04001a0c000100107b01304002204000103b04006d01404000100100100100107c02e04000107b02e04002f04003724000100100107c02b04000107b02b04000628000100100107c02b04000107b02b04001704002800024000100100107c02c04000107b02c04002f28000100100107c02c04000107b02c04001704002800024000106700107c02a00024000100100107c07b00604007700107c01204001a04000107b02a0000400100c000100107b01304002204000107c03b04006f01404000100104400107b00f04000107b01204001a04000103b04006e01404000100107b00100107b00e04000f04000107b01204001a04000103b04006b01404000100104400100107b00e04000e04000107b01204001a04000103b04006c01404000100100107b01204002804000103b04006a01404000100104400100100107b00f04001304000100107b00e04001304004500204000107b01204001a04000100107b01304002204000103b04005301404000100107700100107b04400604002804000107b01e04001a04000100107b02504001904000103b04007d01404000100104407b00107b02504001a04000103b04006601404000100106700107b04400604000107b01e04001a04000103b04007201404000100106700100104407b00604002804000107b01e04001a04000103b04006501404000100104407b00107b01e04001a04000103b04005c01404000100104407b00107b03404001a04000103b04005801404000100100107b01204002804000100100106707b01704000107b01204003004001904000103b04005601404000100100107b01204002804000103b04004b01404000107700103b04007601404000100100106707b01704007700107707b01704001a04000103b04004d01404000100100107706707301a04000106707707301a04007101a04000107303104005b01404000100107700106707707301a04007101a04000107303104005d01404000100107706707101a040001031040068014000++ [⟨0,2580,[],[],[]⟩]
def bP6:G.O:=ol [lN,Gi,ol [aBs],ol [lY,aBs,A5,CK]]
def bP5:G.O:=ol [lN,bJA,ol [aBs,aC6],ol [lY,aBs,ol [lY,aC6,CK,A5],CK]]
def bP4:G.O:=ol [lN,bJC,ol [aBs,aC6],ol [lY,aBs,ol [lY,aC6,CK,A5],ol [lY,aC6,A5,CK]]]
def bP3:G.O:=ol [lN,bJF,ol [dC],ol [lY,ol [IR,dC,CK],CK,ol [IR,dC,A5]]]
def bP2:G.O:=ol [lN,bJt,ol [dC],CK]
def bP1:G.O:=ol [lN,w9a,ol [dC],ol [Gi,ol [tM,dC]]]
def bP0:G.O:=ol [lN,bJE,ol [dC],ol [aBv,ol [bJv,ol [tM,dC],ol [IR,dC,A5]]],ol [Gi,ol [tM,dC]]]
def bPZ:G.O:=ol [lN,bJD,ol [dC],ol [lY,ol [bJu,dC],dC,aC8]]
def bPY:G.O:=ol [lN,bJB,ol [dC],ol [lY,ol [aNo,dC],dC,aC8]]
def bPX:G.O:=ol [lN,aBu,ol [dC],ol [lY,ol [aNo,dC],ol [Gi,ol [a63,dC,aC8]],A5]]
def bDE:G.O:=ol [lN,a64,ol [dC],ol [lY,ol [aNo,dC],ol [a63,aC8,dC],A5]]
def bDD:G.O:=ol [lN,aVp,ol [dC],ol [lY,ol [aBu,dC],dC,aC8]]
def bDC:G.O:=ol [lN,aVm,ol [dC],ol [aBv,ol [aBu,dC]],ol [lY,ol [aNo,dC],ol [Gi,ol [a63,aC8,dC]],CK]]
def bDB:G.O:=ol [lN,CL,ol [dC],ol [Ds,ol [CL,dC]],ol [lY,ol [tM,dC],ol [bID,bPS,ol [CL,ol [zE,dC]],ol [CL,ol [CM,dC]]],aC8]]
def bDA:G.O:=ol [lN,aNn,ol [dC],ol [Gi,ol [tM,dC]]]
def bDz:G.O:=ol [lN,IQ,ol [dC],ol [lY,ol [tM,dC],ol [zE,ol [zE,dC]],aC8]]
def bDy:G.O:=ol [lN,aBt,ol [dC],ol [lY,ol [tM,dC],ol [CM,ol [zE,dC]],dC]]
def bDx:G.O:=ol [lN,aC7,ol [dC],ol [lY,ol [tM,dC],ol [CM,dC],aC8]]
def bDw:G.O:=ol [lN,aNm,ol [dC,CJ],ol [Ds,ol [CL,dC]],ol [a7w,ol [ol [aNn,dC],ol [lY,ol [tM,CJ],CK,ol [a63,dC,CJ]]],ol [ol [aNn,CJ],A5],ol [ol [Gi,ol [IR,ol [IQ,dC],ol [IQ,CJ]]],ol [aNm,ol [IQ,dC],ol [IQ,CJ]]],ol [ol [Gi,ol [IR,ol [aBt,dC],ol [aBt,CJ]]],ol [a63,ol [aBt,dC],ol [aBt,CJ]]],ol [CK,ol [aNm,ol [aC7,dC],ol [aC7,CJ]]]]]
def bDv:G.O:=ol [lN,aVo,ol [dC],ol [Ds,ol [CL,dC]],ol [lY,ol [aNn,dC],ol [aBu,dC],ol [bIC,ol [tM,ol [zE,dC]],ol [aVo,ol [IQ,dC]],ol [Gi,ol [IR,ol [IQ,dC],aC8]],ol [a64,ol [aBt,dC]],ol [aVo,ol [aC7,dC]],ol [aNm,ol [IQ,ol [aC7,dC]],ol [IQ,dC]]]]]
def bDu:G.O:=ol [lN,a7g,ol [dC],ol [Ds,ol [CL,dC]],ol [lY,ol [tM,dC],ol [bID,bPS,ol [a7g,ol [CM,dC]]],aC8]]
def bDt:G.O:=ol [lN,aBr,ol [dC],ol [Ds,ol [CL,dC]],ol [lY,ol [tM,dC],ol [aBr,ol [CM,dC]],ol [IR,dC,A5]]]
def bDs:G.O:=ol [lN,a7x,ol [dC,CJ],ol [aBv,ol [aBr,dC]],ol [Ds,ol [CL,dC]],ol [lY,ol [tM,dC],ol [aVC,ol [zE,dC],ol [a7x,ol [CM,dC],CJ]],CJ]]
def bDr:G.O:=ol [lN,a62,ol [dC],ol [Ds,ol [CL,dC]],ol [lY,ol [tM,dC],ol [w7a,ol [a62,ol [CM,dC]],ol [bJx,ol [zE,dC]]],A5]]
def bDq:G.O:=ol [lN,a7c,ol [aVt,dC],ol [aBv,ol [aBr,dC]],ol [Ds,ol [CL,dC]],ol [lY,ol [tM,dC],ol [lY,ol [IR,aVt,ol [zE,dC]],dC,ol [a7c,aVt,ol [CM,dC]]],A5]]
def bDp:G.O:=ol [lN,bPR,ol [aVq,aVl],ol [Ds,ol [CL,aVl]],ol [a7w,ol [ol [Gi,ol [tM,aVl]],A5],ol [ol [bIC,ol [tM,ol [zE,aVl]],ol [IR,aVq,ol [zE,ol [zE,aVl]]]],ol [zE,aVl]],ol [CK,ol [bPR,aVq,ol [CM,aVl]]]]]
def bDo:G.O:=ol [lN,a7a,ol [Gj,dC],ol [aBv,ol [bIC,ol [aBu,Gj],ol [aBr,dC]]],ol [Ds,ol [aVp,Gj]],ol [lY,ol [aVm,Gj],ol [zE,dC],ol [a7a,ol [bID,bPT,Gj],ol [CM,dC]]]]
def bDn:G.O:=ol [lN,a61,ol [Gj,aVn,dC],ol [aBv,ol [bIC,ol [aBu,Gj],ol [aBr,dC]]],ol [Ds,ol [aVp,Gj]],ol [lY,ol [aVm,Gj],ol [aVC,aVn,ol [CM,dC]],ol [aVC,ol [zE,dC],ol [a61,ol [bID,bPT,Gj],aVn,ol [CM,dC]]]]]
def oAll:List G.O:=[bP6,bP5,bP4,bP3,bP2,bP1,bP0,bPZ,bPY,bPX,bDE,bDD,bDC,bDB,bDA,bDz,bDy,bDx,bDw,bDv,bDu,bDt,bDs,bDr,bDq,bDp,bDo,bDn]
def bJU:List UInt8->List UInt8×List UInt8
 |[]=>([],[])
 |x::l=>bif HK (u8 x)then(x::(bJU l).1,(bJU l).2)else([],x::l)
def bJV:List UInt8->List UInt8×List UInt8
 |[]=>([],[])
 |x::l=>bif T6 (u8 x)then(x::(bJV l).1,(bJV l).2)else([],x::l)
def R6:Nat->List UInt8->a4L×List UInt8
 |0,l=>([],l)
 |n+1,l=>match bJV l with
  |(b,[])=>([],b)
  |(b,x::r)=>bif Nat.beq x.toNat 40 then((b,.op)::(R6 n r).1,(R6 n r).2)else bif Nat.beq x.toNat 41 then((b,.cl)::(R6 n r).1,(R6 n r).2)else
   match bJU (x::r)with
   |(w,r')=>((b,.wd (aOJ w) w)::(R6 n r').1,(R6 n r').2)
end Go.TV
namespace Go.TV
open Go.AI Go.PI Go.Proofs
set_option maxRecDepth 20000
def aUO:G.T:=⟨0,⟨[],[]⟩,⟨0,[],[],⟨[],[]⟩,[],[]⟩,[]⟩
abbrev T3:=G.T×G.T×G.T
abbrev Sk:=List UInt8×List (List UInt8)
def a3D(s:Sk)(x:T3):G.E:=G.E.mk 3 ⟨wV,s.1⟩ ⟨[],[]⟩ ⟨⟨[],[]⟩,[],false,aUO⟩ [⟨⟨wV,s.1⟩,s.2.map (λp=>⟨wV,p⟩),1,x.1,x.2.1,x.2.2⟩] [] [] [] ⟨⟨[],[]⟩,[]⟩ [] [] [] [] 0
def bNg(s:Sk):G.E->Bool
 |⟨k,n,⟨[],[]⟩,⟨⟨[],[]⟩,[],false,⟨bk,⟨[],[]⟩,⟨ok,[],[],⟨[],[]⟩,[],[]⟩,[]⟩⟩,[⟨fn,ps,cl,_,_,_⟩],[],[],[],⟨⟨[],[]⟩,[]⟩,[],[],[],[],h⟩=>decide (k=3)&&decide (n=⟨wV,s.1⟩)&&decide (bk=0)&&decide (ok=0)&&decide (fn=⟨wV,s.1⟩)&&decide (cl=1)&&decide (h=0)&&decide (ps=s.2.map (λp=>⟨wV,p⟩))
 |_=>false
def a3E{s:Sk}{e:G.E}(h:bNg s e=true): ∃x,e=a3D s x:=by
 unfold bNg at h;split at h
 .simp only[aC,aD]at h;obtain⟨⟨⟨⟨⟨⟨⟨rfl,rfl⟩,rfl⟩,rfl⟩,rfl⟩,rfl⟩,rfl⟩,rfl⟩:=h;exact⟨(_,_,_),rfl⟩
 .cases h
def bNf(s:Sk)(r:Rt):Bool:=match r with|some [⟨.rc 16,e⟩]=>bNg s e|_=>false
def a3C{s:Sk}{r:Rt}(h:bNf s r=true): ∃x,r=some [yR 16 (a3D s x)]:=by
 unfold bNf at h;split at h
 .rename_i e;obtain⟨x,hx⟩:=a3E h;exact⟨x,by rw[hx]⟩
 .cases h
def skL:List Sk:=[(aU3,[aCY]),(aU9,[aCY,aNe]),(aVb,[aCY,aNe]),(aVg,[mO]),(aUT,[mO]),(bJn,[mO]),(aVd,[mO]),(aVc,[mO]),(aVa,[mO]),(aU5,[mO]),(aUV,[mO]),(aU4,[mO]),(aUP,[mO]),(aVf,[mO]),(aU1,[mO]),(aUZ,[mO]),(aU0,[mO]),(aUX,[mO]),(aUW,[mO,aNd]),(aUY,[mO]),(aU7,[mO]),(aUS,[mO]),(aVh,[mO,aNd]),(aUU,[mO]),(aU6,[aVe,mO]),(bJo,[aU8,bJp]),(aU2,[aNf,mO]),(aUR,[aNf,aUQ,mO])]
def a8x(k:Nat):Sk:=(skL[k]?).getD ([],[])
def eF(X:Nat->T3):List Sk->Nat->List G.E
 |[],_=>[]
 |s::l,j=>a3D s (X j)::eF X l (j+1)
def eL(X:Nat->T3)(k:Nat):List G.E:=eF X (skL.take k) 0
def Kd:bT:=λi d=>bif Nat.beq i 48 then(match d with|[]=>some [⟨.sl (.rc 2),oAll⟩]|_=>none)else none
noncomputable def cD(L M k:Nat):bT:=a3m Kd (a55 (L+7000) (M+99)) (L+7000) k
noncomputable def pE(L M k:Nat)(X:Nat->T3)(o:G.O):Bool:=bNf (a8x k) (cD L M 58 49 [yS 16 (eL X k),yR 2 o])
end Go.TV
