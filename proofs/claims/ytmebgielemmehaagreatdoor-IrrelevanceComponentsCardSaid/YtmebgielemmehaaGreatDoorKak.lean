import Derived.Test.YtmebgielemmehaaGreatDoorKaj
set_option linter.unusedVariables false
set_option linter.unusedSimpArgs false
set_option linter.constructorNameAsVariable false
set_option linter.defProp false
namespace Go.TV
open Go.AI Go.PI Go.Proofs
set_option maxRecDepth 20000
def aQp{c:cJ}{L:Nat}{n1:Int->List G.Y->Int->G.T->Rt}{a b:List G.Y}{i:Nat}{x:G.Y}{u:G.T}(hb:b.length<1000000000): ∀(l:List G.Y) (k m:Nat),b.drop k=l->l.length<m->
    M9 c L n1 m (b.length:Int) b (k:Int) (i:Int) (a.length:Int) a x u=if x∈l then some [⟨.bool,true⟩]else n1 (a.length:Int) a (IntKind.i64.wrap ((i:Int)+1)) u:=by
 intro l;induction l with
 |nil=>
  intro k m h1 h3;obtain⟨m,rfl⟩: ∃m',m=m'+1:=⟨m-1,by simp at h3;omega⟩
  have e1:=dJ h1;have e3:decide ((k:Int)<(b.length:Int))=false:=by simp;omega
  rw[M9,aE3,e3,bU,bH (by simp)]
 |cons y l ih=>
  intro k m h1 h3;obtain⟨m,rfl⟩: ∃m',m=m'+1:=⟨m-1,by simp at h3;omega⟩
  obtain⟨a1,a2,a3⟩:=dL h1;have e3:decide ((k:Int)<(b.length:Int))=true:=by simp;omega
  rw[M9,aE3,e3,cC,bZ,a1,cY];by_cases e:x=y
  .rw[bF e,cC,bI (by rw[e];exact aH ..)]
  .rw[bG e,bU,dU (by omega),ih (k+1) m a3 (by simp at h3;omega)]
   simp[e]
def aBC{c:cJ}{L:Nat}{a b:List G.Y}{u:G.T}(hu:c 19 [⟨.sl (.rc 3),([u]:List G.T)⟩]=some [⟨.sl (.rc 1),b⟩])(ha:a.length<1000000000)(hb:b.length<1000000000)(hL:b.length<L): ∀(l:List G.Y) (k m:Nat),a.drop k=l->l.length<m->
    KN c L m (a.length:Int) a (k:Int) u=some [⟨.bool,Xk l b⟩]:=by
 intro l;induction l with
 |nil=>
  intro k m h1 h3;obtain⟨m,rfl⟩: ∃m',m=m'+1:=⟨m-1,by simp at h3;omega⟩
  have e1:=dJ h1;have e3:decide ((k:Int)<(a.length:Int))=false:=by simp;omega
  rw[KN,aE4,e3,bU,Qz]
 |cons y l ih=>
  intro k m h1 h3;obtain⟨m,rfl⟩: ∃m',m=m'+1:=⟨m-1,by simp at h3;omega⟩
  obtain⟨a1,a2,a3⟩:=dL h1;have e3:decide ((k:Int)<(a.length:Int))=true:=by simp;omega
  have h2:=aQp (c:=c) (L:=L) (n1:=KN c L m) (a:=a) (i:=k) (x:=y) (u:=u) hb b 0 L rfl hL;rw[KN,aE4,e3,cC,bZ,a1,cY,hu,Bl];refine h2.trans ?_;rw[Km];by_cases e:y∈b
  .rw[bI e,bF e];rfl
  .rw[bH e,bG e,dU (by omega),ih (k+1) m a3 (by simp at h3;omega)];rfl
def aQo{t u:G.T}{L n:Nat}(ht:kA t+1<1000000)(hu:kA u+1<1000000)(hL:kA t+kA u+2<L)(hn:kA t+kA u+10<=n):cG L n 7 [⟨.rc 3,t⟩,⟨.rc 3,u⟩]=some [⟨.bool,Xk (iY [] [t]) (iY [] [u])⟩]:=by
 obtain⟨n,rfl⟩: ∃n',n=n'+1:=⟨n-1,by omega⟩
 have h1:=aFw [t] (by simp only[dH];omega) L n (by simp only[dH];omega) (by simp only[dH];omega)
 have h2:=aFw [u] (by simp only[dH];omega) L n (by simp only[dH];omega) (by simp only[dH];omega)
 have l1:=vD (l:=[t]) (λx _=>rF x) []
 have l2:=vD (l:=[u]) (λx _=>rF x) []
 simp only[aX,dH]at l1 l2;rw[c7,F7,aOo,h1,Bl];exact aBC (a:=iY [] [t]) h2 (by omega) (by omega) (by omega) _ 0 L rfl (by omega)
namespace Ho
section
variable{c:cJ}{L:Nat}{a:List G.T}
def aB5{n3:Int->Int->Int->Int->Int->List G.T->List Int->Rt}{n2:Int->List G.T->Int->List Int->Rt}{x y:Nat}{k i0 i1 i2 n:Int}(hn:a.length<1000000000): ∀(j q m:Nat) (l:List Nat),q+j=l.length->l.length=a.length->j<m->
    NG c L n3 n2 m (l.length:Int) (x:Int) (y:Int) (q:Int) k i0 i1 i2 n a (eG l)=n3 i0 i1 (IntKind.i64.wrap (k+1)) i2 n a (eG (iG q y x l)):=by
 intro j;induction j with
 |zero=>
  intro q m l h1 h2 h3;obtain⟨m,rfl⟩: ∃m',m=m'+1:=⟨m-1,by omega⟩
  have e3:decide ((q:Int)<(l.length:Int))=false:=by simp;omega
  rw[NG,aFg,e3,bU,ZV,aFh,Qo (by omega)]
 |succ j ih=>
  intro q m l h1 h2 h3;obtain⟨m,rfl⟩: ∃m',m=m'+1:=⟨m-1,by omega⟩
  have e3:decide ((q:Int)<(l.length:Int))=true:=by simp;omega
  have hi:bV (q:Int) (eG l).length=true:=xJ (by rw[gK];omega)
  rw[NG,aFg,e3,cC,hi,eH,bZ,jJ (by omega),cY,eH,cY,JT (by omega)]
  by_cases e:Ic.at0 l q=x
  .rw[bF (by omega),cC,aEY,aFf,vS,dU (by omega),bI e]
   have:=ih (q+1) m (l.set q y) (by rw[List.length_set];omega) (by rw[List.length_set];exact h2) (by omega)
   rwa [List.length_set]at this
  .rw[bG (by omega),bU,aEY,aFf,dU (by omega),bH e]
   exact ih (q+1) m l (by omega) h2 (by omega)
def aB6(hc: ∀i k (t u:G.T),a[i]?=some t->a[k]?=some u->c 7 [⟨.rc 3,t⟩,⟨.rc 3,u⟩]=some [⟨.bool,shr a i k⟩])
    {n2:Int->List G.T->Int->List Int->Rt} {i:Nat} (hi:i<a.length) (hn:a.length<1000000000) (hL:a.length<L): ∀(j k m:Nat) (l:List Nat),k+j=i->l.length=a.length->j<m->
    Gh c L n2 m (i:Int) (i:Int) (k:Int) (i:Int) (a.length:Int) a (eG l)=n2 (a.length:Int) a (IntKind.i64.wrap ((i:Int)+1)) (eG (Ic.inn (shr a) i j k l)):=by
 intro j;induction j with
 |zero=>
  intro k m l h1 h2 h3;obtain⟨m,rfl⟩: ∃m',m=m'+1:=⟨m-1,by omega⟩
  have e3:decide ((k:Int)<(i:Int))=false:=by simp;omega
  rw[Gh,aFi,e3,bU];rfl
 |succ j ih=>
  intro k m l h1 h2 h3;obtain⟨m,rfl⟩: ∃m',m=m'+1:=⟨m-1,by omega⟩
  have e3:decide ((k:Int)<(i:Int))=true:=by simp;omega
  have r1:bV (i:Int) (eG l).length=true:=xJ (by rw[gK];omega)
  have r2:bV (k:Int) (eG l).length=true:=xJ (by rw[gK];omega)
  obtain⟨t,ht⟩: ∃t,a[i]?=some t:=⟨_,aV hi⟩;obtain⟨u,hu⟩: ∃u,a[k]?=some u:=⟨_,aV (by omega)⟩
  have next: ∀l':List Nat,l'.length=a.length->Ic.stp (shr a i k) i k l=l'->Gh c L n2 m (i:Int) (i:Int) (IntKind.i64.wrap ((k:Int)+1)) (i:Int) (a.length:Int) a (eG l')=n2 (a.length:Int) a (IntKind.i64.wrap ((i:Int)+1)) (eG (Ic.inn (shr a) i (j+1) k l)):=λl' dw e=>by
   rw[dU (by omega),ih (k+1) m l' (by omega) dw (by omega),Ic.inn,e]
  rw[Gh,aFi,e3,cC,bZ,ht,cY,bZ,hu,cY,hc i k t u ht hu,lZ];simp only[];cases hs:shr a i k with
  |false=>
   rw[Bool.not_false,cC,ZV,aFh];refine next l h2 ?_
   rw[hs];rfl
  |true=>
   rw[bD,bU,r1,eH,bZ,jJ (by omega),cY,r2,eH,bZ,jJ (by omega),cY,eH,cY,eH,cY,a3Q,a3P,gK]
   refine(aB5 hn l.length 0 L l (by omega) h2 (by omega)).trans ?_
   rw[aGs];exact next _ (by rw[Ic.mg_len];exact h2) (by rw[hs];rfl)
def aB7(hc: ∀i k (t u:G.T),a[i]?=some t->a[k]?=some u->c 7 [⟨.rc 3,t⟩,⟨.rc 3,u⟩]=some [⟨.bool,shr a i k⟩])
    (hn:a.length<1000000) (hL:a.length<L): ∀(j i m:Nat) (l:List Nat),i+j=a.length->l.length=a.length->j<m->
    NH c L m (a.length:Int) a (i:Int) (eG l)=some [⟨.sl (.int .i64),eG (Ic.outr (shr a) j i l)⟩]:=by
 intro j;induction j with
 |zero=>
  intro i m l h1 h2 h3;obtain⟨m,rfl⟩: ∃m',m=m'+1:=⟨m-1,by omega⟩
  have e3:decide ((i:Int)<(a.length:Int))=false:=by simp;omega
  rw[NH,aFj,e3,bU];rfl
 |succ j ih=>
  intro i m l h1 h2 h3;obtain⟨m,rfl⟩: ∃m',m=m'+1:=⟨m-1,by omega⟩
  have e3:decide ((i:Int)<(a.length:Int))=true:=by simp;omega
  rw[NH,aFj,e3,cC];refine(aB6 hc (by omega) (by omega) hL i 0 L l (by omega) h2 (by omega)).trans ?_
  rw[dU (by omega)]
  exact ih (i+1) m _ (by omega) (by rw[Ic.inn_len];exact h2) (by omega)
def aB8(hc: ∀i k (t u:G.T),a[i]?=some t->a[k]?=some u->c 7 [⟨.rc 3,t⟩,⟨.rc 3,u⟩]=some [⟨.bool,shr a i k⟩])
    (hn:a.length<1000000) (hL:a.length<L): ∀(j k m:Nat),k+j=a.length->j<m->
    NI c L m (a.length:Int) (k:Int) a (eG (num k a.length))=some [⟨.sl (.int .i64),eG (Ic.lab (shr a) a.length)⟩]:=by
 intro j;induction j with
 |zero=>
  intro k m h1 h3;obtain⟨m,rfl⟩: ∃m',m=m'+1:=⟨m-1,by omega⟩
  have e3:decide ((k:Int)<(a.length:Int))=false:=by simp;omega
  obtain rfl:k=a.length:=by omega
  rw[NI,aFk,e3,bU,aF5];exact aB7 hc hn hL a.length 0 L (List.range a.length) (by omega) (List.length_range) hL
 |succ j ih=>
  intro k m h1 h3;obtain⟨m,rfl⟩: ∃m',m=m'+1:=⟨m-1,by omega⟩
  have e3:decide ((k:Int)<(a.length:Int))=true:=by simp;omega
  have nl:(num k a.length).length=a.length:=P7 (by omega)
  have r1:bV (k:Int) (eG (num k a.length)).length=true:=xJ (by rw[gK,nl];omega)
  rw[NI,aFk,e3,cC,r1,eH,bZ,jJ (by rw[nl];omega),cY,vS,P6 (by omega),dU (by omega)]
  exact ih (k+1) m (by omega) (by omega)
def lab_ok(hc: ∀i k (t u:G.T),a[i]?=some t->a[k]?=some u->c 7 [⟨.rc 3,t⟩,⟨.rc 3,u⟩]=some [⟨.bool,shr a i k⟩])
    (hn:a.length<1000000) (hL:a.length<L):F1 c L a=some [⟨.sl (.int .i64),eG (Ic.lab (shr a) a.length)⟩]:=by
 have e1:(decide (0<=(a.length:Int))&&decide ((a.length:Int)<=(a.length:Int))&&decide ((a.length:Int)*(8:Int)<=1073741824)&&decide ((a.length:Int)<=1073741824))=true:=by
  simp only[aC,aD];omega
 have e3:decide ((a.length:Int)=(a.length:Int))=true:=by simp
 rw[F1,aOs,e1,e3,eH,eH,Int.toNat_natCast,wO,<-aF6];exact aB8 hc hn hL a.length 0 L (by omega) hL
end
end Ho
end Go.TV
namespace Go.TV
open Go.AI Go.PI Go.Proofs
set_option maxRecDepth 20000
def aV4{c:cJ}{L:Nat}{n1:List (List Int)->List (List Int)->Int->Rt}{g:List (List Int)}{i:Nat}{r:List Int}(hr:g[i]?=some r)(hn:r.length<1000000000): ∀(l:List Int) (k m:Nat),r.drop k=l->l.length<m->
    NJ c L n1 m (k:Int) (i:Int) g g=n1 g g (IntKind.i64.wrap ((i:Int)+1)):=by
 intro l;induction l with
 |nil=>
  intro k m h1 h3;obtain⟨m,rfl⟩: ∃m',m=m'+1:=⟨m-1,by simp at h3;omega⟩
  have e1:=dJ h1;have e3:decide ((k:Int)<(r.length:Int))=false:=by simp;omega
  rw[NJ,aFl,bZ,hr,cY,e3,bU]
 |cons x l ih=>
  intro k m h1 h3;obtain⟨m,rfl⟩: ∃m',m=m'+1:=⟨m-1,by simp at h3;omega⟩
  obtain⟨a1,a2,a3⟩:=dL h1;have e3:decide ((k:Int)<(r.length:Int))=true:=by simp;omega
  have e4:(!decide (x=x))=false:=by simp
  rw[NJ,aFl,bZ,hr,cY,e3,cC,cY,bZ,a1,cY,cY,bZ,a1,cY,e4,bU,dU (by omega)]
  exact ih (k+1) m a3 (by simp at h3;omega)
def aCS{c:cJ}{L:Nat}{g:List (List Int)}(hn:g.length<1000000000)(hg: ∀r∈g,r.length<1000000000/\r.length<L): ∀(l:List (List Int)) (k m:Nat),g.drop k=l->l.length<m->
    NK c L m g g (k:Int)=some [⟨.bool,true⟩]:=by
 intro l;induction l with
 |nil=>
  intro k m h1 h3;obtain⟨m,rfl⟩: ∃m',m=m'+1:=⟨m-1,by simp at h3;omega⟩
  have e1:=dJ h1;have e3:decide ((k:Int)<(g.length:Int))=false:=by simp;omega
  rw[NK,aFm,e3,bU]
 |cons x l ih=>
  intro k m h1 h3;obtain⟨m,rfl⟩: ∃m',m=m'+1:=⟨m-1,by simp at h3;omega⟩
  obtain⟨a1,a2,a3⟩:=dL h1;have e3:decide ((k:Int)<(g.length:Int))=true:=by simp;omega
  have e4:(!decide ((x.length:Int)=(x.length:Int)))=false:=by simp
  obtain⟨q1,q2⟩:=hg x (List.mem_of_getElem? a1);rw[NK,aFm,e3,cC,bZ,a1,cY,cY,e4,bU];refine(aV4 (c:=c) (L:=L) a1 q1 x 0 L rfl q2).trans ?_;rw[dU (by omega)]
  exact ih (k+1) m a3 (by simp at h3;omega)
def Vt{W:Type}{a:List (List Int)}{K:List (List Int)×Unit->Option W}:fZ (D:=U0.D) [.sl (.sl (.int .i64))] (some [⟨.sl (.sl (.int .i64)),a⟩]) K=K (a,()):=rfl
def aLn{W:Type}{a:List G.T}{s:G.Z}{K:List G.T×G.Z×Unit->Option W}:fZ (D:=U0.D) [.sl (.rc 3),.rc 0] (some [⟨.sl (.rc 3),a⟩,⟨.rc 0,s⟩]) K=K (a,s,()):=rfl
def aNt(a:List G.T):List (List Int):=(Ic.grp (Ic.lab (shr a) a.length)).map eG
def aEl(a:List G.T):(aNt a).length<=a.length/\∀r∈aNt a,r.length<=a.length:=by
 have hl:=Ic.lab_len (shr a) a.length;refine⟨?_,λr hr=>?_⟩
 .unfold aNt Ic.grp;rw[List.length_map,Ic.grpN_len];have:=Ic.fst_le (Ic.lab (shr a) a.length) (Ic.lab (shr a) a.length).length;omega
 .unfold aNt Ic.grp Ic.grpN at hr;obtain⟨g,hg,rfl⟩:=List.mem_map.1 hr;obtain⟨f,_,rfl⟩:=List.mem_map.1 hg;rw[gK];have:=Ic.wth_le (Ic.lab (shr a) a.length) (Ic.lab (shr a) a.length).length f;omega
def Ux{c:cJ}{L:Nat}{E:List G.E}(haw:c 2 []=some [⟨.bool,true⟩])(hwo:c 3 [⟨.int .u32,(0:Int)⟩]=some [⟨.sl (.rc 15),E⟩])
    (dx: ∀s,eB s->aXl (c 4 [⟨.sl (.rc 15),E⟩,⟨.rc 0,s⟩]))
    (hP: ∀a:List G.T,a.length<=6->dH a<=31000->c 5 [⟨.sl (.rc 3),a⟩]=some [⟨.sl (.sl (.int .i64)),aNt a⟩])
    (hR: ∀a:List G.T,a.length<=6->dH a<=31000->c 6 [⟨.sl (.rc 3),a⟩]=some [⟨.sl (.sl (.int .i64)),aNt a⟩])
    (hL:10<=L) {b:List Int} (hb: ∀x∈b,0<=x/\x<256):F0 c L b=some [⟨.bool,true⟩]:=by
 have o1: ∀{W:Type} {x:Bool} {K:Bool×Unit->Option W},mZ (some [⟨.bool,x⟩]) K=K (x,()):=rfl;have o2: ∀{W:Type} {x:List G.E} {K:List G.E×Unit->Option W},fZ (D:=U0.D) [.sl (.rc 15)] (some [⟨.sl (.rc 15),x⟩]) K=K (x,()):=rfl;rw[F0,aOt,haw,o1];simp only[bD];rw[bU];by_cases hl:(100:Int)<(b.length:Int)
 .rw[bF hl,cC]
 .rw[bG hl,bU,hwo,o2];obtain⟨a,s,e,h1,h2⟩:=dx ⟨b,0⟩ ⟨hb,Int.le_refl _,Int.natCast_nonneg _,by show b.length<=100;omega⟩
  simp only[];rw[e,aLn];simp only[];rw[hP a h1 h2,Vt,hR a h1 h2,Vt];obtain⟨q1,q2⟩:=aEl a;simp only[bM,bD];rw[bU];exact aCS (by omega) (λr hr=>by have:=q2 r hr;omega) (aNt a) 0 L rfl (by omega)
end Go.TV
