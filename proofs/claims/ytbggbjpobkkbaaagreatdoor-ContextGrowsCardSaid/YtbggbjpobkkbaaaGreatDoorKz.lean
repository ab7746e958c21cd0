import Derived.Test.YtbggbjpobkkbaaaGreatDoorKv
import Derived.Test.YtbggbjpobkkbaaaGreatDoorKx
import Derived.Test.YtbggbjpobkkbaaaGreatDoorKw
import Derived.Test.YtbggbjpobkkbaaaGreatDoorKy
set_option linter.unusedVariables false
set_option linter.unusedSimpArgs false
set_option linter.constructorNameAsVariable false
namespace Go.TV
open Go.AI Go.PI Go.Proofs
theorem aHc{t:G.T}{s:List UInt8}{k:Int}{L n:Nat}:CTp L (n+1) 20 (tsi t s k)=some (bb (isA t s k)):=by
 show CTp L (n+1) 20 [yR 3 _,yT _,yI _]=_;rw[c20,F20,B20x0];simp only[J20x1,B20x1,isA];cases t with|mk kk nm v l=>
 cases nm with|mk p q=>
 by_cases e1:kk=3
 ·by_cases e2:p=fS
  ·by_cases e3:q=s
   ·simp[G.T.kind,G.T.name,G.T.args,G.Y.package,G.Y.name,fS,e1,e2,e3,cnd,bb]
   ·simp[G.T.kind,G.T.name,G.T.args,G.Y.package,G.Y.name,fS,e1,e2,e3,cnd,bb]
  ·have e2': ¬p=[108,105,115,112]:=e2;simp[G.T.kind,G.T.name,G.T.args,G.Y.package,G.Y.name,fS,e1,e2',cnd,bb]
 ·simp[G.T.kind,e1,cnd,bb]
end Go.TV
namespace Go.TV
open Go.AI Go.PI Go.Proofs
set_option maxRecDepth 20000
theorem aE4{β:Type}{b:G.O}{K:G.O×Unit→Option β}:obL (D:=U0.D) [.rc 2] (some [⟨.rc 2,b⟩]) K=K (b,()):=rfl
theorem oT_ok{L n:Nat}:CTp L (n+2) 127 []=some [⟨.rc 2,(⟨2,[],[],⟨fS,[116]⟩,[],[]⟩:G.O)⟩]:=by
 rw[c127,F127,aHr,c148];rfl
structure BaA(c:TC0)(B:Nat):Prop where
 z: ∃o:G.O,c 97 [⟨.int .i64,(0:Int)⟩]=some [⟨.rc 2,o⟩]
 k: ∀o:G.O,TeR (c 98 [⟨.rc 2,o⟩])
 e: ∀x:G.T,tsz x≤B→∀y:G.T,c 24 [⟨.rc 3,x⟩,⟨.rc 3,y⟩]=some [⟨.bool,decide (x=y)⟩]
 s: ∀x:G.T,tsz x≤B→BoR (c 99 [⟨.rc 3,x⟩])
 o: ∀o:G.O,osz o≤B→InR (c 59 [⟨.rc 2,o⟩])
 q: ∀x y:G.T,TeR (c 23 [⟨.rc 3,x⟩,⟨.rc 3,y⟩])
 r: ∀f:G.Y,IbR (c 25 [⟨.rc 1,f⟩])
theorem sim_ok{c:TC0}{L B:Nat}(h1: ∀o:G.O,BoR (c 18 [⟨.rc 2,o⟩]))(h2: ∀o:G.O,osz o≤B→∀p:G.O,BoR (c 56 [⟨.rc 2,o⟩,⟨.rc 2,p⟩]))(h3: ∃o:G.O,c 127 []=some [⟨.rc 2,o⟩])
    (h4: ∃o:G.O,c 97 [⟨.int .i64,(0:Int)⟩]=some [⟨.rc 2,o⟩]) {x:G.T} (hx:osz x.value≤B):BoR (F99 c L x):=by
 rw[F99,B99x0];have k1: ∀b,BoR (J99x1 c L b):=fun b=>⟨b,rfl⟩
 refine cG (fun _=>?_) fun _=>k1 _
 obtain⟨b,e⟩:=h1 x.value;rw[e,bT];refine cG (fun _=>k1 _) fun _=>?_
 obtain⟨o,e⟩:=h3;rw[e,aE4];obtain⟨b,e⟩:=h2 x.value hx o;simp only[];rw[e,bT];refine cG (fun _=>k1 _) fun _=>?_
 obtain⟨o,e⟩:=h4;rw[e,aE4];obtain⟨b,e⟩:=h2 x.value hx o;simp only[];rw[e,bT];exact k1 _
theorem arg1{x:G.T}(h:decide ((x.args.length:Int)=1)=true): ∃p,x.args=[p]:=len1 (by have:=of_decide_eq_true h;omega)
theorem arg2{x:G.T}(h:(!decide ((x.args.length:Int)=2))=false): ∃p q,x.args=[p,q]:=len2 (by
 have:decide ((x.args.length:Int)=2)=true:=by simpa using h
 have:=of_decide_eq_true this;omega)
theorem lT(x:G.T):osz x.value+2≤tsz x:=by cases x;simp only[G.T.value,tsz];omega
theorem bas_ok{c:TC0}{L B:Nat}(h:BaA c B){a u:G.T}(ha:tsz a≤B):ItR (F77 c L a u):=by
 rw[F77,B77x0];have k5: ∀x y,ItR (aG0 c L x y):=fun x y=>⟨_,_,_,rfl⟩
 have k6: ∀b x y,ItR (J77x6 c L b x y):=fun b x y=>by
  rw[J77x6,B77x6];exact cG (fun _=>⟨_,_,_,rfl⟩) fun _=>k5 _ _
 have k7: ∀b x y z w,osz y.value≤B→ItR (J77x7 c L b x y z w):=fun b x y z w hy=>by
  rw[J77x7,B77x7];refine cG (fun _=>?_) fun _=>k5 _ _
  obtain⟨i,e⟩:=h.o y.value hy;rw[e,kJ];simp only[];obtain⟨t,e⟩:=h.q x y;rw[e,iP];exact⟨_,_,_,rfl⟩
 have k4: ∀b x y z w v,tsz y≤B→tsz z≤B→ItR (J77x4 c L b x y z w v):=fun b x y z w v hy hz=>by
  have h1:=lT y;have h2:=lT z;rw[J77x4,B77x4];refine cG (fun _=>?_) fun _=>?_
  ·obtain⟨i,e⟩:=h.o y.value (by omega)
   rw[e,kJ];exact⟨_,_,_,rfl⟩
  ·rw[h.e y hy x,bT];refine cG (fun _=>?_) fun _=>k7 _ _ _ _ _ (by omega)
   obtain⟨b,e⟩:=h.s z hz;rw[e,bT];exact k7 _ _ _ _ _ (by omega)
 have k3: ∀b x y z w v r,tsz x≤B→tsz z≤B→ItR (J77x3 c L b x y z w v r):=fun b x y z w v r hx hz=>by
  rw[J77x3,B77x3];refine cG (fun _=>⟨_,_,_,rfl⟩) fun _=>?_
  rw[h.e x hx y,bT];refine cG (fun _=>?_) fun _=>k6 _ _ _
  rw[h.e z hz w,bT];exact k6 _ _ _
 have k2: ∀b i x y z,tsz y≤B→ItR (J77x2 c L b i x y z):=fun b i x y z hy=>by
  rw[J77x2,B77x2];refine cG (fun _=>⟨_,_,_,rfl⟩) fun _=>cG (fun _=>⟨_,_,_,rfl⟩) fun e=>?_
  obtain⟨p,q,e⟩:=arg2 e;have hs:=jV y;rw[e]at hs⊢;simp only[eX]at hs;rw[show idx [p,q] (0:Int)=some p from rfl,show idx [p,q] (1:Int)=some q from rfl,eR,eR]
  obtain⟨o,e⟩:=h.z;rw[e,aE4];simp only[];obtain⟨t,e⟩:=h.k o;rw[e,iP];simp only[];refine cG (fun _=>?_) fun _=>cG (fun _=>?_) fun _=>k5 _ _
  ·rw[h.e p (by omega) x,bT]
   refine cG (fun _=>?_) fun _=>k3 _ _ _ _ _ _ _ (by omega) (by omega)
   rw[h.e q (by omega) t,bT]
   exact k3 _ _ _ _ _ _ _ (by omega) (by omega)
  ·rw[h.e p (by omega) x,bT]
   refine cG (fun _=>?_) fun _=>k4 _ _ _ _ _ _ (by omega) (by omega)
   obtain⟨b,e⟩:=h.s q (by omega)
   rw[e,bT];exact k4 _ _ _ _ _ _ (by omega) (by omega)
 have k1: ∀b x y z,tsz y≤B→ItR (J77x1 c L b x y z):=fun b x y z hy=>by
  rw[J77x1,B77x1];refine cG (fun _=>⟨_,_,_,rfl⟩) fun _=>?_
  obtain⟨i,b,e⟩:=h.r y.name;rw[e,kQ];refine cG (fun _=>cG (fun e=>?_) fun _=>k2 _ _ _ _ _ hy) fun _=>k2 _ _ _ _ _ hy
  obtain⟨p,e⟩:=arg1 e;have hs:=jV y;rw[e]at hs⊢;simp only[eX]at hs;rw[show idx [p] (0:Int)=some p from rfl,eR,h.e p (by omega) x,bT]
  exact k2 _ _ _ _ _ hy
 exact cG (fun _=>k1 _ _ _ _ ha) fun _=>k1 _ _ _ _ ha
theorem abo_ok{c:TC0}{L B:Nat}(h: ∀x:G.T,tsz x≤B→∀y:G.T,c 24 [⟨.rc 3,x⟩,⟨.rc 3,y⟩]=some [⟨.bool,decide (x=y)⟩])(h2: ∀x:G.T,tsz x≤B→∀y:G.T,ItR (c 77 [⟨.rc 3,x⟩,⟨.rc 3,y⟩]))(h3: ∀x:G.T,TeR (c 76 [⟨.rc 3,x⟩]))
    (h4: ∀x:G.T,c 20 [⟨.rc 3,x⟩,⟨.str,sI⟩,⟨.int .i64,(1:Int)⟩]=some [⟨.bool,isA x sI 1⟩]) {a u:G.T} (ha:tsz a≤B):ItR (F61 c L a u):=by
 simp only[sI]at h4;rw[F61,B61x0,h a ha u,bT];refine cG (fun _=>?_) fun _=>?_
 ·obtain⟨t,e⟩:=h3 u;rw[e,iP];exact⟨_,_,_,rfl⟩
 obtain⟨i,t,b,e⟩:=h2 a ha u;rw[e,zW];refine cG (fun _=>?_) fun _=>?_
 ·obtain⟨t,e⟩:=h3 t;simp only[];rw[e,iP];exact⟨_,_,_,rfl⟩
 rw[h4 a,bT];refine cG (fun _=>⟨_,_,_,rfl⟩) fun e=>?_
 obtain⟨p,hp⟩:=len1 (uF (k:=1) (s:=sI) (by simpa [sI]using e))
 have hs:=jV a;rw[hp]at hs⊢;simp only[eX]at hs;rw[show idx [p] (0:Int)=some p from rfl,eR,h p (by omega) u,bT]
 refine cG (fun _=>⟨_,_,_,rfl⟩) fun _=>?_
 rw[eR];obtain⟨i,t,b,e⟩:=h2 p (by omega) u
 rw[e,zW];exact⟨_,_,_,rfl⟩
end Go.TV
namespace Go.TV
open Go.AI Go.PI Go.Proofs
theorem tK:rowsL=[⟨[105,102],3⟩,⟨[101,113,117,97,108],2⟩,⟨[99,111,110,115],2⟩,⟨[99,97,114],1⟩,⟨[99,100,114],1⟩,⟨[99,111,110,115,112],1⟩,⟨[115,121,109,98,111,108,112],1⟩,⟨[115,116,114,105,110,103,112],1⟩,⟨[114,97,116,105,111,110,97,108,112],1⟩,⟨[105,110,116,101,103,101,114,112],1⟩,⟨[98,105,110,97,114,121,45,43],2⟩,⟨[98,105,110,97,114,121,45,42],2⟩,⟨[117,110,97,114,121,45,45],1⟩,⟨[117,110,97,114,121,45,47],1⟩,⟨[60],2⟩,⟨[110,117,109,101,114,97,116,111,114],1⟩,⟨[100,101,110,111,109,105,110,97,116,111,114],1⟩,⟨[102,108,111,111,114],1⟩,⟨[115,121,109,98,111,108,45,110,97,109,101],1⟩,⟨[115,121,109,98,111,108,45,112,97,99,107,97,103,101,45,110,97,109,101],1⟩,⟨[105,110,116,101,114,110],2⟩,⟨[115,116,114,105,110,103,45,97,112,112,101,110,100],2⟩,⟨[115,116,114,105,110,103,45,108,101,110,103,116,104],1⟩,⟨[115,116,114,105,110,103,45,98,121,116,101],2⟩,⟨[98,121,116,101,45,115,116,114,105,110,103],1⟩]:=rfl
theorem qT{x:List UInt8}: ∀{l:List G.R},(∀r∈l,¬r.name=x)→jP x l=none
 |[],_=>rfl
 |r::l,h=>by rw[jP,if_neg (h r (mhE ..)),qT fun y hy=>h y (mtE _ hy)]
theorem ArP_ok(s:G.Y)(L n:Nat):CTp L (n+1) 60 [yR 1 s]=some (oI (arity s)):=by
 rw[c60,F60,B60x0];by_cases e:s.package=fS
 ·have e':decide (s.package=([108,105,115,112]:List UInt8))=true:=decide_eq_true e;have ea:arity s=jP s.name rowsL:=by simp[arity,e]
  rw[e',ea];simp only[bnT,aI];generalize s.name=x;simp only[J60x1,J60x2,B60x1,B60x2];by_cases hm: ∃r∈rowsL,r.name=x
  ·obtain⟨r,hr,rfl⟩:=hm;rw[tK]at hr;simp only[List.mem_cons,List.not_mem_nil,or_false]at hr;rcases hr with rfl|rfl|rfl|rfl|rfl|rfl|rfl|rfl|rfl|rfl|rfl|rfl|rfl|rfl|rfl|rfl|rfl|rfl|rfl|rfl|rfl|rfl|rfl|rfl|rfl
   all_goals rfl
  ·have hn: ∀r∈rowsL,¬r.name=x:=fun r hr h=>hm ⟨r,hr,h⟩
   rw[qT hn];rw[tK]at hn;simp only[List.forall_mem_cons,G.R.name]at hn;obtain⟨h0,h1,h2,h3,h4,h5,h6,h7,h8,h9,h10,h11,h12,h13,h14,h15,h16,h17,h18,h19,h20,h21,h22,h23,h24,-⟩:=hn;simp only[Ne.symm h0,Ne.symm h1,Ne.symm h2,Ne.symm h3,Ne.symm h4,Ne.symm h5,Ne.symm h6,Ne.symm h7,Ne.symm h8,Ne.symm h9,Ne.symm h10,Ne.symm h11,Ne.symm h12,Ne.symm h13,Ne.symm h14,Ne.symm h15,Ne.symm h16,Ne.symm h17,Ne.symm h18,Ne.symm h19,Ne.symm h20,Ne.symm h21,Ne.symm h22,Ne.symm h23,Ne.symm h24,decide_false,aI,oI]
 ·have e':decide (s.package=([108,105,115,112]:List UInt8))=false:=decide_eq_false e;have ea:arity s=none:=by simp[arity,e]
  rw[e',ea];rfl
end Go.TV
namespace Go.TV
open Go.AI Go.PI Go.Proofs
set_option maxRecDepth 20000
def band(b i:Int):Int:=IntKind.i64.wrap ((BitVec.ofInt IntKind.i64.bits b&&&BitVec.ofInt IntKind.i64.bits i).toNat:Int)
def abS(r:Rt)(b:Int):Int:=match r with
 |some [⟨.int .i64,i⟩,_,⟨.bool,true⟩]=>band b i
 |_=>b
def fol(c:TC0)(u:G.T)(b:Int):List G.T→Int
 |[]=>b
 |x::l=>fol c u (abS (c 61 [⟨.rc 3,x⟩,⟨.rc 3,u⟩]) b) l
theorem aFq(c:TC0)(u x:G.T): ∀(l:List G.T) (b:Int),fol c u b (l++ [x])=abS (c 61 [⟨.rc 3,x⟩,⟨.rc 3,u⟩]) (fol c u b l)
 |[],b=>rfl
 |y::l,b=>aFq c u x l _
theorem Ty_loop{c:TC0}{L:Nat}{u:G.T}{a:List G.T}(hb:a.length<1000000)(h1: ∀x:G.T,c 22 [⟨.rc 3,x⟩]=some [⟨.rc 3,neg x⟩]): ∀(l:List G.T) (k m:Nat) (b:Int),a.drop k=l→l.length<m→
    (∀x∈l,ItR (c 61 [⟨.rc 3,x⟩,⟨.rc 3,u⟩]))→aA2 c L m (a.length:Int) a u (k:Int) b=some [⟨.int .i64,fol c u b l⟩]:=by
 intro l;induction l with
 |nil=>
  intro k m b e h3 _;obtain⟨m,rfl⟩: ∃m',m=m'+1:=⟨m-1,by simp at h3;omega⟩
  have e1:=cU e;have e3:decide ((k:Int)<(a.length:Int))=false:=by simp;omega
  rw[aA2,B26x3,e3,aI,fol]
 |cons x l ih=>
  intro k m b e h3 h4;obtain⟨m,rfl⟩: ∃m',m=m'+1:=⟨m-1,by simp at h3;omega⟩
  obtain⟨a1,a2,a3⟩:=cB e;have e3:decide ((k:Int)<(a.length:Int))=true:=by simp;omega
  obtain⟨i,t,q,e5⟩:=h4 x (mhE ..);have hi:=fun b=>ih (k+1) m b a3 (by simp at h3;omega) fun z hz=>h4 z (mtE _ hz)
  rw[aA2,B26x3,e3,aQ,bF,a1,eR,e5,zW,fol,e5];cases q with
  |true=>
   simp only[aQ];rw[h1 x,iP,J26x5,B26x5,gC (by omega),hi];rfl
  |false=>
   simp only[aI];rw[J26x5,B26x5,gC (by omega),hi];rfl
def ifB:List UInt8:=[105,102]
theorem aGn{s:G.Y}{k:Int}(h:arity s=some k):s.package=fS∧∃r∈rowsL,r.name=s.name∧r.arity=k:=by
 unfold arity at h;split at h
 ·rename_i e;refine⟨e,?_⟩;generalize rowsL=l at h;induction l with
  |nil=>cases h
  |cons r l ih=>
   simp only[jP]at h;split at h
   ·rename_i e2;cases h;exact⟨r,mhE ..,e2,rfl⟩
   ·obtain⟨r',h1,h2⟩:=ih h;exact⟨r',mtE _ h1,h2⟩
 ·cases h
theorem pr_all(L M:Nat): ∀r∈rowsL,r.name≠ifB→(r.arity=1∧InR (cF L M 60 62 (prA r.name 1)))∨(r.arity=2∧InR (cF L M 60 62 (prA r.name 2))):=by
 rw[tK];intro r hr hne;simp only[List.mem_cons,List.not_mem_nil,or_false]at hr;rcases hr with rfl|rfl|rfl|rfl|rfl|rfl|rfl|rfl|rfl|rfl|rfl|rfl|rfl|rfl|rfl|rfl|rfl|rfl|rfl|rfl|rfl|rfl|rfl|rfl|rfl
 ·exact(hne rfl).elim
 ·exact .inr ⟨rfl,pw1 L M⟩
 ·exact .inr ⟨rfl,pw2 L M⟩
 ·exact .inl ⟨rfl,pw3 L M⟩
 ·exact .inl ⟨rfl,pw4 L M⟩
 ·exact .inl ⟨rfl,pw5 L M⟩
 ·exact .inl ⟨rfl,pw6 L M⟩
 ·exact .inl ⟨rfl,pw7 L M⟩
 ·exact .inl ⟨rfl,pw8 L M⟩
 ·exact .inl ⟨rfl,pw9 L M⟩
 ·exact .inr ⟨rfl,pw10 L M⟩
 ·exact .inr ⟨rfl,pw11 L M⟩
 ·exact .inl ⟨rfl,pw12 L M⟩
 ·exact .inl ⟨rfl,pw13 L M⟩
 ·exact .inr ⟨rfl,pw14 L M⟩
 ·exact .inl ⟨rfl,pw15 L M⟩
 ·exact .inl ⟨rfl,pw16 L M⟩
 ·exact .inl ⟨rfl,pw17 L M⟩
 ·exact .inl ⟨rfl,pw18 L M⟩
 ·exact .inl ⟨rfl,pw19 L M⟩
 ·exact .inr ⟨rfl,pw20 L M⟩
 ·exact .inr ⟨rfl,pw21 L M⟩
 ·exact .inl ⟨rfl,pw22 L M⟩
 ·exact .inr ⟨rfl,pw23 L M⟩
 ·exact .inl ⟨rfl,pw24 L M⟩
theorem oi0(L M:Nat):ObR (cF L M 60 97 [⟨.int .i64,(0:Int)⟩]):=kR (by kernel_rfl)
theorem tsz'_ap2(l r:List G.T):eX (l++r)=eX l+eX r:=by
 induction l with
 |nil=>simp[eX]
 |cons x l ih=>simp only[cnA,eX,ih];omega
theorem Ty_own{c:TC0}{L:Nat}{u:G.T}(hO:InR (c 59 [⟨.rc 2,u.value⟩]))(hI:c 20 [⟨.rc 3,u⟩,⟨.str,ifB⟩,⟨.int .i64,(u.args.length:Int)⟩]=some [⟨.bool,isA u ifB (u.args.length:Int)⟩])
    (hA:c 60 [⟨.rc 1,u.name⟩]=some (oI (arity u.name))) (hP: ∀r∈rowsL,r.name≠ifB→(r.arity=1∧InR (c 62 (prA r.name 1)))∨(r.arity=2∧InR (c 62 (prA r.name 2)))):
    ∃o:Int,∀a,F26 c (L+4) a u=rN c (L+4) a u o:=by
 simp only[ifB]at hI;by_cases e2:u.kind=2
 ·obtain⟨i,e⟩:=hO;refine⟨i,fun a=>?_⟩
  rw[F26,aHe,decide_eq_true e2,aQ,e,kJ]
 ·by_cases e3:u.kind=3
  ·have hf: ∀a,F26 c (L+4) a u=aDI c (L+4) (!isA u ifB (u.args.length:Int)) a u 2047:=fun a=>by
    rw[F26,aHe,decide_eq_false e2,aI,decide_eq_true e3,aQ,hI,bT];rfl
   cases hif:isA u ifB (u.args.length:Int)with
   |true=>exact⟨2047,fun a=>by rw[hf,hif,aDI,aA7];rfl⟩
   |false=>
    have hg: ∀a,F26 c (L+4) a u=aA7 c (aG1 c (L+4)) (rN c (L+4)) true a u 2047:=fun a=>by rw[hf,hif,aDI];rfl
    cases hr:arity u.name with
    |none=>
     rw[hr]at hA;have hA:c 60 [⟨.rc 1,u.name⟩]=some [⟨.int .i64,(0:Int)⟩,⟨.bool,false⟩]:=hA;exact⟨2047,fun a=>by rw[hg,aA7,aQ,hA,kQ];rfl⟩
    |some k=>
     rw[hr]at hA;have hA:c 60 [⟨.rc 1,u.name⟩]=some [⟨.int .i64,k⟩,⟨.bool,true⟩]:=hA;have hh: ∀a,F26 c (L+4) a u=aG1 c (L+4) (decide (k=(u.args.length:Int))) k a u 2047:=fun a=>by rw[hg,aA7,aQ,hA,kQ];rfl
     by_cases hk:k=(u.args.length:Int)
     ·obtain⟨hpk,r,hr1,hr2,hr3⟩:=aGn hr;have hnm:r.name≠ifB:=fun e=>by
       have:u.name=⟨fS,ifB⟩:=by cases hu:u.name with|mk p q=>rw[hu]at hpk hr2;simp only at hpk hr2;rw[hpk,←hr2,e]
       have h9:isA u ifB (u.args.length:Int)=true:=by simp[isA,e3,this]
       rw[h9]at hif;cases hif
      have hname:(⟨fS,r.name⟩:G.Y)=u.name:=by cases hu:u.name with|mk p q=>rw[hu]at hpk hr2;simp only at hpk hr2;rw[hpk,←hr2]
      rcases hP r hr1 hnm with⟨h1,i,e⟩|⟨h1,i,e⟩
      ·have hk1:k=1:=by omega
       subst hk1;rw[prA,hname]at e;refine⟨i,fun a=>?_⟩
       rw[hh,decide_eq_true hk];show obL (D:=U0.D) [.int .i64] (c 62 [⟨.rc 1,u.name⟩,⟨.sl (.int .i64),vN (2047:Int) 1⟩]) (fun r1=>rN c (L+4) a u r1.1)=_
       rw[e,kJ]
      ·have hk1:k=2:=by omega
       subst hk1;rw[prA,hname]at e;refine⟨i,fun a=>?_⟩
       rw[hh,decide_eq_true hk];show obL (D:=U0.D) [.int .i64] (c 62 [⟨.rc 1,u.name⟩,⟨.sl (.int .i64),vN (2047:Int) 2⟩]) (fun r1=>rN c (L+4) a u r1.1)=_
       rw[e,kJ]
     ·exact⟨2047,fun a=>by rw[hh,decide_eq_false hk,aG1,B26x4];rfl⟩
  ·exact⟨2047,fun a=>by
    rw[F26,aHe,decide_eq_false e2,aI,decide_eq_false e3,aI,aDI,aA7];rfl⟩
end Go.TV
namespace Go.TV
open Go.AI Go.PI Go.Proofs
set_option maxRecDepth 20000
def wN(x:BitVec 64):Int:=IntKind.i64.wrap (x.toNat:Int)
def oN(s:Int):BitVec 64:=BitVec.ofInt 64 s
theorem wrap_nat{k:Nat}(h:k<18446744073709551616):IntKind.i64.wrap (k:Int)=if k<9223372036854775808 then(k:Int)else(k:Int)-18446744073709551616:=by
 unfold IntKind.wrap;simp[IntKind.bits,IntKind.signed];split<;>split<;>omega
theorem oN_wN(x:BitVec 64):oN (wN x)=x:=by
 apply BitVec.eq_of_toNat_eq;have h:=x.isLt;rw[oN,wN,wrap_nat h,BitVec.toNat_ofInt];split<;>omega
theorem wN_0(x:BitVec 64):wN x=0↔x=0#64:=⟨fun h=>by rw[←oN_wN x,h];rfl,fun h=>by rw[h];decide⟩
theorem aAR(b i:Int):oN (band b i)=oN b&&&oN i:=oN_wN _
theorem and32(i:BitVec 64):32#64&&&i=0#64∨32#64&&&i=32#64:=by
 cases h:i.getLsbD 5 with
 |false=>
  left;apply BitVec.eq_of_getLsbD_eq;intro k hk;rw[BitVec.getLsbD_and];by_cases e:k=5
  ·subst e;rw[h,Bool.and_false];decide
  ·have:(32#64).getLsbD k=false:=by
    rw[show(32#64)=BitVec.twoPow 64 5 from by decide,BitVec.getLsbD_twoPow]
    simp;omega
   rw[this,Bool.false_and];simp
 |true=>
  right;apply BitVec.eq_of_getLsbD_eq;intro k hk;rw[BitVec.getLsbD_and];by_cases e:k=5
  ·subst e;rw[h,bnA]
  ·have:(32#64).getLsbD k=false:=by
    rw[show(32#64)=BitVec.twoPow 64 5 from by decide,BitVec.getLsbD_twoPow]
    simp;omega
   rw[this,Bool.false_and]
structure Mo(b b':Int):Prop where
 out: ∀r:Int,wN (oN b&&& ~~~ oN r)=0→wN (oN b'&&& ~~~ oN r)=0
 dis: ∀r:Int,wN (oN b&&&oN r)=0→wN (oN b'&&&oN r)=0
 nil:b=32→b'=32∨wN (oN b'&&&oN 32)=0
theorem Mo.refl(b:Int):Mo b b:=⟨fun _ h=>h,fun _ h=>h,fun h=> .inl h⟩
theorem mo_band(b i:Int):Mo b (band b i) where
 out r h:=by
  rw[wN_0]at h⊢;rw[aAR,BitVec.and_assoc,BitVec.and_comm (oN i),←BitVec.and_assoc,h,BitVec.zero_and]
 dis r h:=by
  rw[wN_0]at h⊢;rw[aAR,BitVec.and_assoc,BitVec.and_comm (oN i),←BitVec.and_assoc,h,BitVec.zero_and]
 nil h:=by
  subst h;have e:oN 32=32#64:=by decide
  rcases and32 (oN i)with h|h
  ·right;rw[wN_0,aAR,e,h,BitVec.zero_and]
  ·left;show wN (oN 32&&&oN i)=32;rw[e,h];decide
theorem mo_abS(r:Rt)(b:Int):Mo b (abS r b):=by
 unfold abS;split
 ·exact mo_band _ _
 ·exact Mo.refl _
def Qd(x y:Rt):Prop:= ∃d d':Int,x=some [⟨.int .i64,d⟩]∧y=some [⟨.int .i64,d'⟩]∧(d=0∨d=1∨d=2)∧(d'=0∨d'=1∨d'=2)∧(d'=0→d=0)
theorem Qd.nz{x y:Rt}{v:Int}(h:Qd x y)(hv:v=1∨v=2):Qd x (some [⟨.int .i64,v⟩]):=by
 obtain⟨d,d',h1,h2,h3,h4,h5⟩:=h;exact⟨d,v,h1,rfl,h3,by omega,fun e=>by omega⟩
theorem Qd.c{v:Int}(hv:v=1∨v=2):Qd (some [⟨.int .i64,v⟩]) (some [⟨.int .i64,v⟩]):=⟨v,v,rfl,rfl,by omega,by omega,fun e=>e⟩
theorem Qd.cnd{b b':Bool}{x y:Rt}{v:Int}(hv:v=1∨v=2)(hb:b=true→b'=true)(h:Qd x y):Qd (cnd b (some [⟨.int .i64,v⟩]) x) (cnd b' (some [⟨.int .i64,v⟩]) y):=by
 cases b with
 |true=>rw[hb rfl];exact .c hv
 |false=>
  cases b' with
  |true=>exact h.nz hv
  |false=>exact h
end Go.TV
namespace Go.TV
open Go.AI Go.PI Go.Proofs
set_option maxRecDepth 20000
theorem asP_loop{c:TC0}{L:Nat}{t:G.T}{a:List G.T}(hb:a.length<1000000000): ∀(l:List G.T) (k m:Nat),a.drop k=l→l.length<m→
    (∀x,x∈l→c 24 (tt2 x t)=some (bb (decide (x=t))))→aA3 c L m (a.length:Int) a (k:Int) t=some (bb (decide (t∈l))):=by
 intro l;induction l with
 |nil=>
  intro k m h1 h3 _;obtain⟨m,rfl⟩: ∃m',m=m'+1:=⟨m-1,by simp at h3;omega⟩
  have e1:=cU h1;have e3:decide ((k:Int)<(a.length:Int))=false:=by simp;omega
  rw[aA3,B21x1,e3,aI];simp[bb]
 |cons x l ih=>
  intro k m h1 h3 hc;obtain⟨m,rfl⟩: ∃m',m=m'+1:=⟨m-1,by simp at h3;omega⟩
  obtain⟨a1,a2,a3⟩:=cB h1;have e3:decide ((k:Int)<(a.length:Int))=true:=by simp;omega
  have hxy:c 24 [⟨.rc 3,x⟩,⟨.rc 3,t⟩]=some [⟨.bool,decide (x=t)⟩]:=hc x (mhE ..);rw[aA3,B21x1,e3,aQ,bF,a1,eR,hxy,bT,gC (by omega)]
  by_cases e:x=t
  ·subst e;simp[cnd,bb]
  ·have e': ¬t=x:=fun h=>e h.symm
   simp only[e,decide_false,aI];rw[ih (k+1) m a3 (by simp at h3;omega) fun z hz=>hc z (mtE _ hz)]
   simp[e']
theorem asP_ok{a:List G.T}{t:G.T}{L n:Nat}(hw:eX a<1000000000)(hL:eX a<L)(hn:eX a<n):CTp L n 21 [⟨.sl (.rc 3),a⟩,⟨.rc 3,t⟩]=some [⟨.bool,decide (t∈a)⟩]:=by
 have hlen:=mZ a;obtain⟨n,rfl⟩: ∃n',n=n'+1:=⟨n-1,by omega⟩
 rw[c21];exact asP_loop (by omega) a 0 L rfl (by omega) fun x hx=>TEq_ok x (by have:=jB hx;simp only[wfT];omega) t L n (by have:=jB hx;omega) (by have:=jB hx;omega)
end Go.TV
namespace Go.TV
open Go.AI Go.PI Go.Proofs
set_option maxRecDepth 20000
structure DcA(c:TC0)(a a':List G.T)(B:Nat):Prop where
 sub: ∀t,t∈a→t∈a'
 isn: ∀o:G.O,BoR (c 18 [⟨.rc 2,o⟩])
 tru: ∀b:Bool,c 19 [⟨.bool,b⟩]=some [⟨.int .i64,bif b then(1:Int)else 2⟩]
 isA: ∀(x:G.T) (s:List UInt8) (k:Int),c 20 [⟨.rc 3,x⟩,⟨.str,s⟩,⟨.int .i64,k⟩]=some [⟨.bool,isA x s k⟩]
 ad: ∀t:G.T,c 21 [⟨.sl (.rc 3),a⟩,⟨.rc 3,t⟩]=some [⟨.bool,decide (t∈a)⟩]
 ad': ∀t:G.T,c 21 [⟨.sl (.rc 3),a'⟩,⟨.rc 3,t⟩]=some [⟨.bool,decide (t∈a')⟩]
 ng: ∀t:G.T,c 22 [⟨.rc 3,t⟩]=some [⟨.rc 3,neg t⟩]
 eq: ∀x y:G.T,c 23 [⟨.rc 3,x⟩,⟨.rc 3,y⟩]=some [⟨.rc 3,lsp eqB [x,y]⟩]
 te: ∀x:G.T,tsz x≤B→∀y:G.T,BoR (c 24 [⟨.rc 3,x⟩,⟨.rc 3,y⟩])
 rc: ∀f:G.Y,IbR (c 25 [⟨.rc 1,f⟩])
 ty: ∀u:G.T,tsz u≤B→∃s s':Int,c 26 [⟨.sl (.rc 3),a⟩,⟨.rc 3,u⟩]=some [⟨.int .i64,s⟩]∧c 26 [⟨.sl (.rc 3),a'⟩,⟨.rc 3,u⟩]=some [⟨.int .i64,s'⟩]∧Mo s s'
section
variable{c:TC0}{a a':List G.T}{B L:Nat}(h:DcA c a a' B)
include h
theorem dcd5{t:G.T}(ht:tsz t≤B):Qd (J5x5 c L a t) (J5x5 c L a' t):=by
 obtain⟨s,s',e,e',hm⟩:=h.ty t ht;simp only[J5x5,B5x5];rw[e,kJ,e',kJ];show Qd (cnd (decide (wN (oN s&&&oN 32)=0)) (some [⟨.int .i64,(1:Int)⟩]) (cnd (decide (s=32)) (some [⟨.int .i64,(2:Int)⟩]) (some [⟨.int .i64,(0:Int)⟩])))
  (cnd (decide (wN (oN s'&&&oN 32)=0)) (some [⟨.int .i64,(1:Int)⟩]) (cnd (decide (s'=32)) (some [⟨.int .i64,(2:Int)⟩]) (some [⟨.int .i64,(0:Int)⟩])))
 by_cases k1:wN (oN s&&&oN 32)=0
 ·rw[decide_eq_true k1,decide_eq_true (hm.dis 32 k1)];exact .c (.inl rfl)
 ·rw[decide_eq_false k1,aI];by_cases k2:s=32
  ·rw[decide_eq_true k2,aQ];by_cases k3:wN (oN s'&&&oN 32)=0
   ·rw[decide_eq_true k3,aQ];exact⟨2,1,rfl,rfl,by omega,by omega,fun e=>by omega⟩
   ·rcases hm.nil k2 with k4|k4
    ·rw[decide_eq_false k3,aI,decide_eq_true k4,aQ];exact .c (.inr rfl)
    ·exact(k3 k4).elim
  ·rw[decide_eq_false k2,aI];cases decide (wN (oN s'&&&oN 32)=0)with
   |true=>rw[aQ];exact⟨0,1,rfl,rfl,by omega,by omega,fun e=>by omega⟩
   |false=>
    rw[aI];cases decide (s'=32)with
    |true=>rw[aQ];exact⟨0,2,rfl,rfl,by omega,by omega,fun e=>by omega⟩
    |false=>rw[aI];exact⟨0,0,rfl,rfl,by omega,by omega,fun e=>e⟩
theorem dcd4{t:G.T}(ht:tsz t≤B){b:Bool}(hb:b=true→t.args.length=1):Qd (J5x4 c L b a t) (J5x4 c L b a' t):=by
 have h5:=dcd5 (L:=L) h ht;cases b with
 |false=>
  simp only[J5x4,B5x4];rw[aI,aI];exact h5
 |true=>
  obtain⟨p,hp⟩:=len1 (hb rfl);have hs:=jV t;rw[hp]at hs;simp only[eX]at hs;obtain⟨r,q,e⟩:=h.rc t.name;obtain⟨s,s',e1,e2,hm⟩:=h.ty p (by omega)
  simp only[J5x4,B5x4];rw[aQ,aQ,e,kQ,kQ];cases q with
  |false=>simp only[aI];exact h5
  |true=>
   simp only[aQ];rw[hp,show idx [p] (0:Int)=some p from rfl,eR,eR,e1,e2,kJ,kJ]
   exact Qd.cnd (.inl rfl) (fun e=>decide_eq_true (hm.out r (of_decide_eq_true e))) (Qd.cnd (.inr rfl) (fun e=>decide_eq_true (hm.dis r (of_decide_eq_true e))) h5)
theorem dcd3{t:G.T}(ht:tsz t≤B):Qd (J5x3 c L a t) (J5x3 c L a' t):=by
 simp only[J5x3,B5x3];cases decide (t.kind=3)with
 |true=>rw[aQ,aQ];exact dcd4 h ht fun e=>by have:=of_decide_eq_true e;omega
 |false=>rw[aI,aI];exact dcd4 h ht fun e=>by cases e
theorem dcd2{t:G.T}(ht:tsz t≤B)(b:Bool):Qd (J5x2 c L b a t) (J5x2 c L b a' t):=by
 simp only[J5x2,B5x2];exact Qd.cnd (.inr rfl) (fun e=>e) (dcd3 h ht)
theorem dcd1{t:G.T}(ht:tsz t≤B):Qd (J5x1 c L a t) (J5x1 c L a' t):=by
 have sub: ∀x,decide (x∈a)=true→decide (x∈a')=true:=fun x e=>decide_eq_true (h.sub x (of_decide_eq_true e))
 simp only[J5x1,B5x1];rw[h.ad,h.ad',bT,bT];refine Qd.cnd (.inl rfl) (sub t) ?_;rw[h.ng,iP,iP];simp only[];rw[h.ad,h.ad',bT,bT];refine Qd.cnd (.inr rfl) (sub _) ?_;have hI:=h.isA t eqB 2;simp only[eqB]at hI;rw[hI,bT,bT];cases e:isA t [101,113,117,97,108] 2 with
 |false=>exact dcd3 h ht
 |true=>
  obtain⟨p,q,hp⟩:=len2 (uF (k:=2) e);have hs:=jV t;rw[hp]at hs;simp only[eX]at hs;simp only[aQ];rw[hp,show idx [p,q] (0:Int)=some p from rfl,show idx [p,q] (1:Int)=some q from rfl,eR,eR,eR,eR,h.eq,iP,iP]
  simp only[];rw[h.ad,h.ad',bT,bT];refine Qd.cnd (.inl rfl) (sub _) ?_;rw[h.ng,iP,iP];simp only[];rw[h.ad,h.ad',bT,bT];refine Qd.cnd (.inr rfl) (sub _) ?_;obtain⟨b,e⟩:=h.te p (by omega) q
  rw[e,bT,bT];refine Qd.cnd (.inl rfl) (fun e=>e) ?_
  cases decide (p.kind=2)with
  |true=>rw[aQ,aQ];exact dcd2 h ht _
  |false=>rw[aI,aI];exact dcd2 h ht _
theorem dcd0{t:G.T}(ht:tsz t≤B)(ih: ∀p,tsz p<tsz t→Qd (c 5 [⟨.sl (.rc 3),a⟩,⟨.rc 3,p⟩]) (c 5 [⟨.sl (.rc 3),a'⟩,⟨.rc 3,p⟩])):Qd (F5 c L a t) (F5 c L a' t):=by
 have h1:=dcd1 (L:=L) h ht;simp only[F5,B5x0];cases decide (t.kind=2)with
 |true=>
  obtain⟨b,e⟩:=h.isn t.value;rw[aQ,aQ,e,bT];simp only[];rw[h.tru,kJ];cases b with
  |true=>exact .c (.inr rfl)
  |false=>exact .c (.inl rfl)
 |false=>
  have hI:=h.isA t sI 1;simp only[sI]at hI;rw[aI,aI,hI,bT,bT];cases e:isA t [110,111,116] 1 with
  |false=>exact h1
  |true=>
   obtain⟨p,hp⟩:=len1 (uF (k:=1) e);have hs:=jV t;rw[hp]at hs;simp only[eX]at hs;simp only[aQ];obtain⟨d,d',e1,e2,h3,h4,h5⟩:=ih p (by omega)
   rw[hp,show idx [p] (0:Int)=some p from rfl,eR,eR,e1,e2,kJ,kJ]
   obtain⟨x,x',g1,g2,g3,g4,g5⟩:=h1;rcases h3 with rfl|rfl|rfl<;>rcases h4 with rfl|rfl|rfl<;>first|(have:=h5 rfl;omega)|skip
   ·exact⟨x,x',g1,g2,g3,g4,g5⟩
   ·exact⟨x,2,g1,rfl,g3,by omega,fun e=>by omega⟩
   ·exact⟨x,1,g1,rfl,g3,by omega,fun e=>by omega⟩
   ·exact⟨2,2,rfl,rfl,by omega,by omega,fun e=>by omega⟩
   ·exact⟨2,1,rfl,rfl,by omega,by omega,fun e=>by omega⟩
   ·exact⟨1,2,rfl,rfl,by omega,by omega,fun e=>by omega⟩
   ·exact⟨1,1,rfl,rfl,by omega,by omega,fun e=>by omega⟩
end
end Go.TV
namespace Go.TV
open Go.AI Go.PI Go.Proofs
def OSR(x:Rt)(B:Nat):Prop:= ∃(o:G.O) (s:G.Z),x=some [yR 2 o,yR 0 s]∧osz o≤B∧bP s
theorem OSR.mk{o:G.O}{s:G.Z}{B:Nat}(h:osz o≤B)(hs:bP s):OSR (some [yR 2 o,yR 0 s]) B:=⟨o,s,rfl,h,hs⟩
theorem OSR.le{x:Rt}{A B:Nat}(h:OSR x A)(hl:A≤B):OSR x B:=by obtain⟨o,s,h1,h2,h3⟩:=h;exact⟨o,s,h1,by omega,h3⟩
theorem zV{β:Type}{a:G.O}{K:G.O×Unit→Option β}:obL (D:=U0.D) [.rc 2] (some [yR 2 a]) K=K (a,()):=rfl
theorem wF{β:Type}{a:G.O}{b:G.Z}{K:G.O×G.Z×Unit→Option β}:obL (D:=U0.D) [.rc 2,.rc 0] (some [yR 2 a,yR 0 b]) K=K (a,b,()):=rfl
theorem obL_ys{β:Type}{a:G.Y}{K:G.Y×Unit→Option β}:obL (D:=U0.D) [.rc 1] (some [yR 1 a]) K=K (a,()):=rfl
theorem vH{α:Type}{l:List α}{lo hi:Int}(h0:0≤lo)(h1:lo≤hi)(h2:hi≤(l.length:Int)): ∃w,slc l lo hi=some w∧(w.length:Int)=hi-lo:=by
 unfold slc;have e1:decide (0≤lo)=true:=by simpa using h0
 have e2:decide (lo≤hi)=true:=by simpa using h1
 have e3:decide (hi≤(l.length:Int))=true:=by simpa using h2
 rw[e1,e2,e3];refine⟨_,rfl,?_⟩;rw[List.length_drop,List.length_take];omega
section
variable{c:TC0}(h:Lib c)
include h
theorem Ob_lo{L:Nat}{s:G.Z}(hs:bP s){a5 a1:Int}{b:G.O}(h0:0≤a5)(h9:a5≤9):OSR (aG3 c L a5 a1 s b) 20:=by
 have seven: ∀K:Int×G.Z×Unit→Rt,(∀r s',0≤r→r<7→bP s'→OSR (K (r,s',())) 20)→OSR (obL (D:=U0.D) [.int .i64,.rc 0] (c 12 [yI (7:Int),yR 0 s]) K) 20:=fun K hK=>by
  obtain⟨r,s',e,g1,g2,g3⟩:=h.nx s 7 hs (by omega)
  rw[e,gM];exact hK r s' g1 g2 g3
 have three: ∀K:Int×G.Z×Unit→Rt,(∀r s',0≤r→r<3→bP s'→OSR (K (r,s',())) 20)→OSR (obL (D:=U0.D) [.int .i64,.rc 0] (c 12 [yI (3:Int),yR 0 s]) K) 20:=fun K hK=>by
  obtain⟨r,s',e,g1,g2,g3⟩:=h.nx s 3 hs (by omega)
  rw[e,gM];exact hK r s' g1 g2 g3
 have obj: ∀{x:Rt} {s':G.Z},ObR x→bP s'→OSR (obL (D:=U0.D) [.rc 2] x fun(r:G.O×Unit)=>some [yR 2 r.1,yR 0 s']) 20:=fun hx hs'=>by
  obtain⟨o,e,g⟩:=hx;rw[e,zV];exact .mk g hs'
 rw[aG3,B14x2];obtain rfl|rfl|rfl|rfl|rfl|rfl|rfl|rfl|rfl|rfl:a5=0∨a5=1∨a5=2∨a5=3∨a5=4∨a5=5∨a5=6∨a5=7∨a5=8∨a5=9:=by omega
 ·exact obj h.n hs
 ·exact obj h.t hs
 ·exact seven _ fun r s' g1 g2 g3=>obj (h.i r g1 g2) g3
 ·exact seven _ fun r s' g1 g2 g3=>obj (h.i r g1 g2) g3
 ·exact obj h.q1 hs
 ·exact obj h.q2 hs
 ·refine three _ fun r s' g1 g2 g3=>?_
  obtain⟨w,e1,l1⟩:=vH (l:=([97,98,99]:List UInt8)) (hi:=3) g1 (by omega) (by decide)
  obtain⟨w2,e2,l2⟩:=vH (l:=w) (lo:=0) (hi:=1) (by omega) (by omega) (by omega)
  show OSR (ob (slc ([97,98,99]:List UInt8) r 3) fun v5=>ob (slc v5 (0:Int) (1:Int)) fun v6=>obL (D:=U0.D) [.rc 1] (c 11 [yT v6]) fun(r7:G.Y×Unit)=>obL (D:=U0.D) [.rc 2] (c 46 [yR 1 r7.1]) fun(r8:G.O×Unit)=>some [yR 2 r8.1,yR 0 s']) 20
  rw[e1,eR,e2,eR,h.u,obL_ys];exact obj (h.sy _) g3
 ·refine three _ fun r s' g1 g2 g3=>?_
  obtain⟨w,e1,l1⟩:=vH (l:=([112,113]:List UInt8)) (lo:=0) (hi:=r) (by omega) g1 (by show r≤2;omega)
  show OSR (ob (slc ([112,113]:List UInt8) 0 r) fun v10=>obL (D:=U0.D) [.rc 2] (c 47 [yT v10]) fun(r11:G.O×Unit)=>some [yR 2 r11.1,yR 0 s']) 20
  rw[e1,eR];exact obj (h.x _) g3
 ·exact obj h.i0 hs
 ·exact obj h.i1 hs
theorem Ob0{L:Nat}{s:G.Z}(hs:bP s):OSR (F14 c L 0 s) 20:=by
 rw[F14,B14x0];obtain⟨r,s',e,g1,g2,g3⟩:=h.nx s 14 hs (by omega)
 rw[e,gM];show OSR (aDL c L (decide ((9:Int)<r)) r 0 s' _) 20;rw[aDL,B14x1];cases e2:decide ((9:Int)<r)with
 |true=>
  simp only[djE]at e2;obtain⟨m,rfl⟩: ∃m:Nat,r=((m+8:Nat):Int):=⟨(r-8).toNat,by omega⟩
  rw[aQ,show((m+8:Nat):Int)-8=(m:Int) by omega,wrapn (by omega)]
  exact Ob_lo h g3 (by omega) (by omega)
 |false=>
  simp only[dfN]at e2;exact Ob_lo h g3 g1 (by omega)
theorem Ol_loop{L:Nat}(h0: ∀s,bP s→OSR (c 14 [yI (0:Int),yR 0 s]) 20){b:G.O}{r:Nat}(hr:r≤3):
    ∀(j k m:Nat) (a6:List G.O) (s:G.Z),r=k+j→a6.length=k→rB a6≤21*k→j<m→bP s→OSR (aA5 c L m (r:Int) 1 (k:Int) a6 s b) 200:=by
 intro j;induction j with
 |zero=>
  intro k m a6 s h1 h2 h3 h4 hs;obtain⟨m,rfl⟩: ∃m',m=m'+1:=⟨m-1,by omega⟩
  have e3:decide ((k:Int)<(r:Int))=false:=by simp;omega
  rw[aA5,B14x5,e3,aI]
  match a6,h2 with
  |[],_=>rw[h.l0,zV];exact .mk (by simp[niO,osz,rB]) hs
  |[a],h2=>rw[h.l1,zV];exact .mk (by simp[rB]at h3;simp[niO,cnO,osz,rB];simp only[lcS,lnN]at h2;omega) hs
  |[a,d],h2=>rw[h.l2,zV];exact .mk (by simp[rB]at h3;simp[niO,cnO,osz,rB];simp only[lcS,lnN]at h2;omega) hs
  |[a,d,e],h2=>rw[h.l3,zV];exact .mk (by simp[rB]at h3;simp[niO,cnO,osz,rB];simp only[lcS,lnN]at h2;omega) hs
  |_::_::_::_::l,h2=>simp at h2;omega
 |succ j ih=>
  intro k m a6 s h1 h2 h3 h4 hs;obtain⟨m,rfl⟩: ∃m',m=m'+1:=⟨m-1,by omega⟩
  have e3:decide ((k:Int)<(r:Int))=true:=by simp;omega
  rw[aA5,B14x5,e3,aQ];obtain⟨o,s',e,g1,g2⟩:=h0 s hs;show OSR (obL (D:=U0.D) [.rc 2,.rc 0] (c 14 [yI (0:Int),yR 0 s]) _) 200;rw[e,wF];have e4:Nat.ble ((a6.length+([o]:List G.O).length)*112) 1073741824=true:=by
   rw[Nat.ble_eq];simp only[lcS,lnN];omega
  simp only[e4,aAL];rw[gC (by omega)]
  have hz: ∀l:List G.O,rB (l++ [o])=rB l+osz o+1:=by
   intro l;induction l with
   |nil=>simp[rB]
   |cons x l ih=>simp only[cnA,rB,ih];omega
  exact ih (k+1) m (a6++ [o]) s' (by omega) (by simp;omega) (by rw[hz];omega) (by omega) g2
theorem Ob1{L:Nat}(hL:10≤L)(h0: ∀s,bP s→OSR (c 14 [yI (0:Int),yR 0 s]) 20){s:G.Z}(hs:bP s):OSR (F14 c L 1 s) 200:=by
 rw[F14,B14x0];obtain⟨r,s',e,g1,g2,g3⟩:=h.nx s 14 hs (by omega)
 rw[e,gM];show OSR (aDL c L false r 1 s' _) 200;rw[aDL,B14x1,aI];by_cases h9:r≤9
 ·exact(Ob_lo h g3 g1 h9).le (by omega)
 have lst: ∀b,OSR (aDK c L true 1 s' b) 200:=fun b=>by
  rw[aDK,B14x4,aQ];obtain⟨q,s2,e,k1,k2,k3⟩:=h.nx s' 4 g3 (by omega)
  rw[e,gM];obtain⟨m,rfl⟩: ∃m:Nat,q=(m:Int):=⟨q.toNat,by omega⟩
  exact Ol_loop h h0 (by omega) m 0 L [] s2 (by omega) rfl (Nat.zero_le _) (by omega) k3
 rw[aG3,B14x2];obtain rfl|rfl|rfl|rfl:r=10∨r=11∨r=12∨r=13:=by omega
 ·exact lst _
 ·exact lst _
 ·exact lst _
 ·have pr: ∀b,OSR (aDK c L false 1 s' b) 200:=fun b=>by
   rw[aDK,B14x4,aI];obtain⟨o,s2,e,k1,k2⟩:=h0 s' g3;show OSR (obL (D:=U0.D) [.rc 2,.rc 0] (c 14 [yI (0:Int),yR 0 s']) _) 200;rw[e,wF];obtain⟨o2,s3,e,k3,k4⟩:=h0 s2 k2;show OSR (obL (D:=U0.D) [.rc 2,.rc 0] (c 14 [yI (0:Int),yR 0 s2]) _) 200;rw[e,wF,h.cn,zV];exact .mk (by simp only[cnO,osz,rB];omega) k4
  exact pr zrO
end
end Go.TV
namespace Go.TV
open Go.AI Go.PI Go.Proofs
def TSR(x:Rt)(B:Nat):Prop:= ∃(t:G.T) (s:G.Z),x=some [yR 3 t,yR 0 s]∧tsz t≤B∧bP s
theorem TSR.mk{o:G.T}{s:G.Z}{B:Nat}(h:tsz o≤B)(hs:bP s):TSR (some [yR 3 o,yR 0 s]) B:=⟨o,s,rfl,h,hs⟩
theorem TSR.le{x:Rt}{A B:Nat}(h:TSR x A)(hl:A≤B):TSR x B:=by obtain⟨o,s,h1,h2,h3⟩:=h;exact⟨o,s,h1,by omega,h3⟩
theorem eS{β:Type}{a:G.T}{K:G.T×Unit→Option β}:obL (D:=U0.D) [.rc 3] (some [yR 3 a]) K=K (a,()):=rfl
theorem gL{β:Type}{a:G.T}{b:G.Z}{K:G.T×G.Z×Unit→Option β}:obL (D:=U0.D) [.rc 3,.rc 0] (some [yR 3 a,yR 0 b]) K=K (a,b,()):=rfl
theorem obL_ss{β:Type}{a:List (List UInt8)}{K:List (List UInt8)×Unit→Option β}:obL (D:=U0.D) [.sl .str] (some [⟨.sl .str,a⟩]) K=K (a,()):=rfl
theorem obL_y1{β:Type}{a:G.Y}{K:G.Y×Unit→Option β}:obL (D:=U0.D) [.rc 1] (some [yR 1 a]) K=K (a,()):=rfl
theorem tV_sz(w:List UInt8):tsz (tV w)=6:=by simp[tV,tsz,eX,zrO,osz,rB]
theorem oT(f:G.Y)(l:List G.T):tsz (tA f l)=6+eX l:=by simp[tA,tsz,zrO,osz,rB]
theorem tC_sz(o:G.O):tsz (tC o)=4+osz o:=by simp[tC,tsz,eX]
theorem tsz'_app(l:List G.T)(t:G.T):eX (l++ [t])=eX l+tsz t+1:=by
 induction l with
 |nil=>simp[eX]
 |cons x l ih=>simp only[cnA,eX,ih];omega
section
variable{c:TC0}(h:Lib c)
include h
theorem Va_ok{L:Nat}{s:G.Z}(hs:bP s):TSR (F13 c L s) 6:=by
 rw[F13,B13x0];obtain⟨r,s',e,g1,g2,g3⟩:=h.nx s 3 hs (by omega)
 rw[e,gM];obtain⟨w,e1,l1⟩:=vH (l:=([120,121,122]:List UInt8)) (hi:=3) g1 (by omega) (by decide)
 obtain⟨w2,e2,l2⟩:=vH (l:=w) (lo:=0) (hi:=1) (by omega) (by omega) (by omega)
 show TSR (ob (slc ([120,121,122]:List UInt8) r 3) fun v1=>ob (slc v1 (0:Int) (1:Int)) fun v2=>obL (D:=U0.D) [.rc 3] (c 6 [yT v2]) fun(r3:G.T×Unit)=>some [yR 3 r3.1,yR 0 s']) 6
 rw[e1,eR,e2,eR,h.v,eS];exact .mk (by rw[tV_sz];omega) g3
theorem Ta_loop{L:Nat}{E:List G.E}{d:Int}{B:Nat}(hB:B<1000000)(hr: ∀s,bP s→TSR (c 17 [yS 15 E,yI (IntKind.i64.wrap (d-1)),yR 0 s]) B){f:G.Y}{b:G.T}{r:Nat}(h3:r≤3):
    ∀(j k m:Nat) (a:List G.T) (s:G.Z),r=k+j→a.length=k→eX a≤(B+1)*k→j<m→bP s→TSR (aA4 c L m (r:Int) E d (k:Int) a s f b) (6+3*(B+1)):=by
 intro j;induction j with
 |zero=>
  intro k m a s h1 h2 h4 h5 hs;obtain⟨m,rfl⟩: ∃m',m=m'+1:=⟨m-1,by omega⟩
  have e3:decide ((k:Int)<(r:Int))=false:=by simp;omega
  rw[aA4,B17x4,e3,aI,h.a,eS];refine .mk ?_ hs;have:(B+1)*k≤(B+1)*3:=Nat.mul_le_mul_left _ (by omega)
  rw[oT];omega
 |succ j ih=>
  intro k m a s h1 h2 h4 h5 hs;obtain⟨m,rfl⟩: ∃m',m=m'+1:=⟨m-1,by omega⟩
  have e3:decide ((k:Int)<(r:Int))=true:=by simp;omega
  obtain⟨t,s',e,g1,g2⟩:=hr s hs;rw[aA4,B17x4,e3,aQ,e,gL];have e4:Nat.ble ((a.length+([t]:List G.T).length)*176) 1073741824=true:=by
   rw[Nat.ble_eq];simp only[lcS,lnN];omega
  simp only[e4,aAL];rw[gC (by omega)]
  refine ih (k+1) m (a++ [t]) s' (by omega) (by simp;omega) ?_ (by omega) g2
  rw[tsz'_app,Nat.mul_add];omega
theorem Te_ok{L:Nat}(hL:10≤L){E:List G.E}{d:Int}{B:Nat}(hB:B<1000000)(hB2:204≤B)(hv: ∀s,bP s→TSR (c 13 [yR 0 s]) 6)(ho: ∀s,bP s→OSR (c 14 [yI (1:Int),yR 0 s]) 200)
    (ha: ∀f:G.Y,ArR (c 53 [yS 15 E,yR 1 f])) (hr:1≤d→∀s,bP s→TSR (c 17 [yS 15 E,yI (IntKind.i64.wrap (d-1)),yR 0 s]) B) {s:G.Z} (hs:bP s):
    TSR (F17 c L E d s) (bif decide (d<1)then 204 else 6+3*(B+1)):=by
 have lo: ∀(a7:Int) (s':G.Z) (b:G.T),a7≤3→bP s'→TSR (aG2 c L a7 E d s' b) 204:=fun a7 s' b g1 g2=>by
  rw[aG2,B17x2];cases e1:decide (a7<(3:Int))with
  |true=>
   obtain⟨t,s2,e,q1,q2⟩:=hv s' g2;rw[aQ,e,gL];exact .mk (by show tsz t≤204;omega) q2
  |false=>
   simp only[dfN]at e1;have e2:decide (a7=(3:Int))=true:=by simp;omega
   obtain⟨o,s2,e,q1,q2⟩:=ho s' g2;rw[aI,e2,aQ,e,wF,h.k,eS];exact .mk (by show tsz (tC o)≤204;rw[tC_sz];omega) q2
 obtain⟨r,s',e,g1,g2,g3⟩:=h.nx s 12 hs (by omega)
 rw[F17,B17x0,e,gM];cases e1:decide (d<(1:Int))with
 |true=>
  rw[aQ,cdt];show TSR (aDJ c L (decide ((3:Int)<r)) r E d s' _) _;rw[aDJ,B17x1];cases e2:decide ((3:Int)<r)with
  |true=>
   rw[aQ,show decide ((4:Int)=0)=false by decide]
   simp only[Bool.not_false,aAL];exact lo _ _ _ (by have:=Int.tmod_lt_of_pos r (b:=4) (by omega);omega) g3
  |false=>
   simp only[dfN]at e2;exact lo _ _ _ (by omega) g3
 |false=>
  rw[aI,cdf];simp only[dfN]at e1;show TSR (aDJ c L false r E d s' _) _;rw[aDJ,B17x1,aI];by_cases h4:r≤3
  ·exact(lo _ _ _ h4 g3).le (by omega)
  have jn: ∀(s2:G.Z) (f:G.Y) (b:G.T),bP s2→TSR (J17x3 c L E d s2 f b) (6+3*(B+1)):=fun s2 f b k1=>by
   obtain⟨k,b2,e,k2⟩:=ha f;rw[J17x3,B17x3,e,kQ];exact Ta_loop h hB (hr (by omega)) k2 k 0 L [] s2 (by omega) rfl (Nat.zero_le _) (by omega) k1
  have e2:decide (r<(3:Int))=false:=by simp;omega
  have e3:decide (r=(3:Int))=false:=by simp;omega
  obtain⟨lh,eh,hh⟩:=h.hd;obtain⟨lw,ew,hw⟩:=h.ow;obtain⟨q,s2,e4,k1,k2,k3⟩:=h.nx s' 4 g3 (by omega)
  rw[aG2,B17x2,e2,aI,e3,aI,eh,obL_ss,ew,obL_ss,e4,gM];cases e5:decide (q<(3:Int))with
  |true=>
   obtain⟨i,s3,e6,k4,k5,k6⟩:=h.nx s2 (lh.length:Int) k3 (by omega)
   obtain⟨m,rfl⟩: ∃m:Nat,i=(m:Int):=⟨i.toNat,by omega⟩
   have hm:lh[m]?=some (lh[m]'(by omega)):=geG _
   simp only[aQ];rw[e6,gM];simp only[bF,hm,eR];rw[h.s,obL_y1];exact jn _ _ _ k6
  |false=>
   obtain⟨i,s3,e6,k4,k5,k6⟩:=h.nx s2 (lw.length:Int) k3 (by omega)
   obtain⟨m,rfl⟩: ∃m:Nat,i=(m:Int):=⟨i.toNat,by omega⟩
   have hm:lw[m]?=some (lw[m]'(by omega)):=geG _
   simp only[aI];rw[e6,gM];simp only[bF,hm,eR];rw[h.u,obL_y1];exact jn _ _ _ k6
theorem Li_ok{L:Nat}{E:List G.E}{A B:Nat}(hv: ∀s,bP s→TSR (c 13 [yR 0 s]) 6)
    (h2: ∀s,bP s→TSR (c 17 [yS 15 E,yI (2:Int),yR 0 s]) A) (h1: ∀s,bP s→TSR (c 17 [yS 15 E,yI (1:Int),yR 0 s]) B) {s:G.Z} (hs:bP s):
    TSR (F4 c L E 2 s) (A+B+30):=by
 obtain⟨t,s2,e,g1,g2⟩:=h2 s hs;obtain⟨r,s3,e2,k1,k2,k3⟩:=h.nx s2 8 g2 (by omega)
 rw[F4,B4x0,e,gL,e2,gM];have key: ∀(a:Bool) (b:G.T),TSR (J4x1 c L a r E 2 s3 t b) (A+B+30):=fun a b=>by
  rw[J4x1,B4x1];cases a with
  |true=>
   rw[aQ,h.l,eS];exact .mk (by rw[oT];simp only[eX];omega) k3
  |false=>
   rw[aI];cases decide (r=(2:Int))with
   |true=>
    obtain⟨t2,s4,e,q1,q2⟩:=h1 s3 k3;rw[aQ];show TSR (obL (D:=U0.D) [.rc 3,.rc 0] (c 17 [yS 15 E,yI (1:Int),yR 0 s3]) _) _;rw[e,gL];simp only[];rw[h.l,eS];simp only[];rw[h.l,eS];exact .mk (by rw[oT];simp only[eX];rw[oT];simp only[eX];omega) q2
   |false=>
    rw[aI];cases decide (r=(3:Int))with
    |true=>
     obtain⟨t2,s4,e,q1,q2⟩:=hv s3 k3;rw[aQ,e,gL];simp only[];rw[h.l,eS];simp only[];rw[h.l,eS];exact .mk (by rw[oT];simp only[eX];rw[oT];simp only[eX];omega) q2
    |false=>
     rw[aI];cases decide (r=(4:Int))with
     |true=>
      obtain⟨t2,s4,e,q1,q2⟩:=h1 s3 k3;rw[aQ];show TSR (obL (D:=U0.D) [.rc 3,.rc 0] (c 17 [yS 15 E,yI (1:Int),yR 0 s3]) _) _;rw[e,gL];simp only[];rw[h.l,eS];exact .mk (by rw[oT];simp only[eX];omega) q2
     |false=>
      rw[aI];cases decide (r=(5:Int))with
      |true=>
       obtain⟨t1,s4,e,q1,q2⟩:=hv s3 k3;rw[aQ,e,gL];obtain⟨t2,s5,e,q3,q4⟩:=h1 s4 q2;show TSR (obL (D:=U0.D) [.rc 3,.rc 0] (c 17 [yS 15 E,yI (1:Int),yR 0 s4]) _) _;rw[e,gL];simp only[];rw[h.l,eS];simp only[];rw[h.l,eS];exact .mk (by rw[oT];simp only[eX];rw[oT];simp only[eX];omega) q4
      |false=>exact .mk (by omega) k3
 cases decide (r=(0:Int))with
 |true=>exact key _ _
 |false=>exact key _ _
end
def ClR(x:Rt)(B:Nat):Prop:= ∃(l:List G.T) (s:G.Z),x=some [yS 3 l,yR 0 s]∧eX l≤B∧bP s
theorem obL_cs{β:Type}{a:List G.T}{b:G.Z}{K:List G.T×G.Z×Unit→Option β}:obL (D:=U0.D) [.sl (.rc 3),.rc 0] (some [yS 3 a,yR 0 b]) K=K (a,b,()):=rfl
end Go.TV
namespace Go.TV
open Go.AI Go.PI Go.Proofs
inductive It where
 |op
 |cl
 |wd (nu:Bool) (w:List UInt8)
def It.by':It→List UInt8
 | .op=>[40]
 | .cl=>[41]
 | .wd _ w=>w
def It.tk(p:Nat):It→G.K
 | .op=>⟨1,(p:Int),[],[],[]⟩
 | .cl=>⟨2,(p:Int),[],[],[]⟩
 | .wd nu w=>wtk nu (p:Int) w
abbrev Its:=List (List UInt8×It)
def zD:Its→List UInt8→List UInt8
 |[],tl=>tl
 |(b,t)::l,tl=>b++(t.by'++zD l tl)
def tks:Nat→Its→List G.K
 |_,[]=>[]
 |p,(b,t)::l=>t.tk (p+b.length)::tks (p+b.length+t.by'.length) l
def isN:List UInt8→Bool
 |[48]=>true
 |[49]=>true
 |[45,49]=>true
 |_=>false
def okW(nu:Bool):List UInt8→Bool
 |[]=>false
 |x::l=>(x::l).all (fun x=>csI (u8 x))&& !decide (u8 x=35)&&(bif nu then isN (x::l)else !decide (u8 x=45)&&(decide (u8 x<48)||decide (57<u8 x))&& !decide (x::l=[46])&&Nat.ble (x::l).length 40)
def stp:List UInt8→Bool
 |[]=>true
 |y::_=> !csI (u8 y)&& !decide (u8 y=58)
def okT(r:List UInt8):It→Bool
 | .wd nu w=>okW nu w&&stp r
 |_=>true
def okL:Its→List UInt8→Bool
 |[],tl=>tl.all fun x=>blI (u8 x)
 |(b,t)::l,tl=>(b.all fun x=>blI (u8 x))&&okT (zD l tl) t&&okL l tl
theorem stp_h{r:List UInt8}(h:stp r=true): ∀y,r.head?=some y→csI (u8 y)=false∧u8 y≠58:=by
 intro y hy;cases r with
 |nil=>cases hy
 |cons z r=>
  simp only[List.head?_cons,ojE]at hy;subst hy;simpa [stp]using h
theorem bl_cs{x:Int}(h:csI x=true):blI x=false:=by
 simp only[csI,bjE,djE]at h;simp only[blI,Bool.or_eq_false_iff,dfN];omega
theorem okT_h{t:It}{r:List UInt8}(h:okT r t=true): ∀y,(t.by'++r).head?=some y→blI (u8 y)=false∧u8 y≠59∧u8 y≠35:=by
 intro y hy;cases t with
 |op=>simp[It.by']at hy;subst hy;decide
 |cl=>simp[It.by']at hy;subst hy;decide
 |wd nu w=>
  cases w with
  |nil=>simp[okT,okW]at h
  |cons x l=>
   simp[It.by']at hy;subst hy
   simp only[okT,okW,bjE,alC,Bool.not_eq_true',dfN]at h;exact⟨bl_cs h.1.1.1.1,(aGc h.1.1.1.1).2.2.2.2.1,h.1.1.2⟩
theorem One_ok{s r:List UInt8}{t:It}{k L n:Nat}(hN: ∀w,isN w=true→NumW (CTp L (n+2)) w)(hb:s.length<1000000000)(hL:s.length<L)(h:s.drop k=t.by'++r)(ht:okT r t=true):
    CTp L (n+3) 102 [yT s,yI (k:Int)]=some [yR 19 (t.tk k),yI ((k+t.by'.length:Nat):Int),yR 18 ⟨0,0⟩]:=by
 cases t with
 |op=>exact On_op hb h
 |cl=>exact On_cl hb h
 |wd nu w=>
  cases w with
  |nil=>simp[okT,okW]at ht
  |cons x l=>
   simp only[okT,okW,bjE,Bool.not_eq_true',dfN]at ht;obtain⟨⟨⟨h1,h2⟩,h3⟩,h4⟩:=ht;refine On_w hb hL h (by simp) (fun y hy=>List.all_eq_true.1 h1 y hy) (stp_h h4) ?_
   cases nu with
   |true=>exact .inl ⟨rfl,hN _ h3⟩
   |false=>
    simp only[cdf,bjE,Bool.or_eq_true,Bool.not_eq_true',dfN,djE]at h3;exact .inr ⟨rfl,x,l,rfl,h3.1.1.1,h3.1.1.2,h3.1.2,Nat.le_of_ble_eq_true h3.2⟩
theorem Tk_loop{s tl:List UInt8}{L n:Nat}{er:G.X}(hN: ∀w,isN w=true→NumW (CTp L (n+2)) w)(hb:s.length<6001)(hL:s.length<L):
    ∀(l:Its) (k m:Nat) (acc:List G.K),s.drop k=zD l tl→k≤s.length→okL l tl=true→l.length<m→acc.length≤k→aAW (CTp L (n+3)) L m (k:Int) s acc er=some [yS 19 (acc++tks k l++ [⟨0,(s.length:Int),[],[],[]⟩]),yR 18 ⟨0,0⟩]:=by
 intro l;induction l with
 |nil=>
  intro k m acc h1 h2 h3 h4 h5;obtain⟨m,rfl⟩: ∃m',m=m'+1:=⟨m-1,by simp at h4;omega⟩
  have hl:=congrArg List.length h1;simp[zD]at hl;have hsk:=Sk_ok (s:=s) (w:=tl) (r:=[]) (k:=k) (L:=L) (n:=n+1) (by omega) hL (by simpa [zD]using h1) (fun x hx=>List.all_eq_true.1 h3 x hx) (by simp)
  have e1:((k+tl.length:Nat):Int)=(s.length:Int):=by omega
  rw[aAW,B80x1,hsk,kQ];simp only[bnT,aI];rw[e1];simp only[Int.le_refl,decide_true,aQ];have e2:Nat.ble ((acc.length+([⟨0,(s.length:Int),[],[],[]⟩]:List G.K).length)*64) 1073741824=true:=by
   rw[Nat.ble_eq];simp only[lcS,lnN];omega
  rw[e2,aAL,show tks k []=[] from rfl,apN];rfl
 |cons bt l ih=>
  obtain⟨b,t⟩:=bt;intro k m acc h1 h2 h3 h4 h5;obtain⟨m,rfl⟩: ∃m',m=m'+1:=⟨m-1,by simp at h4;omega⟩
  simp only[okL,bjE]at h3;obtain⟨⟨h6,h7⟩,h8⟩:=h3;have hl:=congrArg List.length h1;simp[zD]at hl;have ht:1≤t.by'.length:=by
   cases t with
   |op=>exact nlR _
   |cl=>exact nlR _
   |wd nu w=>cases w with
    |nil=>simp[okT,okW]at h7
    |cons x l=>simp[It.by']
  have hsk:=Sk_ok (s:=s) (w:=b) (r:=t.by'++zD l tl) (k:=k) (L:=L) (n:=n+1) (by omega) hL h1 (fun x hx=>List.all_eq_true.1 h6 x hx) (okT_h h7)
  have hd:s.drop (k+b.length)=t.by'++zD l tl:=by rw[←List.drop_drop,h1];simp[zD]
  have ho:=One_ok (n:=n) hN (by omega) hL hd h7
  have hd2:s.drop (k+b.length+t.by'.length)=zD l tl:=by rw[←List.drop_drop,hd];simp
  rw[aAW,B80x1,hsk,kQ];simp only[bnT,aI];have e1:decide ((s.length:Int)≤((k+b.length:Nat):Int))=false:=by simp only[dfN];omega
  rw[e1,aI,ho,obL_on];simp only[decide_true,bnT,aI];have e2:Nat.ble ((acc.length+([t.tk (k+b.length)]:List G.K).length)*64) 1073741824=true:=by
   rw[Nat.ble_eq];simp only[lcS,lnN];omega
  rw[e2,aAL,ih (k+b.length+t.by'.length) m _ hd2 (by omega) h8 (by simp at h4;omega) (by simp;omega)]
  simp[tks]
theorem Tok_ok{l:Its}{tl:List UInt8}{L n:Nat}(hN: ∀w,isN w=true→NumW (CTp L (n+2)) w)(hs:(zD l tl).length<6001)(hL:(zD l tl).length<L)(hl:l.length<L)(ho:okL l tl=true):
    CTp L (n+4) 80 [yT (zD l tl)]=some [yS 19 (tks 0 l++ [⟨0,((zD l tl).length:Int),[],[],[]⟩]),yR 18 ⟨0,0⟩]:=by
 show CTp L (n+3+1) 80 _=_;have e1:decide ((6000:Int)<((zD l tl).length:Int))=false:=by simp only[dfN];omega
 rw[c80,F80,B80x0,e1,aI];exact Tk_loop (tl:=tl) (er:=⟨0,0⟩) hN hs hL l 0 L [] rfl (Nat.zero_le _) ho hl (nlR _)
end Go.TV
namespace Go.TV
open Go.AI Go.PI Go.Proofs
set_option maxRecDepth 20000
def rJ:List UInt8:=[108,105,115,112]
def oSy(s:List UInt8):G.O:=⟨2,[],[],⟨rJ,s⟩,[],[]⟩
def oNu(s:List UInt8):G.O:=⟨1,s,[49],⟨[],[]⟩,[],[]⟩
def ol:List G.O→G.O
 |[]=>oSy [110,105,108]
 |x::l=>⟨4,[],[],⟨[],[]⟩,[],[x,ol l]⟩
def tkP(p:Int):G.K:=⟨1,p,[],[],[]⟩
def tkC(p:Int):G.K:=⟨2,p,[],[],[]⟩
def y0a:List UInt8:=[43]
def w0a:G.O:=oSy y0a
def y1a:List UInt8:=[45,49]
def w1a:G.O:=oNu y1a
def y2a:List UInt8:=[48]
def w2a:G.O:=oNu y2a
def y3a:List UInt8:=[49]
def w3a:G.O:=oNu y3a
def y4a:List UInt8:=[60]
def w4a:G.O:=oSy y4a
def y5a:List UInt8:=[97]
def w5a:G.O:=oSy y5a
def y6a:List UInt8:=[97,110,100]
def w6a:G.O:=oSy y6a
def y7a:List UInt8:=[97,112,112,101,110,100]
def w7a:G.O:=oSy y7a
def y8a:List UInt8:=[97,115,115,111,99,45,101,113,117,97,108]
def w8a:G.O:=oSy y8a
def y9a:List UInt8:=[97,116,111,109]
def w9a:G.O:=oSy y9a
def y10a:List UInt8:=[98,105,110,97,114,121,45,97,112,112,101,110,100]
def w10a:G.O:=oSy y10a
def y11a:List UInt8:=[98,111,111,108,101,97,110,112]
def w11a:G.O:=oSy y11a
def y12a:List UInt8:=[99,97,114]
def aBd:G.O:=oSy y12a
def y13a:List UInt8:=[99,100,114]
def aDQ:G.O:=oSy y13a
def y14a:List UInt8:=[99,111,110,100]
def w14a:G.O:=oSy y14a
def y15a:List UInt8:=[99,111,110,115]
def w15a:G.O:=oSy y15a
def y16a:List UInt8:=[99,111,110,115,112]
def vD:G.O:=oSy y16a
def y17a:List UInt8:=[99,111,117,110,116]
def aDP:G.O:=oSy y17a
def y18a:List UInt8:=[100,101,102,117,110]
def mV:G.O:=oSy y18a
def y19a:List UInt8:=[101]
def w19a:G.O:=oSy y19a
def y20a:List UInt8:=[101,110,100,112]
def w20a:G.O:=oSy y20a
def y21a:List UInt8:=[101,113,117,97,108]
def w21a:G.O:=oSy y21a
def y22a:List UInt8:=[102,105,120]
def w22a:G.O:=oSy y22a
def y23a:List UInt8:=[103,117,97,114,100]
def w23a:G.O:=oSy y23a
def y24a:List UInt8:=[105,102]
def mY:G.O:=oSy y24a
def y25a:List UInt8:=[105,102,102]
def w25a:G.O:=oSy y25a
def y26a:List UInt8:=[105,102,105,120]
def w26a:G.O:=oSy y26a
def y27a:List UInt8:=[105,109,112,108,105,101,115]
def w27a:G.O:=oSy y27a
def y28a:List UInt8:=[105,110,116,101,103,101,114,112]
def w28a:G.O:=oSy y28a
def y29a:List UInt8:=[107]
def w29a:G.O:=oSy y29a
def y30a:List UInt8:=[108,101,110]
def w30a:G.O:=oSy y30a
def y31a:List UInt8:=[108,105,115,116]
def w31a:G.O:=oSy y31a
def y32a:List UInt8:=[109,101,97,115,117,114,101]
def aD6:G.O:=oSy y32a
def y33a:List UInt8:=[109,101,109,98,101,114,45,101,113,117,97,108]
def w33a:G.O:=oSy y33a
def y34a:List UInt8:=[110]
def w34a:G.O:=oSy y34a
def y35a:List UInt8:=[110,97,116,112]
def w35a:G.O:=oSy y35a
def y36a:List UInt8:=[110,102,105,120]
def w36a:G.O:=oSy y36a
def y37a:List UInt8:=[110,105,108]
def aCV:G.O:=oSy y37a
def y38a:List UInt8:=[110,111,116]
def w38a:G.O:=oSy y38a
def y39a:List UInt8:=[110,116,104]
def w39a:G.O:=oSy y39a
def y40a:List UInt8:=[111,45,102,105,110,112]
def w40a:G.O:=oSy y40a
def y41a:List UInt8:=[111,45,102,105,114,115,116,45,99,111,101,102,102,105,99,105,101,110,116]
def w41a:G.O:=oSy y41a
def y42a:List UInt8:=[111,45,102,105,114,115,116,45,101,120,112,111,110,101,110,116]
def w42a:G.O:=oSy y42a
def y43a:List UInt8:=[111,45,112]
def w43a:G.O:=oSy y43a
def y44a:List UInt8:=[111,45,114,101,115,116]
def w44a:G.O:=oSy y44a
def y45a:List UInt8:=[111,60]
def w45a:G.O:=oSy y45a
def y46a:List UInt8:=[111,114]
def w46a:G.O:=oSy y46a
def y47a:List UInt8:=[112]
def w47a:G.O:=oSy y47a
def y48a:List UInt8:=[112,111,115,112]
def w48a:G.O:=oSy y48a
def y49a:List UInt8:=[113]
def w49a:G.O:=oSy y49a
def y50a:List UInt8:=[114,97,116,105,111,110,97,108,112]
def w50a:G.O:=oSy y50a
def y51a:List UInt8:=[114,101,118]
def w51a:G.O:=oSy y51a
def y52a:List UInt8:=[115,121,110,116,97,120,112]
def w52a:G.O:=oSy y52a
def y53a:List UInt8:=[116]
def aDO:G.O:=oSy y53a
def y54a:List UInt8:=[116,114,117,101,45,108,105,115,116,112]
def w54a:G.O:=oSy y54a
def y55a:List UInt8:=[117,112,100,97,116,101,45,110,116,104]
def w55a:G.O:=oSy y55a
def y56a:List UInt8:=[118]
def w56a:G.O:=oSy y56a
def oE:List UInt8:=[120]
def bI:G.O:=oSy oE
def y58a:List UInt8:=[121]
def aDN:G.O:=oSy y58a
def y59a:List UInt8:=[122,112]
def w59a:G.O:=oSy y59a
def wdL:List (List UInt8):=[y0a,y1a,y2a,y3a,y4a,y5a,y6a,y7a,y8a,y9a,y10a,y11a,y12a,y13a,y14a,y15a,y16a,y17a,y18a,y19a,y20a,y21a,y22a,y23a,y24a,y25a,y26a,y27a,y28a,y29a,y30a,y31a,y32a,y33a,y34a,y35a,y36a,y37a,y38a,y39a,y40a,y41a,y42a,y43a,y44a,y45a,y46a,y47a,y48a,y49a,y50a,y51a,y52a,y53a,y54a,y55a,y56a,oE,y58a,y59a]
def tkM:Nat→Nat→Nat→List G.K
 |0,_,_=>[]
 |f+1,p,n=>bif Nat.beq (n%64) 0 then tkP ((p+n/64%64:Nat):Int)::tkM f (p+n/64%64+1) (n/4096)
  else bif Nat.beq (n%64) 1 then tkC ((p+n/64%64:Nat):Int)::tkM f (p+n/64%64+1) (n/4096)
  else match wdL[n%64-2]? with
   |some w=>wtk (isN w) ((p+n/64%64:Nat):Int) w::tkM f (p+n/64%64+w.length) (n/4096)
   |none=>[]
def toksL:List G.K:=tkM 942 0 0x100100100100107b00f04007a00106404300204003904000107b00e04001104000100107b00f04007a01104000106403d04001a0c000100106402604002204000100100107b03804000106402504000804001904000107b07a02404007901404000100100100107b00f04000106404300204002904000107b00e04000106403d04001a0c000100106402604002204000100100107b03804000106402504000804001904000107b02404006901404000100100100100104700f04005f00a04003724000100104700e04000100100100104700e04000e04005f01704000100104700e0400120400080002400010670010010470120400280000400100c000100104701304002204000104701f04004a01404000100106700100100107b00f04005502304007b00100107b00e04005501704001a04000107b01204001a0c000100107b01304002204000100107b03804001904000107b01504006301404000100106700100100107b00e04002104000100107b00f04003504000904000107b01204001a0c000100107b01304002204000103b04007501404000100107c00100107c00107b00f04000c04000107b00e04001104000107b01204001a0c000100107b01304002204000100107b03804001904000107c03b04004c01404000100100106707b01704000100107b00f04003804000107b01204001a04000100107b01304002204000103b04007801404000100104400100100107b00f04002004004500204000107b01204001a04000100107b01304002204000103b04006001404000100100100100107b02c04000100107b02e04002c04002f28000100107b02e04002d28000100107b02b04003228000100104400107b02c04001704002828000100107b02c04002d28000100107b00e04001204000814000107b0251c000107b02a04001a0c000100107b01304002204000103b04006d01404000100100100100107c02e04000107b02e04002f04003724000100100107c02b04000107b02b04000628000100100107c02b04000107b02b04001704002800024000100100107c02c04000107b02c04002f28000100100107c02c04000107b02c04001704002800024000106700107c02a00024000100100107c07b00604007700107c01204001a04000107b02a0000400100c000100107b01304002204000107c03b04006f01404000100104400107b00f04000107b01204001a04000103b04006e01404000100107b00100107b00e04000f04000107b01204001a04000103b04006b01404000100104400100107b00e04000e04000107b01204001a04000103b04006c01404000100100107b01204002804000103b04006a01404000100104400100100107b00f04001304000100107b00e04001304004500204000107b01204001a04000100107b01304002204000103b04005301404000100107700100107b04400604002804000107b01e04001a04000100107b02504001904000103b04007d01404000100104407b00107b02504001a04000103b04006601404000100106700107b04400604000107b01e04001a04000103b04007201404000100106700100104407b00604002804000107b01e04001a04000103b04006501404000100104407b00107b01e04001a04000103b04005c01404000100104407b00107b03404001a04000103b04005801404000100100107b01204002804000100100106707b01704000107b01204003004001904000103b04005601404000100100107b01204002804000103b04004b01404000107700103b04007601404000100100106707b01704007700107707b01704001a04000103b04004d01404000100100107706707301a04000106707707301a04007101a04000107303104005b01404000100107700106707707301a04007101a04000107303104005d01404000100107706707101a040001031040068014000++ [⟨0,2580,[],[],[]⟩]
def o0a:G.O:=ol [mV,w38a,ol [w47a],ol [mY,w47a,aCV,aDO]]
def o1a:G.O:=ol [mV,w27a,ol [w47a,w49a],ol [mY,w47a,ol [mY,w49a,aDO,aCV],aDO]]
def o2a:G.O:=ol [mV,w25a,ol [w47a,w49a],ol [mY,w47a,ol [mY,w49a,aDO,aCV],ol [mY,w49a,aCV,aDO]]]
def o3a:G.O:=ol [mV,w11a,ol [bI],ol [mY,ol [w21a,bI,aDO],aDO,ol [w21a,bI,aCV]]]
def o4a:G.O:=ol [mV,w52a,ol [bI],aDO]
def o5a:G.O:=ol [mV,w9a,ol [bI],ol [w38a,ol [vD,bI]]]
def o6a:G.O:=ol [mV,w20a,ol [bI],ol [w23a,ol [w46a,ol [vD,bI],ol [w21a,bI,aCV]]],ol [w38a,ol [vD,bI]]]
def o7a:G.O:=ol [mV,w22a,ol [bI],ol [mY,ol [w50a,bI],bI,w2a]]
def o8a:G.O:=ol [mV,w26a,ol [bI],ol [mY,ol [w28a,bI],bI,w2a]]
def o9a:G.O:=ol [mV,w35a,ol [bI],ol [mY,ol [w28a,bI],ol [w38a,ol [w4a,bI,w2a]],aCV]]
def o10a:G.O:=ol [mV,w48a,ol [bI],ol [mY,ol [w28a,bI],ol [w4a,w2a,bI],aCV]]
def o11a:G.O:=ol [mV,w36a,ol [bI],ol [mY,ol [w35a,bI],bI,w2a]]
def o12a:G.O:=ol [mV,w59a,ol [bI],ol [w23a,ol [w35a,bI]],ol [mY,ol [w28a,bI],ol [w38a,ol [w4a,w2a,bI]],aDO]]
def o13a:G.O:=ol [mV,aDP,ol [bI],ol [aD6,ol [aDP,bI]],ol [mY,ol [vD,bI],ol [w0a,w3a,ol [aDP,ol [aBd,bI]],ol [aDP,ol [aDQ,bI]]],w2a]]
def o14a:G.O:=ol [mV,w40a,ol [bI],ol [w38a,ol [vD,bI]]]
def o15a:G.O:=ol [mV,w42a,ol [bI],ol [mY,ol [vD,bI],ol [aBd,ol [aBd,bI]],w2a]]
def o16a:G.O:=ol [mV,w41a,ol [bI],ol [mY,ol [vD,bI],ol [aDQ,ol [aBd,bI]],bI]]
def o17a:G.O:=ol [mV,w44a,ol [bI],ol [mY,ol [vD,bI],ol [aDQ,bI],w2a]]
def o18a:G.O:=ol [mV,w45a,ol [bI,aDN],ol [aD6,ol [aDP,bI]],ol [w14a,ol [ol [w40a,bI],ol [mY,ol [vD,aDN],aDO,ol [w4a,bI,aDN]]],ol [ol [w40a,aDN],aCV],ol [ol [w38a,ol [w21a,ol [w42a,bI],ol [w42a,aDN]]],ol [w45a,ol [w42a,bI],ol [w42a,aDN]]],ol [ol [w38a,ol [w21a,ol [w41a,bI],ol [w41a,aDN]]],ol [w4a,ol [w41a,bI],ol [w41a,aDN]]],ol [aDO,ol [w45a,ol [w44a,bI],ol [w44a,aDN]]]]]
def o19a:G.O:=ol [mV,w43a,ol [bI],ol [aD6,ol [aDP,bI]],ol [mY,ol [w40a,bI],ol [w35a,bI],ol [w6a,ol [vD,ol [aBd,bI]],ol [w43a,ol [w42a,bI]],ol [w38a,ol [w21a,ol [w42a,bI],w2a]],ol [w48a,ol [w41a,bI]],ol [w43a,ol [w44a,bI]],ol [w45a,ol [w42a,ol [w44a,bI]],ol [w42a,bI]]]]]
def o20a:G.O:=ol [mV,w30a,ol [bI],ol [aD6,ol [aDP,bI]],ol [mY,ol [vD,bI],ol [w0a,w3a,ol [w30a,ol [aDQ,bI]]],w2a]]
def o21a:G.O:=ol [mV,w54a,ol [bI],ol [aD6,ol [aDP,bI]],ol [mY,ol [vD,bI],ol [w54a,ol [aDQ,bI]],ol [w21a,bI,aCV]]]
def o22a:G.O:=ol [mV,w10a,ol [bI,aDN],ol [w23a,ol [w54a,bI]],ol [aD6,ol [aDP,bI]],ol [mY,ol [vD,bI],ol [w15a,ol [aBd,bI],ol [w10a,ol [aDQ,bI],aDN]],aDN]]
def o23a:G.O:=ol [mV,w51a,ol [bI],ol [aD6,ol [aDP,bI]],ol [mY,ol [vD,bI],ol [w7a,ol [w51a,ol [aDQ,bI]],ol [w31a,ol [aBd,bI]]],aCV]]
def o24a:G.O:=ol [mV,w33a,ol [w19a,bI],ol [w23a,ol [w54a,bI]],ol [aD6,ol [aDP,bI]],ol [mY,ol [vD,bI],ol [mY,ol [w21a,w19a,ol [aBd,bI]],bI,ol [w33a,w19a,ol [aDQ,bI]]],aCV]]
def o25a:G.O:=ol [mV,w8a,ol [w29a,w5a],ol [aD6,ol [aDP,w5a]],ol [w14a,ol [ol [w38a,ol [vD,w5a]],aCV],ol [ol [w6a,ol [vD,ol [aBd,w5a]],ol [w21a,w29a,ol [aBd,ol [aBd,w5a]]]],ol [aBd,w5a]],ol [aDO,ol [w8a,w29a,ol [aDQ,w5a]]]]]
def o26a:G.O:=ol [mV,w39a,ol [w34a,bI],ol [w23a,ol [w6a,ol [w35a,w34a],ol [w54a,bI]]],ol [aD6,ol [w36a,w34a]],ol [mY,ol [w59a,w34a],ol [aBd,bI],ol [w39a,ol [w0a,w1a,w34a],ol [aDQ,bI]]]]
def o27a:G.O:=ol [mV,w55a,ol [w34a,w56a,bI],ol [w23a,ol [w6a,ol [w35a,w34a],ol [w54a,bI]]],ol [aD6,ol [w36a,w34a]],ol [mY,ol [w59a,w34a],ol [w15a,w56a,ol [aDQ,bI]],ol [w15a,ol [aBd,bI],ol [w55a,ol [w0a,w1a,w34a],w56a,ol [aDQ,bI]]]]]
def oAll:List G.O:=[o0a,o1a,o2a,o3a,o4a,o5a,o6a,o7a,o8a,o9a,o10a,o11a,o12a,o13a,o14a,o15a,o16a,o17a,o18a,o19a,o20a,o21a,o22a,o23a,o24a,o25a,o26a,o27a]
def spW:List UInt8→List UInt8×List UInt8
 |[]=>([],[])
 |x::l=>bif csI (u8 x)then(x::(spW l).1,(spW l).2)else([],x::l)
def spB:List UInt8→List UInt8×List UInt8
 |[]=>([],[])
 |x::l=>bif blI (u8 x)then(x::(spB l).1,(spB l).2)else([],x::l)
def lexI:Nat→List UInt8→Its×List UInt8
 |0,l=>([],l)
 |n+1,l=>match spB l with
  |(b,[])=>([],b)
  |(b,x::r)=>bif Nat.beq x.toNat 40 then((b,.op)::(lexI n r).1,(lexI n r).2)else bif Nat.beq x.toNat 41 then((b,.cl)::(lexI n r).1,(lexI n r).2)else
   match spW (x::r)with
   |(w,r')=>((b,.wd (isN w) w)::(lexI n r').1,(lexI n r').2)
end Go.TV
namespace Go.TV
open Go.AI Go.PI Go.Proofs
set_option maxRecDepth 20000
def zTe:G.T:=⟨0,⟨[],[]⟩,⟨0,[],[],⟨[],[]⟩,[],[]⟩,[]⟩
abbrev T3:=G.T×G.T×G.T
abbrev Sk:=List UInt8×List (List UInt8)
def enE(s:Sk)(x:T3):G.E:=G.E.mk 3 ⟨rJ,s.1⟩ ⟨[],[]⟩ ⟨⟨[],[]⟩,[],false,zTe⟩ [⟨⟨rJ,s.1⟩,s.2.map (fun p=>⟨rJ,p⟩),1,x.1,x.2.1,x.2.2⟩] [] [] [] ⟨⟨[],[]⟩,[]⟩ [] [] [] [] 0
def enB(s:Sk):G.E→Bool
 |⟨k,n,⟨[],[]⟩,⟨⟨[],[]⟩,[],false,⟨bk,⟨[],[]⟩,⟨ok,[],[],⟨[],[]⟩,[],[]⟩,[]⟩⟩,[⟨fn,ps,cl,_,_,_⟩],[],[],[],⟨⟨[],[]⟩,[]⟩,[],[],[],[],h⟩=>decide (k=3)&&decide (n=⟨rJ,s.1⟩)&&decide (bk=0)&&decide (ok=0)&&decide (fn=⟨rJ,s.1⟩)&&decide (cl=1)&&decide (h=0)&&decide (ps=s.2.map (fun p=>⟨rJ,p⟩))
 |_=>false
theorem enB_ok{s:Sk}{e:G.E}(h:enB s e=true): ∃x,e=enE s x:=by
 unfold enB at h;split at h
 ·simp only[bjE,djE]at h;obtain⟨⟨⟨⟨⟨⟨⟨rfl,rfl⟩,rfl⟩,rfl⟩,rfl⟩,rfl⟩,rfl⟩,rfl⟩:=h;exact⟨(_,_,_),rfl⟩
 ·cases h
def enR(s:Sk)(r:Rt):Bool:=match r with|some [⟨.rc 15,e⟩]=>enB s e|_=>false
theorem enR_ok{s:Sk}{r:Rt}(h:enR s r=true): ∃x,r=some [yR 15 (enE s x)]:=by
 unfold enR at h;split at h
 ·rename_i e;obtain⟨x,hx⟩:=enB_ok h;exact⟨x,by rw[hx]⟩
 ·cases h
def skL:List Sk:=[(y38a,[y47a]),(y27a,[y47a,y49a]),(y25a,[y47a,y49a]),(y11a,[oE]),(y52a,[oE]),(y9a,[oE]),(y20a,[oE]),(y22a,[oE]),(y26a,[oE]),(y35a,[oE]),(y48a,[oE]),(y36a,[oE]),(y59a,[oE]),(y17a,[oE]),(y40a,[oE]),(y42a,[oE]),(y41a,[oE]),(y44a,[oE]),(y45a,[oE,y58a]),(y43a,[oE]),(y30a,[oE]),(y54a,[oE]),(y10a,[oE,y58a]),(y51a,[oE]),(y33a,[y19a,oE]),(y8a,[y29a,y5a]),(y39a,[y34a,oE]),(y55a,[y34a,y56a,oE])]
def skA(k:Nat):Sk:=(skL[k]?).getD ([],[])
def eF(X:Nat→T3):List Sk→Nat→List G.E
 |[],_=>[]
 |s::l,j=>enE s (X j)::eF X l (j+1)
def eL(X:Nat→T3)(k:Nat):List G.E:=eF X (skL.take k) 0
def Kd:TC0:=fun i d=>bif Nat.beq i 29 then(match d with|[]=>some [⟨.sl (.rc 2),oAll⟩]|_=>none)else none
noncomputable def cD(L M k:Nat):TC0:=evB Kd (upT (L+7000) (M+99)) (L+7000) k
noncomputable def pE(L M k:Nat)(X:Nat→T3)(o:G.O):Bool:=enR (skA k) (cD L M 58 30 [yS 15 (eL X k),yR 2 o])
end Go.TV
