import Derived.Test.YtjoliomfkdkjgaaGreatDoorKy
import Derived.Test.YtjoliomfkdkjgaaGreatDoorKv
import Derived.Test.YtjoliomfkdkjgaaGreatDoorKw
import Derived.Test.YtjoliomfkdkjgaaGreatDoorKaa
import Derived.Test.YtjoliomfkdkjgaaGreatDoorKab
import Derived.Test.YtjoliomfkdkjgaaGreatDoorKac
import Derived.Test.YtjoliomfkdkjgaaGreatDoorKz
import Derived.Test.YtjoliomfkdkjgaaGreatDoorKx
set_option linter.unusedVariables false
set_option linter.unusedSimpArgs false
set_option linter.constructorNameAsVariable false
namespace Go.TV
open Go.AI Go.PI Go.Proofs
theorem uU:rowsL=[⟨[105,102],3⟩,⟨[101,113,117,97,108],2⟩,⟨[99,111,110,115],2⟩,⟨[99,97,114],1⟩,⟨[99,100,114],1⟩,⟨[99,111,110,115,112],1⟩,⟨[115,121,109,98,111,108,112],1⟩,⟨[115,116,114,105,110,103,112],1⟩,⟨[114,97,116,105,111,110,97,108,112],1⟩,⟨[105,110,116,101,103,101,114,112],1⟩,⟨[98,105,110,97,114,121,45,43],2⟩,⟨[98,105,110,97,114,121,45,42],2⟩,⟨[117,110,97,114,121,45,45],1⟩,⟨[117,110,97,114,121,45,47],1⟩,⟨[60],2⟩,⟨[110,117,109,101,114,97,116,111,114],1⟩,⟨[100,101,110,111,109,105,110,97,116,111,114],1⟩,⟨[102,108,111,111,114],1⟩,⟨[115,121,109,98,111,108,45,110,97,109,101],1⟩,⟨[115,121,109,98,111,108,45,112,97,99,107,97,103,101,45,110,97,109,101],1⟩,⟨[105,110,116,101,114,110],2⟩,⟨[115,116,114,105,110,103,45,97,112,112,101,110,100],2⟩,⟨[115,116,114,105,110,103,45,108,101,110,103,116,104],1⟩,⟨[115,116,114,105,110,103,45,98,121,116,101],2⟩,⟨[98,121,116,101,45,115,116,114,105,110,103],1⟩]:=rfl
theorem rP{x:List UInt8}: ∀{l:List G.R},(∀r∈l,¬r.name=x)→kA x l=none
 |[],_=>rfl
 |r::l,h=>by rw[kA,if_neg (h r (mhE ..)),rP fun y hy=>h y (mtE _ hy)]
theorem ArP_ok(s:G.Y)(L n:Nat):CTp L (n+1) 23 [yR 1 s]=some (oI (arity s)):=by
 rw[c23,F23,B23x0];by_cases e:s.package=bM
 ·have e':decide (s.package=([108,105,115,112]:List UInt8))=true:=decide_eq_true e;have ea:arity s=kA s.name rowsL:=by simp[arity,e]
  rw[e',ea];simp only[bnT,aC];generalize s.name=x;simp only[J23x1,J23x2,B23x1,B23x2];by_cases hm: ∃r∈rowsL,r.name=x
  ·obtain⟨r,hr,rfl⟩:=hm;rw[uU]at hr;simp only[List.mem_cons,List.not_mem_nil,or_false]at hr;rcases hr with rfl|rfl|rfl|rfl|rfl|rfl|rfl|rfl|rfl|rfl|rfl|rfl|rfl|rfl|rfl|rfl|rfl|rfl|rfl|rfl|rfl|rfl|rfl|rfl|rfl
   all_goals rfl
  ·have hn: ∀r∈rowsL,¬r.name=x:=fun r hr h=>hm ⟨r,hr,h⟩
   rw[rP hn];rw[uU]at hn;simp only[List.forall_mem_cons,G.R.name]at hn;obtain⟨h0,h1,h2,h3,h4,h5,h6,h7,h8,h9,h10,h11,h12,h13,h14,h15,h16,h17,h18,h19,h20,h21,h22,h23,h24,-⟩:=hn;simp only[Ne.symm h0,Ne.symm h1,Ne.symm h2,Ne.symm h3,Ne.symm h4,Ne.symm h5,Ne.symm h6,Ne.symm h7,Ne.symm h8,Ne.symm h9,Ne.symm h10,Ne.symm h11,Ne.symm h12,Ne.symm h13,Ne.symm h14,Ne.symm h15,Ne.symm h16,Ne.symm h17,Ne.symm h18,Ne.symm h19,Ne.symm h20,Ne.symm h21,Ne.symm h22,Ne.symm h23,Ne.symm h24,decide_false,aC,oI]
 ·have e':decide (s.package=([108,105,115,112]:List UInt8))=false:=decide_eq_false e;have ea:arity s=none:=by simp[arity,e]
  rw[e',ea];rfl
end Go.TV
namespace Go.TV
open Go.AI Go.PI Go.Proofs
set_option maxRecDepth 20000
def ifB:List UInt8:=[105,102]
theorem aAy{L M N:Nat}{w:List UInt8}(h:PrQ (cF L M 60 26 (prA w 1)) (orF (cF L N 59) w (lX 1 11) 0))(ha:arity ⟨bM,w⟩=some 1)(hn: ¬w=[110,111,116]):PrR (CTp (L+7000) (M+60) 26 (prA w 1)) (CTp (L+7000) (N+60) 69 (prA w 1)):=by
 obtain⟨v,h1,h2,h3⟩:=h;rw[cF_ok]at h1 h2;refine⟨v,h1,?_,h3⟩;have hA:=aEi ⟨bM,w⟩ (L+7000) (N+57) (by omega)
 rw[ha]at hA;show CTp (L+7000) (N+59+1) 69 [⟨.rc 1,(⟨bM,w⟩:G.Y)⟩,⟨.sl (.int .i64),mB (2047:Int) 1⟩]=_;rw[c69];exact prm1_ok (L:=L+6980) hA hn h2
theorem prm2{L M N:Nat}{w:List UInt8}(h:PrQ (cF L M 60 26 (prA w 2)) (orF (cF L N 59) w (lX 2047 11) 0))(ha:arity ⟨bM,w⟩=some 2)(hn: ¬w=[110,111,116]):PrR (CTp (L+7000) (M+60) 26 (prA w 2)) (CTp (L+7000) (N+60) 69 (prA w 2)):=by
 obtain⟨v,h1,h2,h3⟩:=h;rw[cF_ok]at h1 h2;refine⟨v,h1,?_,h3⟩;have hA:=aEi ⟨bM,w⟩ (L+7000) (N+57) (by omega)
 rw[ha]at hA;show CTp (L+7000) (N+59+1) 69 [⟨.rc 1,(⟨bM,w⟩:G.Y)⟩,⟨.sl (.int .i64),mB (2047:Int) 2⟩]=_;rw[c69];exact prm2_ok (L:=L+6980) hA hn h2
theorem pr_both(L M N:Nat): ∀r∈rowsL,r.name≠ifB→(r.arity=1∧PrR (CTp (L+7000) (M+60) 26 (prA r.name 1)) (CTp (L+7000) (N+60) 69 (prA r.name 1)))∨(r.arity=2∧PrR (CTp (L+7000) (M+60) 26 (prA r.name 2)) (CTp (L+7000) (N+60) 69 (prA r.name 2))):=by
 rw[uU];intro r hr hne;simp only[List.mem_cons,List.not_mem_nil,or_false]at hr;rcases hr with rfl|rfl|rfl|rfl|rfl|rfl|rfl|rfl|rfl|rfl|rfl|rfl|rfl|rfl|rfl|rfl|rfl|rfl|rfl|rfl|rfl|rfl|rfl|rfl|rfl
 ·exact(hne rfl).elim
 ·exact .inr ⟨rfl,prm2 (pv1 L M N) (by decide) (by decide)⟩
 ·exact .inr ⟨rfl,prm2 (pv2 L M N) (by decide) (by decide)⟩
 ·exact .inl ⟨rfl,aAy (pv3 L M N) (by decide) (by decide)⟩
 ·exact .inl ⟨rfl,aAy (pv4 L M N) (by decide) (by decide)⟩
 ·exact .inl ⟨rfl,aAy (pv5 L M N) (by decide) (by decide)⟩
 ·exact .inl ⟨rfl,aAy (pv6 L M N) (by decide) (by decide)⟩
 ·exact .inl ⟨rfl,aAy (pv7 L M N) (by decide) (by decide)⟩
 ·exact .inl ⟨rfl,aAy (pv8 L M N) (by decide) (by decide)⟩
 ·exact .inl ⟨rfl,aAy (pv9 L M N) (by decide) (by decide)⟩
 ·exact .inr ⟨rfl,prm2 (pv10 L M N) (by decide) (by decide)⟩
 ·exact .inr ⟨rfl,prm2 (pv11 L M N) (by decide) (by decide)⟩
 ·exact .inl ⟨rfl,aAy (pv12 L M N) (by decide) (by decide)⟩
 ·exact .inl ⟨rfl,aAy (pv13 L M N) (by decide) (by decide)⟩
 ·exact .inr ⟨rfl,prm2 (pv14 L M N) (by decide) (by decide)⟩
 ·exact .inl ⟨rfl,aAy (pv15 L M N) (by decide) (by decide)⟩
 ·exact .inl ⟨rfl,aAy (pv16 L M N) (by decide) (by decide)⟩
 ·exact .inl ⟨rfl,aAy (pv17 L M N) (by decide) (by decide)⟩
 ·exact .inl ⟨rfl,aAy (pv18 L M N) (by decide) (by decide)⟩
 ·exact .inl ⟨rfl,aAy (pv19 L M N) (by decide) (by decide)⟩
 ·exact .inr ⟨rfl,prm2 (pv20 L M N) (by decide) (by decide)⟩
 ·exact .inr ⟨rfl,prm2 (pv21 L M N) (by decide) (by decide)⟩
 ·exact .inl ⟨rfl,aAy (pv22 L M N) (by decide) (by decide)⟩
 ·exact .inr ⟨rfl,prm2 (pv23 L M N) (by decide) (by decide)⟩
 ·exact .inl ⟨rfl,aAy (pv24 L M N) (by decide) (by decide)⟩
end Go.TV
namespace Go.TV
open Go.AI Go.PI Go.Proofs
set_option maxRecDepth 20000
theorem litR_ok{c:TC0}{B L:Nat}(h:RfX c B)(hB:B<1000000000){a u:G.T}(ha:tsz a≤B):F28 c (L+3) a u=some [⟨.int .i64,litS a u⟩,⟨.bool,aEK a u⟩]:=by
 have key: ∀s q,aFh c (L+3) s q a u=reX s q (rds a u):=fun s q=>by
  by_cases hk:a.kind=3
  ·rw[X1 h hB ha hk,rds_X]
  ·rw[aFh,B28x1,decide_eq_false hk,(uZ (u:=u) hk (by omega)).1]
   simp[reX,cnd]
 rw[F28,B28x0,h.e a ha u,bC,litS,aEK];by_cases e:a=u
 ·rw[decide_eq_true e,if_pos e];exact key 2015 true
 ·rw[decide_eq_false e,if_neg e];exact key 2047 false
theorem woR_ok{c:TC0}{B L:Nat}(h:RfX c B)(hB:B<1000000000){a u:G.T}(ha:tsz a≤B):F30 c (L+3) a u=some [⟨.int .i64,woS a u⟩]:=by
 have key: ∀s,aFg c (L+3) s a u=reY s (rds a u):=fun s=>by
  by_cases hk:a.kind=3
  ·rw[Y1 h hB ha hk,rds_Y]
  ·rw[aFg,B30x1,decide_eq_false hk,(uZ (u:=u) hk (by omega)).1]
   simp[reY,cnd]
 rw[F30,B30x0,h.e a ha u,bC,woS];by_cases e:a=u
 ·rw[decide_eq_true e,if_pos e];exact key 32
 ·rw[decide_eq_false e,if_neg e];exact key 2047
theorem TyR_loop{c:TC0}{L:Nat}{u:G.T}{a:List G.T}(hb:a.length<1000000): ∀(l:List G.T) (k m:Nat) (b:Int),a.drop k=l→l.length<m→
    (∀x∈l,c 28 [⟨.rc 3,x⟩,⟨.rc 3,u⟩]=some [⟨.int .i64,litS x u⟩,⟨.bool,aEK x u⟩])→(∀x:G.T,c 29 [⟨.rc 3,x⟩,⟨.str,lB⟩,⟨.int .i64,(1:Int)⟩]=some [⟨.bool,isA x lB 1⟩])→
    (∀x∈l,∀y∈x.args,c 30 [⟨.rc 3,y⟩,⟨.rc 3,u⟩]=some [⟨.int .i64,woS y u⟩])→W6x1 c L m a (k:Int) b u=some [⟨.int .i64,l.foldl (stR u) b⟩]:=by
 intro l;induction l with
 |nil=>
  intro k m b e h3 _ _ _;obtain⟨m,rfl⟩: ∃m',m=m'+1:=⟨m-1,by simp at h3;omega⟩
  have e1:=bI e;have e3:decide ((k:Int)<(a.length:Int))=false:=by simp;omega
  rw[W6x1,B6x1,e3,aC];rfl
 |cons x l ih=>
  intro k m b e h3 h4 h5 h6;obtain⟨m,rfl⟩: ∃m',m=m'+1:=⟨m-1,by simp at h3;omega⟩
  obtain⟨a1,a2,a3⟩:=bG e;have e3:decide ((k:Int)<(a.length:Int))=true:=by simp;omega
  have hi:=fun b=>ih (k+1) m b a3 (by simp at h3;omega) (fun z hz=>h4 z (mtE _ hz)) h5 fun z hz=>h6 z (mtE _ hz)
  have h5x:=h5 x;simp only[lB]at h5x;have k2: ∀b1:Int,J6x2 c L (W6x1 c L m) (k:Int) a b1 u=some [⟨.int .i64,l.foldl (stR u) (bif isA x lB 1 then(match x.args with|[y]=>band b1 (woS y u)|_=>0)else b1)⟩]:=fun b1=>by
   rw[J6x2,B6x2,aR,a1,dG,h5x,bC];cases hn:isA x lB 1 with
   |false=>
    have hn':isA x [110,111,116] 1=false:=hn;rw[hn'];simp only[aC,cdf];rw[J6x3,B6x3,dX (by omega),hi]
   |true=>
    have hn':isA x [110,111,116] 1=true:=hn;obtain⟨y,hy⟩:=len1 (gT (k:=1) hn);have h7:=h6 x (mhE ..) y (by rw[hy];exact mhE ..)
    rw[hn'];simp only[aE,cdt];rw[dG,hy,show idx [y] (0:Int)=some y from rfl,dG,h7,jE]
    simp only[];rw[J6x3,B6x3,dX (by omega),hi];rfl
  rw[W6x1,B6x1,e3,aE,aR,a1,dG,h4 x (mhE ..),eN];have hst: ∀b1,(bif isA x lB 1 then(match x.args with|[y]=>band b1 (woS y u)|_=>0)else b1)=stR u b x→some [⟨.int .i64,l.foldl (stR u) (bif isA x lB 1 then(match x.args with|[y]=>band b1 (woS y u)|_=>0)else b1)⟩]=(some [⟨.int .i64,(x::l).foldl (stR u) b⟩]:Rt):=fun b1 e=>by rw[e];rfl
  cases hq:aEK x u with
  |true=>simp only[aE];rw[k2];exact hst _ (by unfold stR;rw[hq];rfl)
  |false=>simp only[aC];rw[k2];exact hst _ (by unfold stR;rw[hq];rfl)
def abS(r:Rt)(b:Int):Int:=match r with
 |some [⟨.int .i64,i⟩,_,⟨.bool,true⟩]=>band b i
 |_=>b
theorem abS_st{r:Rt}{u x:G.T}{b:Int}(h:ItO r (abM x u)):abS r b=stP u b x:=by
 obtain⟨i,t,q,rfl,g1,g2⟩:=h;unfold stP;cases q with
 |true=>rw[g1 rfl];rfl
 |false=>rw[g2 rfl];rfl
theorem TyP_loop{c:TC0}{L:Nat}{u:G.T}{a:List G.T}(hb:a.length<1000000)(h1: ∀x:G.T,c 25 [⟨.rc 3,x⟩]=some [⟨.rc 3,neg x⟩]): ∀(l:List G.T) (k m:Nat) (b:Int),a.drop k=l→l.length<m→
    (∀x∈l,ItO (c 24 [⟨.rc 3,x⟩,⟨.rc 3,u⟩]) (abM x u))→W5x3 c L m (a.length:Int) a u (k:Int) b=some [⟨.int .i64,l.foldl (stP u) b⟩]:=by
 intro l;induction l with
 |nil=>
  intro k m b e h3 _;obtain⟨m,rfl⟩: ∃m',m=m'+1:=⟨m-1,by simp at h3;omega⟩
  have e1:=bI e;have e3:decide ((k:Int)<(a.length:Int))=false:=by simp;omega
  rw[W5x3,B5x3,e3,aC];rfl
 |cons x l ih=>
  intro k m b e h3 h4;obtain⟨m,rfl⟩: ∃m',m=m'+1:=⟨m-1,by simp at h3;omega⟩
  obtain⟨a1,a2,a3⟩:=bG e;have e3:decide ((k:Int)<(a.length:Int))=true:=by simp;omega
  have hx:=h4 x (mhE ..);have hs:=abS_st (b:=b) hx;obtain⟨i,t,q,e5,_,_⟩:=hx;have hi:=fun b=>ih (k+1) m b a3 (by simp at h3;omega) fun z hz=>h4 z (mtE _ hz)
  rw[e5]at hs;rw[W5x3,B5x3,e3,aE,aR,a1,dG,e5,aAY,List.foldl_cons,←hs];cases q with
  |true=>
   simp only[aE];rw[h1 x,tL,J5x5,B5x5,dX (by omega),hi];rfl
  |false=>
   simp only[aC];rw[J5x5,B5x5,dX (by omega),hi];rfl
theorem aHb{u:G.T}: ∀(l:List G.T) (b:Int),InT u b→(∀x∈l,tsz x<1000000000)→l.foldl (stR u) b=l.foldl (stP u) b
 |[],_,_,_=>rfl
 |x::l,b,hb,hl=>by
  rw[List.foldl_cons,List.foldl_cons,step_eq hb (hl x (mhE ..))];exact aHb l _ hb.step fun y hy=>hl y (mtE _ hy)
theorem aIF{s:G.Y}{k:Int}(h:arity s=some k):s.package=bM∧∃r∈rowsL,r.name=s.name∧r.arity=k:=by
 unfold arity at h;split at h
 ·rename_i e;refine⟨e,?_⟩;generalize rowsL=l at h;induction l with
  |nil=>cases h
  |cons r l ih=>
   simp only[kA]at h;split at h
   ·rename_i e2;cases h;exact⟨r,mhE ..,e2,rfl⟩
   ·obtain⟨r',h1,h2⟩:=ih h;exact⟨r',mtE _ h1,h2⟩
 ·cases h
theorem tof_in(o:G.O):band (tof o) 2047=tof o:=by
 unfold tof
 repeat' split
 all_goals decide
theorem Ty_ownX{c c':TC0}{L:Nat}{u:G.T}(hO:c 21 [⟨.rc 2,u.value⟩]=some [⟨.int .i64,tof u.value⟩])(hO':u.kind=2→c' 67 [⟨.rc 2,u.value⟩]=some [⟨.int .i64,tof u.value⟩])(hI:c 22 [⟨.rc 3,u⟩,⟨.str,ifB⟩,⟨.int .i64,(u.args.length:Int)⟩]=some [⟨.bool,isA u ifB (u.args.length:Int)⟩])
    (hA:c 23 [⟨.rc 1,u.name⟩]=some (oI (arity u.name))) (hA':c' 68 [⟨.rc 1,u.name⟩]=some (oI (arity u.name)))
    (hP: ∀r∈rowsL,r.name≠ifB→(r.arity=1∧PrR (c 26 (prA r.name 1)) (c' 69 (prA r.name 1)))∨(r.arity=2∧PrR (c 26 (prA r.name 2)) (c' 69 (prA r.name 2)))):
    ∃o:Int,InT u o∧(∀a,F5 c (L+4) a u=J5x1 c (L+4) a u o)∧F27 c' (L+4) u=some [⟨.int .i64,o⟩]:=by
 simp only[ifB]at hI;by_cases e2:u.kind=2
 ·refine⟨tof u.value,⟨tof_in _,fun e=>by rw[e];decide⟩,fun a=>?_,?_⟩
  ·rw[F5,B5x0,decide_eq_true e2,aE,hO,jE]
  ·rw[F27,aJX,decide_eq_true e2,aE,hO' e2,jE]
 ·have hz: ∀o,band o 2047=o→InT u o:=fun o h=>⟨h,fun e=>by rw[e]at e2;exact(e2 rfl).elim⟩
  have hall:InT u 2047:=hz _ (by decide)
  by_cases e3:u.kind=3
  ·have hf: ∀a,F5 c (L+4) a u=J5x2 c (L+4) (!isA u ifB (u.args.length:Int)) a u 2047:=fun a=>by
    rw[F5,B5x0,decide_eq_false e2,aC,decide_eq_true e3,aE,hI,bC];rfl
   have hd:decide (u.name=⟨[108,105,115,112],[105,102]⟩)=isA u ifB (u.args.length:Int):=by
    by_cases e:u.name=⟨[108,105,115,112],[105,102]⟩
    ·rw[decide_eq_true e];simp[isA,e3,e,bM,ifB]
    ·rw[decide_eq_false e];have: ¬u.name=⟨bM,ifB⟩:=e;simp[isA,this]
   have hr:F27 c' (L+4) u=aFi c' (L+4) (isA u ifB (u.args.length:Int)) u:=by
    rw[F27,aJX,decide_eq_false e2,aC,decide_eq_true e3,hd];rfl
   cases hif:isA u ifB (u.args.length:Int)with
   |true=>
    refine⟨2047,hall,fun a=>by rw[hf,hif,J5x2,B5x2];rfl,?_⟩
    rw[hr,hif,aFi,aCc];rfl
   |false=>
    have hg: ∀a,F5 c (L+4) a u=B5x2 c (J5x4 c (L+4)) (J5x1 c (L+4)) true a u 2047:=fun a=>by rw[hf,hif,J5x2];rfl
    have hs:F27 c' (L+4) u=aCc c' (aJE c' (L+4)) false u:=by rw[hr,hif,aFi]
    cases hr:arity u.name with
    |none=>
     rw[hr]at hA hA';have hA:c 23 [⟨.rc 1,u.name⟩]=some [⟨.int .i64,(0:Int)⟩,⟨.bool,false⟩]:=hA;have hA':c' 68 [⟨.rc 1,u.name⟩]=some [⟨.int .i64,(0:Int)⟩,⟨.bool,false⟩]:=hA';refine⟨2047,hall,fun a=>by rw[hg,B5x2,aE,hA,eN];rfl,?_⟩
     rw[hs,aCc,aC,hA',eN];rfl
    |some k=>
     rw[hr]at hA hA';have hA:c 23 [⟨.rc 1,u.name⟩]=some [⟨.int .i64,k⟩,⟨.bool,true⟩]:=hA;have hA':c' 68 [⟨.rc 1,u.name⟩]=some [⟨.int .i64,k⟩,⟨.bool,true⟩]:=hA';have hh: ∀a,F5 c (L+4) a u=J5x4 c (L+4) (decide (k=(u.args.length:Int))) k a u 2047:=fun a=>by rw[hg,B5x2,aE,hA,eN];rfl
     have hu:F27 c' (L+4) u=aJE c' (L+4) (!decide (k=(u.args.length:Int))) k u:=by rw[hs,aCc,aC,hA',eN];rfl
     by_cases hk:k=(u.args.length:Int)
     ·obtain⟨hpk,r,hr1,hr2,hr3⟩:=aIF hr;have hnm:r.name≠ifB:=fun e=>by
       have:u.name=⟨bM,ifB⟩:=by cases hu:u.name with|mk p q=>rw[hu]at hpk hr2;simp only at hpk hr2;rw[hpk,←hr2,e]
       have h9:isA u ifB (u.args.length:Int)=true:=by simp[isA,e3,this]
       rw[h9]at hif;cases hif
      have hname:(⟨bM,r.name⟩:G.Y)=u.name:=by cases hu:u.name with|mk p q=>rw[hu]at hpk hr2;simp only at hpk hr2;rw[hpk,←hr2]
      rcases hP r hr1 hnm with⟨h1,i,e,e',hi⟩|⟨h1,i,e,e',hi⟩
      ·have hk1:k=1:=by omega
       subst hk1;rw[prA,hname]at e e';refine⟨i,hz _ hi,fun a=>?_,?_⟩
       ·rw[hh,decide_eq_true hk];show obL (D:=U0.D) [.int .i64] (c 26 [⟨.rc 1,u.name⟩,⟨.sl (.int .i64),mB (2047:Int) 1⟩]) (fun r1=>J5x1 c (L+4) a u r1.1)=_
        rw[e,jE]
       ·rw[hu,decide_eq_true hk];show obL (D:=U0.D) [.int .i64] (c' 69 [⟨.rc 1,u.name⟩,⟨.sl (.int .i64),mB (2047:Int) 1⟩]) (fun r1=>(some [⟨.int .i64,r1.1⟩]:Rt))=(some [⟨.int .i64,i⟩]:Rt)
        rw[e',jE]
      ·have hk1:k=2:=by omega
       subst hk1;rw[prA,hname]at e e';refine⟨i,hz _ hi,fun a=>?_,?_⟩
       ·rw[hh,decide_eq_true hk];show obL (D:=U0.D) [.int .i64] (c 26 [⟨.rc 1,u.name⟩,⟨.sl (.int .i64),mB (2047:Int) 2⟩]) (fun r1=>J5x1 c (L+4) a u r1.1)=_
        rw[e,jE]
       ·rw[hu,decide_eq_true hk];show obL (D:=U0.D) [.int .i64] (c' 69 [⟨.rc 1,u.name⟩,⟨.sl (.int .i64),mB (2047:Int) 2⟩]) (fun r1=>(some [⟨.int .i64,r1.1⟩]:Rt))=(some [⟨.int .i64,i⟩]:Rt)
        rw[e',jE]
     ·refine⟨2047,hall,fun a=>by rw[hh,decide_eq_false hk,J5x4,B5x4];rfl,?_⟩
      rw[hu,decide_eq_false hk,aJE,B27x2];rfl
  ·refine⟨2047,hall,fun a=>by
    rw[F5,B5x0,decide_eq_false e2,aC,decide_eq_false e3,aC,J5x2,B5x2];rfl,?_⟩
   rw[F27,aJX,decide_eq_false e2,aC,decide_eq_false e3,aFi,aCc];rfl
end Go.TV
namespace Go.TV
open Go.AI Go.PI Go.Proofs
def OSR(x:Rt)(B:Nat):Prop:= ∃(o:G.O) (s:G.Z),x=some [yR 2 o,yR 0 s]∧osz o+bad0 o≤B∧bE s
theorem OSR.mk{o:G.O}{s:G.Z}{B:Nat}(h:osz o+bad0 o≤B)(hs:bE s):OSR (some [yR 2 o,yR 0 s]) B:=⟨o,s,rfl,h,hs⟩
theorem OSR.le{x:Rt}{A B:Nat}(h:OSR x A)(hl:A≤B):OSR x B:=by obtain⟨o,s,h1,h2,h3⟩:=h;exact⟨o,s,h1,by omega,h3⟩
theorem aAX{β:Type}{a:G.O}{K:G.O×Unit→Option β}:obL (D:=U0.D) [.rc 2] (some [yR 2 a]) K=K (a,()):=rfl
theorem yG{β:Type}{a:G.O}{b:G.Z}{K:G.O×G.Z×Unit→Option β}:obL (D:=U0.D) [.rc 2,.rc 0] (some [yR 2 a,yR 0 b]) K=K (a,b,()):=rfl
theorem obL_ys{β:Type}{a:G.Y}{K:G.Y×Unit→Option β}:obL (D:=U0.D) [.rc 1] (some [yR 1 a]) K=K (a,()):=rfl
theorem xJ{α:Type}{l:List α}{lo hi:Int}(h0:0≤lo)(h1:lo≤hi)(h2:hi≤(l.length:Int)): ∃w,slc l lo hi=some w∧(w.length:Int)=hi-lo:=by
 unfold slc;have e1:decide (0≤lo)=true:=by simpa using h0
 have e2:decide (lo≤hi)=true:=by simpa using h1
 have e3:decide (hi≤(l.length:Int))=true:=by simpa using h2
 rw[e1,e2,e3];refine⟨_,rfl,?_⟩;rw[List.length_drop,List.length_take];omega
section
variable{c:TC0}(h:Lib c)
include h
theorem Ob_lo{L:Nat}{s:G.Z}(hs:bE s){a5 a1:Int}{b:G.O}(h0:0≤a5)(h9:a5≤9):OSR (aJH c L a5 a1 s b) 20:=by
 have seven: ∀K:Int×G.Z×Unit→Rt,(∀r s',0≤r→r<7→bE s'→OSR (K (r,s',())) 20)→OSR (obL (D:=U0.D) [.int .i64,.rc 0] (c 13 [yI (7:Int),yR 0 s]) K) 20:=fun K hK=>by
  obtain⟨r,s',e,g1,g2,g3⟩:=h.nx s 7 hs (by omega)
  rw[e,gG];exact hK r s' g1 g2 g3
 have three: ∀K:Int×G.Z×Unit→Rt,(∀r s',0≤r→r<3→bE s'→OSR (K (r,s',())) 20)→OSR (obL (D:=U0.D) [.int .i64,.rc 0] (c 13 [yI (3:Int),yR 0 s]) K) 20:=fun K hK=>by
  obtain⟨r,s',e,g1,g2,g3⟩:=h.nx s 3 hs (by omega)
  rw[e,gG];exact hK r s' g1 g2 g3
 have obj: ∀{x:Rt} {s':G.Z},ObR x→bE s'→OSR (obL (D:=U0.D) [.rc 2] x fun(r:G.O×Unit)=>some [yR 2 r.1,yR 0 s']) 20:=fun hx hs'=>by
  obtain⟨o,e,g⟩:=hx;rw[e,aAX];exact .mk g hs'
 rw[aJH,B16x2];obtain rfl|rfl|rfl|rfl|rfl|rfl|rfl|rfl|rfl|rfl:a5=0∨a5=1∨a5=2∨a5=3∨a5=4∨a5=5∨a5=6∨a5=7∨a5=8∨a5=9:=by omega
 ·exact obj h.n hs
 ·exact obj h.t hs
 ·exact seven _ fun r s' g1 g2 g3=>obj (h.i r g1 g2) g3
 ·exact seven _ fun r s' g1 g2 g3=>obj (h.i r g1 g2) g3
 ·exact obj h.q1 hs
 ·exact obj h.q2 hs
 ·refine three _ fun r s' g1 g2 g3=>?_
  obtain⟨w,e1,l1⟩:=xJ (l:=([97,98,99]:List UInt8)) (hi:=3) g1 (by omega) (by decide)
  obtain⟨w2,e2,l2⟩:=xJ (l:=w) (lo:=0) (hi:=1) (by omega) (by omega) (by omega)
  show OSR (ob (slc ([97,98,99]:List UInt8) r 3) fun v5=>ob (slc v5 (0:Int) (1:Int)) fun v6=>obL (D:=U0.D) [.rc 1] (c 12 [yT v6]) fun(r7:G.Y×Unit)=>obL (D:=U0.D) [.rc 2] (c 50 [yR 1 r7.1]) fun(r8:G.O×Unit)=>some [yR 2 r8.1,yR 0 s']) 20
  rw[e1,dG,e2,dG,h.u,obL_ys];exact obj (h.sy _) g3
 ·refine three _ fun r s' g1 g2 g3=>?_
  obtain⟨w,e1,l1⟩:=xJ (l:=([112,113]:List UInt8)) (lo:=0) (hi:=r) (by omega) g1 (by show r≤2;omega)
  show OSR (ob (slc ([112,113]:List UInt8) 0 r) fun v10=>obL (D:=U0.D) [.rc 2] (c 51 [yT v10]) fun(r11:G.O×Unit)=>some [yR 2 r11.1,yR 0 s']) 20
  rw[e1,dG];exact obj (h.x _) g3
 ·exact obj h.i0 hs
 ·exact obj h.i1 hs
theorem Ob0{L:Nat}{s:G.Z}(hs:bE s):OSR (F16 c L 0 s) 20:=by
 rw[F16,B16x0];obtain⟨r,s',e,g1,g2,g3⟩:=h.nx s 14 hs (by omega)
 rw[e,gG];show OSR (aFl c L (decide ((9:Int)<r)) r 0 s' _) 20;rw[aFl,B16x1];cases e2:decide ((9:Int)<r)with
 |true=>
  simp only[djE]at e2;obtain⟨m,rfl⟩: ∃m:Nat,r=((m+8:Nat):Int):=⟨(r-8).toNat,by omega⟩
  rw[aE,show((m+8:Nat):Int)-8=(m:Int) by omega,wrapn (by omega)]
  exact Ob_lo h g3 (by omega) (by omega)
 |false=>
  simp only[dfN]at e2;exact Ob_lo h g3 g1 (by omega)
theorem Ol_loop{L:Nat}(h0: ∀s,bE s→OSR (c 16 [yI (0:Int),yR 0 s]) 20){b:G.O}{r:Nat}(hr:r≤3):
    ∀(j k m:Nat) (a6:List G.O) (s:G.Z),r=k+j→a6.length=k→pZ a6≤21*k→j<m→bE s→OSR (aB8 c L m (r:Int) 1 (k:Int) a6 s b) 200:=by
 intro j;induction j with
 |zero=>
  intro k m a6 s h1 h2 h3 h4 hs;obtain⟨m,rfl⟩: ∃m',m=m'+1:=⟨m-1,by omega⟩
  have e3:decide ((k:Int)<(r:Int))=false:=by simp;omega
  rw[aB8,B16x5,e3,aC]
  match a6,h2 with
  |[],_=>rw[h.l0,aAX];exact .mk (by simp[niO,osz,pZ,aDF,bad0x2]) hs
  |[a],h2=>rw[h.l1,aAX];exact .mk (by simp[pZ]at h3;simp[niO,cnO,osz,pZ,aDF,aDG,aDH];simp only[lcS,lnN]at h2;omega) hs
  |[a,d],h2=>rw[h.l2,aAX];exact .mk (by simp[pZ]at h3;simp[niO,cnO,osz,pZ,aDF,aDG,aDH];simp only[lcS,lnN]at h2;omega) hs
  |[a,d,e],h2=>rw[h.l3,aAX];exact .mk (by simp[pZ]at h3;simp[niO,cnO,osz,pZ,aDF,aDG,aDH];simp only[lcS,lnN]at h2;omega) hs
  |_::_::_::_::l,h2=>simp at h2;omega
 |succ j ih=>
  intro k m a6 s h1 h2 h3 h4 hs;obtain⟨m,rfl⟩: ∃m',m=m'+1:=⟨m-1,by omega⟩
  have e3:decide ((k:Int)<(r:Int))=true:=by simp;omega
  rw[aB8,B16x5,e3,aE];obtain⟨o,s',e,g1,g2⟩:=h0 s hs;show OSR (obL (D:=U0.D) [.rc 2,.rc 0] (c 16 [yI (0:Int),yR 0 s]) _) 200;rw[e,yG];have e4:Nat.ble ((a6.length+([o]:List G.O).length)*112) 1073741824=true:=by
   rw[Nat.ble_eq];simp only[lcS,lnN];omega
  simp only[e4,wF];rw[dX (by omega)]
  have hz: ∀l:List G.O,pZ (l++ [o])=pZ l+osz o+1:=by
   intro l;induction l with
   |nil=>simp[pZ]
   |cons x l ih=>simp only[cnA,pZ,ih];omega
  exact ih (k+1) m (a6++ [o]) s' (by omega) (by simp;omega) (by rw[hz];omega) (by omega) g2
theorem Ob1{L:Nat}(hL:10≤L)(h0: ∀s,bE s→OSR (c 16 [yI (0:Int),yR 0 s]) 20){s:G.Z}(hs:bE s):OSR (F16 c L 1 s) 200:=by
 rw[F16,B16x0];obtain⟨r,s',e,g1,g2,g3⟩:=h.nx s 14 hs (by omega)
 rw[e,gG];show OSR (aFl c L false r 1 s' _) 200;rw[aFl,B16x1,aC];by_cases h9:r≤9
 ·exact(Ob_lo h g3 g1 h9).le (by omega)
 have lst: ∀b,OSR (aFk c L true 1 s' b) 200:=fun b=>by
  rw[aFk,B16x4,aE];obtain⟨q,s2,e,k1,k2,k3⟩:=h.nx s' 4 g3 (by omega)
  rw[e,gG];obtain⟨m,rfl⟩: ∃m:Nat,q=(m:Int):=⟨q.toNat,by omega⟩
  exact Ol_loop h h0 (by omega) m 0 L [] s2 (by omega) rfl (Nat.zero_le _) (by omega) k3
 rw[aJH,B16x2];obtain rfl|rfl|rfl|rfl:r=10∨r=11∨r=12∨r=13:=by omega
 ·exact lst _
 ·exact lst _
 ·exact lst _
 ·have pr: ∀b,OSR (aFk c L false 1 s' b) 200:=fun b=>by
   rw[aFk,B16x4,aC];obtain⟨o,s2,e,k1,k2⟩:=h0 s' g3;show OSR (obL (D:=U0.D) [.rc 2,.rc 0] (c 16 [yI (0:Int),yR 0 s']) _) 200;rw[e,yG];obtain⟨o2,s3,e,k3,k4⟩:=h0 s2 k2;show OSR (obL (D:=U0.D) [.rc 2,.rc 0] (c 16 [yI (0:Int),yR 0 s2]) _) 200;rw[e,yG,h.cn,aAX];exact .mk (by simp[cnO,osz,pZ,aDG,aDH];omega) k4
  exact pr zrO
end
end Go.TV
namespace Go.TV
open Go.AI Go.PI Go.Proofs
def TSR(x:Rt)(B:Nat):Prop:= ∃(t:G.T) (s:G.Z),x=some [yR 3 t,yR 0 s]∧tsz t≤B∧bE s
theorem TSR.mk{o:G.T}{s:G.Z}{B:Nat}(h:tsz o≤B)(hs:bE s):TSR (some [yR 3 o,yR 0 s]) B:=⟨o,s,rfl,h,hs⟩
theorem TSR.le{x:Rt}{A B:Nat}(h:TSR x A)(hl:A≤B):TSR x B:=by obtain⟨o,s,h1,h2,h3⟩:=h;exact⟨o,s,h1,by omega,h3⟩
theorem bW{β:Type}{a:G.T}{K:G.T×Unit→Option β}:obL (D:=U0.D) [.rc 3] (some [yR 3 a]) K=K (a,()):=rfl
theorem dU{β:Type}{a:G.T}{b:G.Z}{K:G.T×G.Z×Unit→Option β}:obL (D:=U0.D) [.rc 3,.rc 0] (some [yR 3 a,yR 0 b]) K=K (a,b,()):=rfl
theorem obL_ss{β:Type}{a:List (List UInt8)}{K:List (List UInt8)×Unit→Option β}:obL (D:=U0.D) [.sl .str] (some [⟨.sl .str,a⟩]) K=K (a,()):=rfl
theorem obL_y1{β:Type}{a:G.Y}{K:G.Y×Unit→Option β}:obL (D:=U0.D) [.rc 1] (some [yR 1 a]) K=K (a,()):=rfl
theorem badT_v(n:G.Y):badT 1 n zrO []=0:=rfl
theorem badT_a(n:G.Y)(l:List G.T):badT 3 n zrO l=0:=rfl
theorem badT_c(o:G.O):badT 2 ⟨[],[]⟩ o []=bad0 o:=by
 unfold badT okTm bad0;cases decide (o.kind=0)<;>rfl
theorem zrO_sz:osz zrO=2:=rfl
theorem tV_sz(w:List UInt8):tsz (tV w)=6:=by simp only[tV,tsz,dW,badT_v,zrO_sz]
theorem gM(f:G.Y)(l:List G.T):tsz (tA f l)=6+dW l:=by simp only[tA,tsz,badT_a,zrO_sz];omega
theorem tC_sz(o:G.O):tsz (tC o)=4+(osz o+bad0 o):=by simp only[tC,tsz,dW,badT_c];omega
theorem tsz'_app(l:List G.T)(t:G.T):dW (l++ [t])=dW l+tsz t+1:=by
 induction l with
 |nil=>simp[dW]
 |cons x l ih=>simp only[cnA,dW,ih];omega
section
variable{c:TC0}(h:Lib c)
include h
theorem Va_ok{L:Nat}{s:G.Z}(hs:bE s):TSR (F15 c L s) 6:=by
 rw[F15,B15x0];obtain⟨r,s',e,g1,g2,g3⟩:=h.nx s 3 hs (by omega)
 rw[e,gG];obtain⟨w,e1,l1⟩:=xJ (l:=([120,121,122]:List UInt8)) (hi:=3) g1 (by omega) (by decide)
 obtain⟨w2,e2,l2⟩:=xJ (l:=w) (lo:=0) (hi:=1) (by omega) (by omega) (by omega)
 show TSR (ob (slc ([120,121,122]:List UInt8) r 3) fun v1=>ob (slc v1 (0:Int) (1:Int)) fun v2=>obL (D:=U0.D) [.rc 3] (c 7 [yT v2]) fun(r3:G.T×Unit)=>some [yR 3 r3.1,yR 0 s']) 6
 rw[e1,dG,e2,dG,h.v,bW];exact .mk (by rw[tV_sz];omega) g3
theorem Ta_loop{L:Nat}{E:List G.E}{d:Int}{B:Nat}(hB:B<1000000)(hr: ∀s,bE s→TSR (c 20 [yS 15 E,yI (IntKind.i64.wrap (d-1)),yR 0 s]) B){f:G.Y}{b:G.T}{r:Nat}(h3:r≤3):
    ∀(j k m:Nat) (a:List G.T) (s:G.Z),r=k+j→a.length=k→dW a≤(B+1)*k→j<m→bE s→TSR (aB6 c L m (r:Int) E d (k:Int) a s f b) (6+3*(B+1)):=by
 intro j;induction j with
 |zero=>
  intro k m a s h1 h2 h4 h5 hs;obtain⟨m,rfl⟩: ∃m',m=m'+1:=⟨m-1,by omega⟩
  have e3:decide ((k:Int)<(r:Int))=false:=by simp;omega
  rw[aB6,B20x4,e3,aC,h.a,bW];refine .mk ?_ hs;have:(B+1)*k≤(B+1)*3:=Nat.mul_le_mul_left _ (by omega)
  rw[gM];omega
 |succ j ih=>
  intro k m a s h1 h2 h4 h5 hs;obtain⟨m,rfl⟩: ∃m',m=m'+1:=⟨m-1,by omega⟩
  have e3:decide ((k:Int)<(r:Int))=true:=by simp;omega
  obtain⟨t,s',e,g1,g2⟩:=hr s hs;rw[aB6,B20x4,e3,aE,e,dU];have e4:Nat.ble ((a.length+([t]:List G.T).length)*176) 1073741824=true:=by
   rw[Nat.ble_eq];simp only[lcS,lnN];omega
  simp only[e4,wF];rw[dX (by omega)]
  refine ih (k+1) m (a++ [t]) s' (by omega) (by simp;omega) ?_ (by omega) g2
  rw[tsz'_app,Nat.mul_add];omega
theorem Te_ok{L:Nat}(hL:10≤L){E:List G.E}{d:Int}{B:Nat}(hB:B<1000000)(hB2:204≤B)(hv: ∀s,bE s→TSR (c 15 [yR 0 s]) 6)(ho: ∀s,bE s→OSR (c 16 [yI (1:Int),yR 0 s]) 200)
    (ha: ∀f:G.Y,ArR (c 58 [yS 15 E,yR 1 f])) (hr:1≤d→∀s,bE s→TSR (c 20 [yS 15 E,yI (IntKind.i64.wrap (d-1)),yR 0 s]) B) {s:G.Z} (hs:bE s):
    TSR (F20 c L E d s) (bif decide (d<1)then 204 else 6+3*(B+1)):=by
 have lo: ∀(a7:Int) (s':G.Z) (b:G.T),a7≤3→bE s'→TSR (aJG c L a7 E d s' b) 204:=fun a7 s' b g1 g2=>by
  rw[aJG,B20x2];cases e1:decide (a7<(3:Int))with
  |true=>
   obtain⟨t,s2,e,q1,q2⟩:=hv s' g2;rw[aE,e,dU];exact .mk (by show tsz t≤204;omega) q2
  |false=>
   simp only[dfN]at e1;have e2:decide (a7=(3:Int))=true:=by simp;omega
   obtain⟨o,s2,e,q1,q2⟩:=ho s' g2;rw[aC,e2,aE,e,yG,h.k,bW];exact .mk (by show tsz (tC o)≤204;rw[tC_sz];omega) q2
 obtain⟨r,s',e,g1,g2,g3⟩:=h.nx s 12 hs (by omega)
 rw[F20,B20x0,e,gG];cases e1:decide (d<(1:Int))with
 |true=>
  rw[aE,cdt];show TSR (aFj c L (decide ((3:Int)<r)) r E d s' _) _;rw[aFj,B20x1];cases e2:decide ((3:Int)<r)with
  |true=>
   rw[aE,show decide ((4:Int)=0)=false by decide]
   simp only[Bool.not_false,wF];exact lo _ _ _ (by have:=Int.tmod_lt_of_pos r (b:=4) (by omega);omega) g3
  |false=>
   simp only[dfN]at e2;exact lo _ _ _ (by omega) g3
 |false=>
  rw[aC,cdf];simp only[dfN]at e1;show TSR (aFj c L false r E d s' _) _;rw[aFj,B20x1,aC];by_cases h4:r≤3
  ·exact(lo _ _ _ h4 g3).le (by omega)
  have jn: ∀(s2:G.Z) (f:G.Y) (b:G.T),bE s2→TSR (J20x3 c L E d s2 f b) (6+3*(B+1)):=fun s2 f b k1=>by
   obtain⟨k,b2,e,k2⟩:=ha f;rw[J20x3,B20x3,e,eN];exact Ta_loop h hB (hr (by omega)) k2 k 0 L [] s2 (by omega) rfl (Nat.zero_le _) (by omega) k1
  have e2:decide (r<(3:Int))=false:=by simp;omega
  have e3:decide (r=(3:Int))=false:=by simp;omega
  obtain⟨lh,eh,hh⟩:=h.hd;obtain⟨lw,ew,hw⟩:=h.ow;obtain⟨q,s2,e4,k1,k2,k3⟩:=h.nx s' 4 g3 (by omega)
  rw[aJG,B20x2,e2,aC,e3,aC,eh,obL_ss,ew,obL_ss,e4,gG];cases e5:decide (q<(3:Int))with
  |true=>
   obtain⟨i,s3,e6,k4,k5,k6⟩:=h.nx s2 (lh.length:Int) k3 (by omega)
   obtain⟨m,rfl⟩: ∃m:Nat,i=(m:Int):=⟨i.toNat,by omega⟩
   have hm:lh[m]?=some (lh[m]'(by omega)):=geG _
   simp only[aE];rw[e6,gG];simp only[aR,hm,dG];rw[h.s,obL_y1];exact jn _ _ _ k6
  |false=>
   obtain⟨i,s3,e6,k4,k5,k6⟩:=h.nx s2 (lw.length:Int) k3 (by omega)
   obtain⟨m,rfl⟩: ∃m:Nat,i=(m:Int):=⟨i.toNat,by omega⟩
   have hm:lw[m]?=some (lw[m]'(by omega)):=geG _
   simp only[aC];rw[e6,gG];simp only[aR,hm,dG];rw[h.u,obL_y1];exact jn _ _ _ k6
theorem Li_ok{L:Nat}{E:List G.E}{A B:Nat}(hv: ∀s,bE s→TSR (c 15 [yR 0 s]) 6)
    (h2: ∀s,bE s→TSR (c 20 [yS 15 E,yI (2:Int),yR 0 s]) A) (h1: ∀s,bE s→TSR (c 20 [yS 15 E,yI (1:Int),yR 0 s]) B) {s:G.Z} (hs:bE s):
    TSR (F14 c L E 2 s) (A+B+30):=by
 obtain⟨t,s2,e,g1,g2⟩:=h2 s hs;obtain⟨r,s3,e2,k1,k2,k3⟩:=h.nx s2 8 g2 (by omega)
 rw[F14,B14x0,e,dU,e2,gG];have key: ∀(a:Bool) (b:G.T),TSR (aFm c L a r E 2 s3 t b) (A+B+30):=fun a b=>by
  rw[aFm,B14x1];cases a with
  |true=>
   rw[aE,h.l,bW];exact .mk (by rw[gM];simp only[dW];omega) k3
  |false=>
   rw[aC];cases decide (r=(2:Int))with
   |true=>
    obtain⟨t2,s4,e,q1,q2⟩:=h1 s3 k3;rw[aE];show TSR (obL (D:=U0.D) [.rc 3,.rc 0] (c 20 [yS 15 E,yI (1:Int),yR 0 s3]) _) _;rw[e,dU];simp only[];rw[h.l,bW];simp only[];rw[h.l,bW];exact .mk (by rw[gM];simp only[dW];rw[gM];simp only[dW];omega) q2
   |false=>
    rw[aC];cases decide (r=(3:Int))with
    |true=>
     obtain⟨t2,s4,e,q1,q2⟩:=hv s3 k3;rw[aE,e,dU];simp only[];rw[h.l,bW];simp only[];rw[h.l,bW];exact .mk (by rw[gM];simp only[dW];rw[gM];simp only[dW];omega) q2
    |false=>
     rw[aC];cases decide (r=(4:Int))with
     |true=>
      obtain⟨t2,s4,e,q1,q2⟩:=h1 s3 k3;rw[aE];show TSR (obL (D:=U0.D) [.rc 3,.rc 0] (c 20 [yS 15 E,yI (1:Int),yR 0 s3]) _) _;rw[e,dU];simp only[];rw[h.l,bW];exact .mk (by rw[gM];simp only[dW];omega) q2
     |false=>
      rw[aC];cases decide (r=(5:Int))with
      |true=>
       obtain⟨t1,s4,e,q1,q2⟩:=hv s3 k3;rw[aE,e,dU];obtain⟨t2,s5,e,q3,q4⟩:=h1 s4 q2;show TSR (obL (D:=U0.D) [.rc 3,.rc 0] (c 20 [yS 15 E,yI (1:Int),yR 0 s4]) _) _;rw[e,dU];simp only[];rw[h.l,bW];simp only[];rw[h.l,bW];exact .mk (by rw[gM];simp only[dW];rw[gM];simp only[dW];omega) q4
      |false=>exact .mk (by omega) k3
 cases decide (r=(0:Int))with
 |true=>exact key _ _
 |false=>exact key _ _
end
def ClR(x:Rt)(B:Nat):Prop:= ∃(l:List G.T) (s:G.Z),x=some [yS 3 l,yR 0 s]∧dW l≤B∧bE s
theorem obL_cs{β:Type}{a:List G.T}{b:G.Z}{K:List G.T×G.Z×Unit→Option β}:obL (D:=U0.D) [.sl (.rc 3),.rc 0] (some [yS 3 a,yR 0 b]) K=K (a,b,()):=rfl
end Go.TV
namespace Go.TV
open Go.AI Go.PI Go.Proofs
inductive It where
 |op
 |cl
 |wd (nu:Bool) (w:List UInt8)
def It.by':It→List UInt8
 | .op=>[40]
 | .cl=>[41]
 | .wd _ w=>w
def It.tk(p:Nat):It→G.K
 | .op=>⟨1,(p:Int),[],[],[]⟩
 | .cl=>⟨2,(p:Int),[],[],[]⟩
 | .wd nu w=>wtk nu (p:Int) w
abbrev Its:=List (List UInt8×It)
def aAA:Its→List UInt8→List UInt8
 |[],tl=>tl
 |(b,t)::l,tl=>b++(t.by'++aAA l tl)
def tks:Nat→Its→List G.K
 |_,[]=>[]
 |p,(b,t)::l=>t.tk (p+b.length)::tks (p+b.length+t.by'.length) l
def isN:List UInt8→Bool
 |[48]=>true
 |[49]=>true
 |[45,49]=>true
 |_=>false
def okW(nu:Bool):List UInt8→Bool
 |[]=>false
 |x::l=>(x::l).all (fun x=>csI (u8 x))&& !decide (u8 x=35)&&(bif nu then isN (x::l)else !decide (u8 x=45)&&(decide (u8 x<48)||decide (57<u8 x))&& !decide (x::l=[46])&&Nat.ble (x::l).length 40)
def stp:List UInt8→Bool
 |[]=>true
 |y::_=> !csI (u8 y)&& !decide (u8 y=58)
def okT(r:List UInt8):It→Bool
 | .wd nu w=>okW nu w&&stp r
 |_=>true
def okL:Its→List UInt8→Bool
 |[],tl=>tl.all fun x=>blI (u8 x)
 |(b,t)::l,tl=>(b.all fun x=>blI (u8 x))&&okT (aAA l tl) t&&okL l tl
theorem stp_h{r:List UInt8}(h:stp r=true): ∀y,r.head?=some y→csI (u8 y)=false∧u8 y≠58:=by
 intro y hy;cases r with
 |nil=>cases hy
 |cons z r=>
  simp only[List.head?_cons,ojE]at hy;subst hy;simpa [stp]using h
theorem bl_cs{x:Int}(h:csI x=true):blI x=false:=by
 simp only[csI,bjE,djE]at h;simp only[blI,Bool.or_eq_false_iff,dfN];omega
theorem okT_h{t:It}{r:List UInt8}(h:okT r t=true): ∀y,(t.by'++r).head?=some y→blI (u8 y)=false∧u8 y≠59∧u8 y≠35:=by
 intro y hy;cases t with
 |op=>simp[It.by']at hy;subst hy;decide
 |cl=>simp[It.by']at hy;subst hy;decide
 |wd nu w=>
  cases w with
  |nil=>simp[okT,okW]at h
  |cons x l=>
   simp[It.by']at hy;subst hy
   simp only[okT,okW,bjE,alC,Bool.not_eq_true',dfN]at h;exact⟨bl_cs h.1.1.1.1,(aIt h.1.1.1.1).2.2.2.2.1,h.1.1.2⟩
theorem One_ok{s r:List UInt8}{t:It}{k L n:Nat}(hN: ∀w,isN w=true→NumW (CTp L (n+2)) w)(hb:s.length<1000000000)(hL:s.length<L)(h:s.drop k=t.by'++r)(ht:okT r t=true):
    CTp L (n+3) 127 [yT s,yI (k:Int)]=some [yR 21 (t.tk k),yI ((k+t.by'.length:Nat):Int),yR 18 ⟨0,0⟩]:=by
 cases t with
 |op=>exact On_op hb h
 |cl=>exact On_cl hb h
 |wd nu w=>
  cases w with
  |nil=>simp[okT,okW]at ht
  |cons x l=>
   simp only[okT,okW,bjE,Bool.not_eq_true',dfN]at ht;obtain⟨⟨⟨h1,h2⟩,h3⟩,h4⟩:=ht;refine On_w hb hL h (by simp) (fun y hy=>List.all_eq_true.1 h1 y hy) (stp_h h4) ?_
   cases nu with
   |true=>exact .inl ⟨rfl,hN _ h3⟩
   |false=>
    simp only[cdf,bjE,Bool.or_eq_true,Bool.not_eq_true',dfN,djE]at h3;exact .inr ⟨rfl,x,l,rfl,h3.1.1.1,h3.1.1.2,h3.1.2,Nat.le_of_ble_eq_true h3.2⟩
theorem Tk_loop{s tl:List UInt8}{L n:Nat}{er:G.X}(hN: ∀w,isN w=true→NumW (CTp L (n+2)) w)(hb:s.length<6001)(hL:s.length<L):
    ∀(l:Its) (k m:Nat) (acc:List G.K),s.drop k=aAA l tl→k≤s.length→okL l tl=true→l.length<m→acc.length≤k→aBW (CTp L (n+3)) L m (k:Int) s acc er=some [yS 21 (acc++tks k l++ [⟨0,(s.length:Int),[],[],[]⟩]),yR 18 ⟨0,0⟩]:=by
 intro l;induction l with
 |nil=>
  intro k m acc h1 h2 h3 h4 h5;obtain⟨m,rfl⟩: ∃m',m=m'+1:=⟨m-1,by simp at h4;omega⟩
  have hl:=congrArg List.length h1;simp[aAA]at hl;have hsk:=Sk_ok (s:=s) (w:=tl) (r:=[]) (k:=k) (L:=L) (n:=n+1) (by omega) hL (by simpa [aAA]using h1) (fun x hx=>List.all_eq_true.1 h3 x hx) (by simp)
  have e1:((k+tl.length:Nat):Int)=(s.length:Int):=by omega
  rw[aBW,B98x1,hsk,eN];simp only[bnT,aC];rw[e1];simp only[Int.le_refl,decide_true,aE];have e2:Nat.ble ((acc.length+([⟨0,(s.length:Int),[],[],[]⟩]:List G.K).length)*64) 1073741824=true:=by
   rw[Nat.ble_eq];simp only[lcS,lnN];omega
  rw[e2,wF,show tks k []=[] from rfl,apN];rfl
 |cons bt l ih=>
  obtain⟨b,t⟩:=bt;intro k m acc h1 h2 h3 h4 h5;obtain⟨m,rfl⟩: ∃m',m=m'+1:=⟨m-1,by simp at h4;omega⟩
  simp only[okL,bjE]at h3;obtain⟨⟨h6,h7⟩,h8⟩:=h3;have hl:=congrArg List.length h1;simp[aAA]at hl;have ht:1≤t.by'.length:=by
   cases t with
   |op=>exact nlR _
   |cl=>exact nlR _
   |wd nu w=>cases w with
    |nil=>simp[okT,okW]at h7
    |cons x l=>simp[It.by']
  have hsk:=Sk_ok (s:=s) (w:=b) (r:=t.by'++aAA l tl) (k:=k) (L:=L) (n:=n+1) (by omega) hL h1 (fun x hx=>List.all_eq_true.1 h6 x hx) (okT_h h7)
  have hd:s.drop (k+b.length)=t.by'++aAA l tl:=by rw[←List.drop_drop,h1];simp[aAA]
  have ho:=One_ok (n:=n) hN (by omega) hL hd h7
  have hd2:s.drop (k+b.length+t.by'.length)=aAA l tl:=by rw[←List.drop_drop,hd];simp
  rw[aBW,B98x1,hsk,eN];simp only[bnT,aC];have e1:decide ((s.length:Int)≤((k+b.length:Nat):Int))=false:=by simp only[dfN];omega
  rw[e1,aC,ho,obL_on];simp only[decide_true,bnT,aC];have e2:Nat.ble ((acc.length+([t.tk (k+b.length)]:List G.K).length)*64) 1073741824=true:=by
   rw[Nat.ble_eq];simp only[lcS,lnN];omega
  rw[e2,wF,ih (k+b.length+t.by'.length) m _ hd2 (by omega) h8 (by simp at h4;omega) (by simp;omega)]
  simp[tks]
theorem Tok_ok{l:Its}{tl:List UInt8}{L n:Nat}(hN: ∀w,isN w=true→NumW (CTp L (n+2)) w)(hs:(aAA l tl).length<6001)(hL:(aAA l tl).length<L)(hl:l.length<L)(ho:okL l tl=true):
    CTp L (n+4) 98 [yT (aAA l tl)]=some [yS 21 (tks 0 l++ [⟨0,((aAA l tl).length:Int),[],[],[]⟩]),yR 18 ⟨0,0⟩]:=by
 show CTp L (n+3+1) 98 _=_;have e1:decide ((6000:Int)<((aAA l tl).length:Int))=false:=by simp only[dfN];omega
 rw[c98,F98,B98x0,e1,aC];exact Tk_loop (tl:=tl) (er:=⟨0,0⟩) hN hs hL l 0 L [] rfl (Nat.zero_le _) ho hl (nlR _)
end Go.TV
namespace Go.TV
open Go.AI Go.PI Go.Proofs
set_option maxRecDepth 20000
def sJ:List UInt8:=[108,105,115,112]
def oSy(s:List UInt8):G.O:=⟨2,[],[],⟨sJ,s⟩,[],[]⟩
def oNu(s:List UInt8):G.O:=⟨1,s,[49],⟨[],[]⟩,[],[]⟩
def ol:List G.O→G.O
 |[]=>oSy [110,105,108]
 |x::l=>⟨4,[],[],⟨[],[]⟩,[],[x,ol l]⟩
def tkP(p:Int):G.K:=⟨1,p,[],[],[]⟩
def tkC(p:Int):G.K:=⟨2,p,[],[],[]⟩
def y0a:List UInt8:=[43]
def w0a:G.O:=oSy y0a
def y1a:List UInt8:=[45,49]
def w1a:G.O:=oNu y1a
def y2a:List UInt8:=[48]
def w2a:G.O:=oNu y2a
def y3a:List UInt8:=[49]
def w3a:G.O:=oNu y3a
def y4a:List UInt8:=[60]
def w4a:G.O:=oSy y4a
def y5a:List UInt8:=[97]
def w5a:G.O:=oSy y5a
def y6a:List UInt8:=[97,110,100]
def w6a:G.O:=oSy y6a
def y7a:List UInt8:=[97,112,112,101,110,100]
def w7a:G.O:=oSy y7a
def y8a:List UInt8:=[97,115,115,111,99,45,101,113,117,97,108]
def w8a:G.O:=oSy y8a
def y9a:List UInt8:=[97,116,111,109]
def w9a:G.O:=oSy y9a
def y10a:List UInt8:=[98,105,110,97,114,121,45,97,112,112,101,110,100]
def w10a:G.O:=oSy y10a
def y11a:List UInt8:=[98,111,111,108,101,97,110,112]
def w11a:G.O:=oSy y11a
def y12a:List UInt8:=[99,97,114]
def aCi:G.O:=oSy y12a
def y13a:List UInt8:=[99,100,114]
def aFs:G.O:=oSy y13a
def y14a:List UInt8:=[99,111,110,100]
def w14a:G.O:=oSy y14a
def y15a:List UInt8:=[99,111,110,115]
def w15a:G.O:=oSy y15a
def y16a:List UInt8:=[99,111,110,115,112]
def wZ:G.O:=oSy y16a
def y17a:List UInt8:=[99,111,117,110,116]
def aFr:G.O:=oSy y17a
def y18a:List UInt8:=[100,101,102,117,110]
def nK:G.O:=oSy y18a
def y19a:List UInt8:=[101]
def w19a:G.O:=oSy y19a
def y20a:List UInt8:=[101,110,100,112]
def w20a:G.O:=oSy y20a
def y21a:List UInt8:=[101,113,117,97,108]
def w21a:G.O:=oSy y21a
def y22a:List UInt8:=[102,105,120]
def w22a:G.O:=oSy y22a
def y23a:List UInt8:=[103,117,97,114,100]
def w23a:G.O:=oSy y23a
def y24a:List UInt8:=[105,102]
def nN:G.O:=oSy y24a
def y25a:List UInt8:=[105,102,102]
def w25a:G.O:=oSy y25a
def y26a:List UInt8:=[105,102,105,120]
def w26a:G.O:=oSy y26a
def y27a:List UInt8:=[105,109,112,108,105,101,115]
def w27a:G.O:=oSy y27a
def y28a:List UInt8:=[105,110,116,101,103,101,114,112]
def w28a:G.O:=oSy y28a
def y29a:List UInt8:=[107]
def w29a:G.O:=oSy y29a
def y30a:List UInt8:=[108,101,110]
def w30a:G.O:=oSy y30a
def y31a:List UInt8:=[108,105,115,116]
def w31a:G.O:=oSy y31a
def y32a:List UInt8:=[109,101,97,115,117,114,101]
def aFK:G.O:=oSy y32a
def y33a:List UInt8:=[109,101,109,98,101,114,45,101,113,117,97,108]
def w33a:G.O:=oSy y33a
def y34a:List UInt8:=[110]
def w34a:G.O:=oSy y34a
def y35a:List UInt8:=[110,97,116,112]
def w35a:G.O:=oSy y35a
def y36a:List UInt8:=[110,102,105,120]
def w36a:G.O:=oSy y36a
def y37a:List UInt8:=[110,105,108]
def aEl:G.O:=oSy y37a
def y38a:List UInt8:=[110,111,116]
def w38a:G.O:=oSy y38a
def y39a:List UInt8:=[110,116,104]
def w39a:G.O:=oSy y39a
def y40a:List UInt8:=[111,45,102,105,110,112]
def w40a:G.O:=oSy y40a
def y41a:List UInt8:=[111,45,102,105,114,115,116,45,99,111,101,102,102,105,99,105,101,110,116]
def w41a:G.O:=oSy y41a
def y42a:List UInt8:=[111,45,102,105,114,115,116,45,101,120,112,111,110,101,110,116]
def w42a:G.O:=oSy y42a
def y43a:List UInt8:=[111,45,112]
def w43a:G.O:=oSy y43a
def y44a:List UInt8:=[111,45,114,101,115,116]
def w44a:G.O:=oSy y44a
def y45a:List UInt8:=[111,60]
def w45a:G.O:=oSy y45a
def y46a:List UInt8:=[111,114]
def w46a:G.O:=oSy y46a
def y47a:List UInt8:=[112]
def w47a:G.O:=oSy y47a
def y48a:List UInt8:=[112,111,115,112]
def w48a:G.O:=oSy y48a
def y49a:List UInt8:=[113]
def w49a:G.O:=oSy y49a
def y50a:List UInt8:=[114,97,116,105,111,110,97,108,112]
def w50a:G.O:=oSy y50a
def y51a:List UInt8:=[114,101,118]
def w51a:G.O:=oSy y51a
def y52a:List UInt8:=[115,121,110,116,97,120,112]
def w52a:G.O:=oSy y52a
def y53a:List UInt8:=[116]
def aFq:G.O:=oSy y53a
def y54a:List UInt8:=[116,114,117,101,45,108,105,115,116,112]
def w54a:G.O:=oSy y54a
def y55a:List UInt8:=[117,112,100,97,116,101,45,110,116,104]
def w55a:G.O:=oSy y55a
def y56a:List UInt8:=[118]
def w56a:G.O:=oSy y56a
def oZ:List UInt8:=[120]
def bN:G.O:=oSy oZ
def y58a:List UInt8:=[121]
def aFp:G.O:=oSy y58a
def y59a:List UInt8:=[122,112]
def w59a:G.O:=oSy y59a
def wdL:List (List UInt8):=[y0a,y1a,y2a,y3a,y4a,y5a,y6a,y7a,y8a,y9a,y10a,y11a,y12a,y13a,y14a,y15a,y16a,y17a,y18a,y19a,y20a,y21a,y22a,y23a,y24a,y25a,y26a,y27a,y28a,y29a,y30a,y31a,y32a,y33a,y34a,y35a,y36a,y37a,y38a,y39a,y40a,y41a,y42a,y43a,y44a,y45a,y46a,y47a,y48a,y49a,y50a,y51a,y52a,y53a,y54a,y55a,y56a,oZ,y58a,y59a]
def tkM:Nat→Nat→Nat→List G.K
 |0,_,_=>[]
 |f+1,p,n=>bif Nat.beq (n%64) 0 then tkP ((p+n/64%64:Nat):Int)::tkM f (p+n/64%64+1) (n/4096)
  else bif Nat.beq (n%64) 1 then tkC ((p+n/64%64:Nat):Int)::tkM f (p+n/64%64+1) (n/4096)
  else match wdL[n%64-2]? with
   |some w=>wtk (isN w) ((p+n/64%64:Nat):Int) w::tkM f (p+n/64%64+w.length) (n/4096)
   |none=>[]
def toksL:List G.K:=tkM 942 0 0x100100100100107b00f04007a00106404300204003904000107b00e04001104000100107b00f04007a01104000106403d04001a0c000100106402604002204000100100107b03804000106402504000804001904000107b07a02404007901404000100100100107b00f04000106404300204002904000107b00e04000106403d04001a0c000100106402604002204000100100107b03804000106402504000804001904000107b02404006901404000100100100100104700f04005f00a04003724000100104700e04000100100100104700e04000e04005f01704000100104700e0400120400080002400010670010010470120400280000400100c000100104701304002204000104701f04004a01404000100106700100100107b00f04005502304007b00100107b00e04005501704001a04000107b01204001a0c000100107b01304002204000100107b03804001904000107b01504006301404000100106700100100107b00e04002104000100107b00f04003504000904000107b01204001a0c000100107b01304002204000103b04007501404000100107c00100107c00107b00f04000c04000107b00e04001104000107b01204001a0c000100107b01304002204000100107b03804001904000107c03b04004c01404000100100106707b01704000100107b00f04003804000107b01204001a04000100107b01304002204000103b04007801404000100104400100100107b00f04002004004500204000107b01204001a04000100107b01304002204000103b04006001404000100100100100107b02c04000100107b02e04002c04002f28000100107b02e04002d28000100107b02b04003228000100104400107b02c04001704002828000100107b02c04002d28000100107b00e04001204000814000107b0251c000107b02a04001a0c000100107b01304002204000103b04006d01404000100100100100107c02e04000107b02e04002f04003724000100100107c02b04000107b02b04000628000100100107c02b04000107b02b04001704002800024000100100107c02c04000107b02c04002f28000100100107c02c04000107b02c04001704002800024000106700107c02a00024000100100107c07b00604007700107c01204001a04000107b02a0000400100c000100107b01304002204000107c03b04006f01404000100104400107b00f04000107b01204001a04000103b04006e01404000100107b00100107b00e04000f04000107b01204001a04000103b04006b01404000100104400100107b00e04000e04000107b01204001a04000103b04006c01404000100100107b01204002804000103b04006a01404000100104400100100107b00f04001304000100107b00e04001304004500204000107b01204001a04000100107b01304002204000103b04005301404000100107700100107b04400604002804000107b01e04001a04000100107b02504001904000103b04007d01404000100104407b00107b02504001a04000103b04006601404000100106700107b04400604000107b01e04001a04000103b04007201404000100106700100104407b00604002804000107b01e04001a04000103b04006501404000100104407b00107b01e04001a04000103b04005c01404000100104407b00107b03404001a04000103b04005801404000100100107b01204002804000100100106707b01704000107b01204003004001904000103b04005601404000100100107b01204002804000103b04004b01404000107700103b04007601404000100100106707b01704007700107707b01704001a04000103b04004d01404000100100107706707301a04000106707707301a04007101a04000107303104005b01404000100107700106707707301a04007101a04000107303104005d01404000100107706707101a040001031040068014000++ [⟨0,2580,[],[],[]⟩]
def o0a:G.O:=ol [nK,w38a,ol [w47a],ol [nN,w47a,aEl,aFq]]
def o1a:G.O:=ol [nK,w27a,ol [w47a,w49a],ol [nN,w47a,ol [nN,w49a,aFq,aEl],aFq]]
def o2a:G.O:=ol [nK,w25a,ol [w47a,w49a],ol [nN,w47a,ol [nN,w49a,aFq,aEl],ol [nN,w49a,aEl,aFq]]]
def o3a:G.O:=ol [nK,w11a,ol [bN],ol [nN,ol [w21a,bN,aFq],aFq,ol [w21a,bN,aEl]]]
def o4a:G.O:=ol [nK,w52a,ol [bN],aFq]
def o5a:G.O:=ol [nK,w9a,ol [bN],ol [w38a,ol [wZ,bN]]]
def o6a:G.O:=ol [nK,w20a,ol [bN],ol [w23a,ol [w46a,ol [wZ,bN],ol [w21a,bN,aEl]]],ol [w38a,ol [wZ,bN]]]
def o7a:G.O:=ol [nK,w22a,ol [bN],ol [nN,ol [w50a,bN],bN,w2a]]
def o8a:G.O:=ol [nK,w26a,ol [bN],ol [nN,ol [w28a,bN],bN,w2a]]
def o9a:G.O:=ol [nK,w35a,ol [bN],ol [nN,ol [w28a,bN],ol [w38a,ol [w4a,bN,w2a]],aEl]]
def o10a:G.O:=ol [nK,w48a,ol [bN],ol [nN,ol [w28a,bN],ol [w4a,w2a,bN],aEl]]
def o11a:G.O:=ol [nK,w36a,ol [bN],ol [nN,ol [w35a,bN],bN,w2a]]
def o12a:G.O:=ol [nK,w59a,ol [bN],ol [w23a,ol [w35a,bN]],ol [nN,ol [w28a,bN],ol [w38a,ol [w4a,w2a,bN]],aFq]]
def o13a:G.O:=ol [nK,aFr,ol [bN],ol [aFK,ol [aFr,bN]],ol [nN,ol [wZ,bN],ol [w0a,w3a,ol [aFr,ol [aCi,bN]],ol [aFr,ol [aFs,bN]]],w2a]]
def o14a:G.O:=ol [nK,w40a,ol [bN],ol [w38a,ol [wZ,bN]]]
def o15a:G.O:=ol [nK,w42a,ol [bN],ol [nN,ol [wZ,bN],ol [aCi,ol [aCi,bN]],w2a]]
def o16a:G.O:=ol [nK,w41a,ol [bN],ol [nN,ol [wZ,bN],ol [aFs,ol [aCi,bN]],bN]]
def o17a:G.O:=ol [nK,w44a,ol [bN],ol [nN,ol [wZ,bN],ol [aFs,bN],w2a]]
def o18a:G.O:=ol [nK,w45a,ol [bN,aFp],ol [aFK,ol [aFr,bN]],ol [w14a,ol [ol [w40a,bN],ol [nN,ol [wZ,aFp],aFq,ol [w4a,bN,aFp]]],ol [ol [w40a,aFp],aEl],ol [ol [w38a,ol [w21a,ol [w42a,bN],ol [w42a,aFp]]],ol [w45a,ol [w42a,bN],ol [w42a,aFp]]],ol [ol [w38a,ol [w21a,ol [w41a,bN],ol [w41a,aFp]]],ol [w4a,ol [w41a,bN],ol [w41a,aFp]]],ol [aFq,ol [w45a,ol [w44a,bN],ol [w44a,aFp]]]]]
def o19a:G.O:=ol [nK,w43a,ol [bN],ol [aFK,ol [aFr,bN]],ol [nN,ol [w40a,bN],ol [w35a,bN],ol [w6a,ol [wZ,ol [aCi,bN]],ol [w43a,ol [w42a,bN]],ol [w38a,ol [w21a,ol [w42a,bN],w2a]],ol [w48a,ol [w41a,bN]],ol [w43a,ol [w44a,bN]],ol [w45a,ol [w42a,ol [w44a,bN]],ol [w42a,bN]]]]]
def o20a:G.O:=ol [nK,w30a,ol [bN],ol [aFK,ol [aFr,bN]],ol [nN,ol [wZ,bN],ol [w0a,w3a,ol [w30a,ol [aFs,bN]]],w2a]]
def o21a:G.O:=ol [nK,w54a,ol [bN],ol [aFK,ol [aFr,bN]],ol [nN,ol [wZ,bN],ol [w54a,ol [aFs,bN]],ol [w21a,bN,aEl]]]
def o22a:G.O:=ol [nK,w10a,ol [bN,aFp],ol [w23a,ol [w54a,bN]],ol [aFK,ol [aFr,bN]],ol [nN,ol [wZ,bN],ol [w15a,ol [aCi,bN],ol [w10a,ol [aFs,bN],aFp]],aFp]]
def o23a:G.O:=ol [nK,w51a,ol [bN],ol [aFK,ol [aFr,bN]],ol [nN,ol [wZ,bN],ol [w7a,ol [w51a,ol [aFs,bN]],ol [w31a,ol [aCi,bN]]],aEl]]
def o24a:G.O:=ol [nK,w33a,ol [w19a,bN],ol [w23a,ol [w54a,bN]],ol [aFK,ol [aFr,bN]],ol [nN,ol [wZ,bN],ol [nN,ol [w21a,w19a,ol [aCi,bN]],bN,ol [w33a,w19a,ol [aFs,bN]]],aEl]]
def o25a:G.O:=ol [nK,w8a,ol [w29a,w5a],ol [aFK,ol [aFr,w5a]],ol [w14a,ol [ol [w38a,ol [wZ,w5a]],aEl],ol [ol [w6a,ol [wZ,ol [aCi,w5a]],ol [w21a,w29a,ol [aCi,ol [aCi,w5a]]]],ol [aCi,w5a]],ol [aFq,ol [w8a,w29a,ol [aFs,w5a]]]]]
def o26a:G.O:=ol [nK,w39a,ol [w34a,bN],ol [w23a,ol [w6a,ol [w35a,w34a],ol [w54a,bN]]],ol [aFK,ol [w36a,w34a]],ol [nN,ol [w59a,w34a],ol [aCi,bN],ol [w39a,ol [w0a,w1a,w34a],ol [aFs,bN]]]]
def o27a:G.O:=ol [nK,w55a,ol [w34a,w56a,bN],ol [w23a,ol [w6a,ol [w35a,w34a],ol [w54a,bN]]],ol [aFK,ol [w36a,w34a]],ol [nN,ol [w59a,w34a],ol [w15a,w56a,ol [aFs,bN]],ol [w15a,ol [aCi,bN],ol [w55a,ol [w0a,w1a,w34a],w56a,ol [aFs,bN]]]]]
def oAll:List G.O:=[o0a,o1a,o2a,o3a,o4a,o5a,o6a,o7a,o8a,o9a,o10a,o11a,o12a,o13a,o14a,o15a,o16a,o17a,o18a,o19a,o20a,o21a,o22a,o23a,o24a,o25a,o26a,o27a]
def spW:List UInt8→List UInt8×List UInt8
 |[]=>([],[])
 |x::l=>bif csI (u8 x)then(x::(spW l).1,(spW l).2)else([],x::l)
def spB:List UInt8→List UInt8×List UInt8
 |[]=>([],[])
 |x::l=>bif blI (u8 x)then(x::(spB l).1,(spB l).2)else([],x::l)
def lexI:Nat→List UInt8→Its×List UInt8
 |0,l=>([],l)
 |n+1,l=>match spB l with
  |(b,[])=>([],b)
  |(b,x::r)=>bif Nat.beq x.toNat 40 then((b,.op)::(lexI n r).1,(lexI n r).2)else bif Nat.beq x.toNat 41 then((b,.cl)::(lexI n r).1,(lexI n r).2)else
   match spW (x::r)with
   |(w,r')=>((b,.wd (isN w) w)::(lexI n r').1,(lexI n r').2)
end Go.TV
namespace Go.TV
open Go.AI Go.PI Go.Proofs
set_option maxRecDepth 20000
def zTe:G.T:=⟨0,⟨[],[]⟩,⟨0,[],[],⟨[],[]⟩,[],[]⟩,[]⟩
abbrev T3:=G.T×G.T×G.T
abbrev Sk:=List UInt8×List (List UInt8)
def enE(s:Sk)(x:T3):G.E:=G.E.mk 3 ⟨sJ,s.1⟩ ⟨[],[]⟩ ⟨⟨[],[]⟩,[],false,zTe⟩ [⟨⟨sJ,s.1⟩,s.2.map (fun p=>⟨sJ,p⟩),1,x.1,x.2.1,x.2.2⟩] [] [] [] ⟨⟨[],[]⟩,[]⟩ [] [] [] [] 0
def enB(s:Sk):G.E→Bool
 |⟨k,n,⟨[],[]⟩,⟨⟨[],[]⟩,[],false,⟨bk,⟨[],[]⟩,⟨ok,[],[],⟨[],[]⟩,[],[]⟩,[]⟩⟩,[⟨fn,ps,cl,_,_,_⟩],[],[],[],⟨⟨[],[]⟩,[]⟩,[],[],[],[],h⟩=>decide (k=3)&&decide (n=⟨sJ,s.1⟩)&&decide (bk=0)&&decide (ok=0)&&decide (fn=⟨sJ,s.1⟩)&&decide (cl=1)&&decide (h=0)&&decide (ps=s.2.map (fun p=>⟨sJ,p⟩))
 |_=>false
theorem enB_ok{s:Sk}{e:G.E}(h:enB s e=true): ∃x,e=enE s x:=by
 unfold enB at h;split at h
 ·simp only[bjE,djE]at h;obtain⟨⟨⟨⟨⟨⟨⟨rfl,rfl⟩,rfl⟩,rfl⟩,rfl⟩,rfl⟩,rfl⟩,rfl⟩:=h;exact⟨(_,_,_),rfl⟩
 ·cases h
def enR(s:Sk)(r:Rt):Bool:=match r with|some [⟨.rc 15,e⟩]=>enB s e|_=>false
theorem enR_ok{s:Sk}{r:Rt}(h:enR s r=true): ∃x,r=some [yR 15 (enE s x)]:=by
 unfold enR at h;split at h
 ·rename_i e;obtain⟨x,hx⟩:=enB_ok h;exact⟨x,by rw[hx]⟩
 ·cases h
def skL:List Sk:=[(y38a,[y47a]),(y27a,[y47a,y49a]),(y25a,[y47a,y49a]),(y11a,[oZ]),(y52a,[oZ]),(y9a,[oZ]),(y20a,[oZ]),(y22a,[oZ]),(y26a,[oZ]),(y35a,[oZ]),(y48a,[oZ]),(y36a,[oZ]),(y59a,[oZ]),(y17a,[oZ]),(y40a,[oZ]),(y42a,[oZ]),(y41a,[oZ]),(y44a,[oZ]),(y45a,[oZ,y58a]),(y43a,[oZ]),(y30a,[oZ]),(y54a,[oZ]),(y10a,[oZ,y58a]),(y51a,[oZ]),(y33a,[y19a,oZ]),(y8a,[y29a,y5a]),(y39a,[y34a,oZ]),(y55a,[y34a,y56a,oZ])]
def skA(k:Nat):Sk:=(skL[k]?).getD ([],[])
def eF(X:Nat→T3):List Sk→Nat→List G.E
 |[],_=>[]
 |s::l,j=>enE s (X j)::eF X l (j+1)
def eL(X:Nat→T3)(k:Nat):List G.E:=eF X (skL.take k) 0
def Kd:TC0:=fun i d=>bif Nat.beq i 33 then(match d with|[]=>some [⟨.sl (.rc 2),oAll⟩]|_=>none)else none
noncomputable def cD(L M k:Nat):TC0:=evB Kd (upT (L+7000) (M+99)) (L+7000) k
noncomputable def pE(L M k:Nat)(X:Nat→T3)(o:G.O):Bool:=enR (skA k) (cD L M 58 34 [yS 15 (eL X k),yR 2 o])
end Go.TV
