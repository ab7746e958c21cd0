import Derived.Test.YtojjcdpfjabepaaGreatDoorKw
import Derived.Test.YtojjcdpfjabepaaGreatDoorKs
import Derived.Test.YtojjcdpfjabepaaGreatDoorKt
import Derived.Test.YtojjcdpfjabepaaGreatDoorKv
set_option linter.unusedVariables false
set_option linter.unusedSimpArgs false
set_option linter.constructorNameAsVariable false
namespace Go.TV
open Go.AI Go.PI Go.Proofs
set_option maxRecDepth 20000
theorem lM{o:G.O}(h:okO o.kind o.num o.den o.sym o.text o.pair=true):(o.kind=0∧o.sym=⟨[],[]⟩)∨(∃n d,o=nuO (n,d)∧okN n d=true)∨o.kind=2∨o.kind=3∨(o.kind=4∧o.sym=⟨[],[]⟩∧o.pair.length=2):=by
 obtain⟨k,n,d,s,t,l⟩:=o;change okO k n d s t l=true at h;simp only[okO,Bool.or_eq_true,bjE,djE,List.isEmpty_iff]at h;rcases h with(((h|h)|h)|h)|h
 ·exact .inl ⟨h.1.1.1.1.1,h.1.1.2⟩
 ·refine .inr (.inl ⟨n,d,?_,h.1.1.1.2⟩);obtain⟨⟨⟨⟨rfl,_⟩,rfl⟩,rfl⟩,rfl⟩:=h;rfl
 ·exact .inr (.inr (.inl h.1.1.1.1.1))
 ·exact .inr (.inr (.inr (.inl h.1.1.1.1.1)))
 ·exact .inr (.inr (.inr (.inr ⟨h.1.1.1.1.1,h.1.1.2,h.2⟩)))
def cL(a b:G.O):Int:=bif decide (rkn a.kind=rkn b.kind)then(bif decide (a.kind=1)then vN (a.num,a.den) (b.num,b.den)else bif decide (a.kind=3)then cB a.text b.text else cY a.sym b.sym)else bif decide (rkn a.kind<rkn b.kind)then-1 else 1
section
variable{a b:G.O}(ha:okO a.kind a.num a.den a.sym a.text a.pair=true)(hb:okO b.kind b.num b.den b.sym b.text b.pair=true)
include ha hb
theorem kindsP(h1:a.kind=1)(h:rkn a.kind=rkn b.kind): ∃n d n' d',a=nuO (n,d)∧b=nuO (n',d')∧okN n d=true∧okN n' d'=true:=by
 have hk:rkn b.kind=0:=by rw[←h,h1];rfl
 rcases lM ha with h2|⟨n,d,h2,h3⟩|h2|h2|h2
 ·rw[h2.1]at h1;cases h1
 ·rcases lM hb with g2|⟨n',d',g2,g3⟩|g2|g2|g2
  ·rw[g2.1]at hk;cases hk
  ·exact⟨n,d,n',d',h2,g2,h3,g3⟩
  ·rw[g2]at hk;cases hk
  ·rw[g2]at hk;cases hk
  ·rw[g2.1]at hk;cases hk
 ·rw[h2]at h1;cases h1
 ·rw[h2]at h1;cases h1
 ·rw[h2.1]at h1;cases h1
theorem leafP{L M:Nat}{n1:G.O→G.O→Rt}:aIH (CTp (L+7000) (M+60)) (L+7000) n1 false a b=some [⟨.int .i64,cL a b⟩]:=by
 rw[aIH,B76x2,aF,show M+60=M+59+1 from rfl,rkP,bU,rkP,bU]
 unfold cL;by_cases h:rkn a.kind=rkn b.kind
 ·rw[decide_eq_true h,cdt];simp only[bnT];rw[aF];by_cases h1:a.kind=1
  ·obtain⟨n,d,n',d',rfl,rfl,h2,h3⟩:=kindsP ha hb h1 h;rw[decide_eq_true h1,cdt,aJ,vaP h2 h3];rfl
  ·rw[decide_eq_false h1,cdf,aF];by_cases h3:a.kind=3
   ·rw[decide_eq_true h3,cdt,aJ,scP];rfl
   ·rw[decide_eq_false h3,cdf,aF,scP,bU,scP];unfold cY;by_cases h5:a.sym.name=b.sym.name
    ·rw[decide_eq_true h5,decide_eq_true (cB_0.2 h5),cdt];rfl
    ·rw[decide_eq_false h5,decide_eq_false (fun e=>h5 (cB_0.1 e)),cdf];rfl
 ·rw[decide_eq_false h,cdf];simp only[Bool.not_false];rw[aJ];cases decide (rkn a.kind<rkn b.kind)<;>rfl
theorem leafR(hc: ¬(isC a=true∧isC b=true)){L M:Nat}:CTp (L+7000) (M+61) 80 [⟨.rc 2,a⟩,⟨.rc 2,b⟩]=some [⟨.int .i64,cL a b⟩]:=by
 rw[show M+61=M+60+1 from rfl,c80,F80,B80x0,show M+60=M+59+1 from rfl,rkR,bU,rkR]
 simp only[bU];unfold cL;by_cases h:rkn a.kind=rkn b.kind
 ·rw[decide_eq_true h,cdt,decide_eq_true (by rw[h]:rkn a.kind+1=rkn b.kind+1)]
  simp only[bnT];rw[aF];by_cases h1:a.kind=1
  ·obtain⟨n,d,n',d',rfl,rfl,h2,h3⟩:=kindsP ha hb h1 h;rw[decide_eq_true h1,cdt,show rkn (nuO (n,d)).kind+1=1 from rfl,decide_eq_true rfl,aJ]
   exact vaR_ok h2 h3
  ·rw[decide_eq_false h1,cdf];have last:(decide (rkn a.kind+1=1)=false∧decide (rkn a.kind+1=2)=false∧decide (rkn a.kind+1=3)=false∧decide (a.kind=3)=false)→rkn a.kind=3→a.sym=⟨[],[]⟩→
          cnd (decide (rkn a.kind+1=1)) (vaR (CTp (L+7000) (M+59+1)) (a.num,a.den) (b.num,b.den)) (cnd (decide (rkn a.kind+1=2)) (obL [.int .i64] (CTp (L+7000) (M+59+1) 100 [⟨.str,a.text⟩,⟨.str,b.text⟩]) fun(r8:Int×Unit)=>some [⟨.int .i64,r8.1⟩])
            (cnd (decide (rkn a.kind+1=3)) (obL [.int .i64] (CTp (L+7000) (M+59+1) 79 [⟨.rc 1,a.sym⟩,⟨.rc 1,b.sym⟩]) fun(r9:Int×Unit)=>some [⟨.int .i64,r9.1⟩])
              (obL [.bool] (CTp (L+7000) (M+59+1) 84 [⟨.rc 2,a⟩]) fun(r10:Bool×Unit)=>cnd (!r10.1) (aIG (CTp (L+7000) (M+59+1)) (L+7000) true a b)
                (obL [.bool] (CTp (L+7000) (M+59+1) 84 [⟨.rc 2,b⟩]) fun(r11:Bool×Unit)=>aIG (CTp (L+7000) (M+59+1)) (L+7000) (!r11.1) a b))))=
          some [⟨.int .i64,bif decide (a.kind=3)then cB a.text b.text else cY a.sym b.sym⟩]:=by
    rintro⟨q1,q2,q3,q4⟩ q5 q6;have q7:b.sym=⟨[],[]⟩:=by
     have hk:rkn b.kind=3:=by rw[←h];exact q5
     rcases lM hb with g2|⟨n',d',g2,g3⟩|g2|g2|g2
     ·exact g2.2
     ·rw[g2]at hk;cases hk
     ·rw[g2]at hk;cases hk
     ·rw[g2]at hk;cases hk
     ·exact g2.2.1
    rw[q1,q2,q3,q4,aF,aF,aF,cdf,q6,q7,coR,eX];cases hx:isC a with
    |false=>rfl
    |true=>
     simp only[bnT];rw[aF,coR,eX];cases hy:isC b with
     |false=>rfl
     |true=>exact(hc ⟨hx,hy⟩).elim
   rcases lM ha with h2|⟨n,d,h2,h3⟩|h2|h2|h2
   ·exact last (by rw[h2.1];exact⟨rfl,rfl,rfl,rfl⟩) (by rw[h2.1];rfl) h2.2
   ·rw[h2]at h1;exact absurd rfl h1
   ·rw[h2,show rkn 2+1=3 from rfl,decide_eq_false (by decide: ¬(3:Int)=1),aF,decide_eq_false (by decide: ¬(3:Int)=2),aF,decide_eq_true rfl,aJ,decide_eq_false (by decide: ¬(2:Int)=3),cdf,show M+59+1=M+58+2 from rfl,syR]
    rfl
   ·rw[h2,show rkn 3+1=2 from rfl,decide_eq_false (by decide: ¬(2:Int)=1),aF,decide_eq_true rfl,aJ,decide_eq_true rfl,cdt,scR]
    rfl
   ·exact last (by rw[h2.1];exact⟨rfl,rfl,rfl,rfl⟩) (by rw[h2.1];rfl) h2.2.1
 ·rw[decide_eq_false h,cdf,decide_eq_false (by omega: ¬rkn a.kind+1=rkn b.kind+1)]
  simp only[Bool.not_false];rw[aJ];by_cases h1:rkn a.kind<rkn b.kind
  ·rw[decide_eq_true h1,decide_eq_true (by omega:rkn a.kind+1<rkn b.kind+1)];rfl
  ·rw[decide_eq_false h1,decide_eq_false (by omega: ¬rkn a.kind+1<rkn b.kind+1)];rfl
end
theorem aC7{o:G.O}(h:isC o=true): ∃x y,o.pair=[x,y]:=by
 simp only[isC,bjE,djE]at h
 match hl:o.pair,h.2 with
 |[x,y],_=>exact⟨x,y,rfl⟩
 |[],h2=>simp at h2
 |[x],h2=>simp at h2
 |x::y::z::l,h2=>simp at h2;omega
theorem oC_ok: ∀a:G.O,∀(b:G.O) (L n m k:Nat),osz a<900000000→osz b<900000000→osz a+70≤n→osz a<m→osz a≤L→osz a+70≤k→
    ∃r:Int,rM (CTp (L+7000) n) (L+7000) m a b=some [⟨.int .i64,r⟩]∧CTp (L+7000) k 80 [⟨.rc 2,a⟩,⟨.rc 2,b⟩]=some [⟨.int .i64,r⟩]:=fun a=>by
 induction a using mW with
 |h kd nm d s t l ih=>
  intro b L n m k ha hb hn hm hL hk;have oa:=okO_of (o:=⟨kd,nm,d,s,t,l⟩) (by omega)
  have ob':=okO_of (o:=b) (by omega)
  obtain⟨m,rfl⟩: ∃m',m=m'+1:=⟨m-1,by omega⟩
  by_cases hc:isC ⟨kd,nm,d,s,t,l⟩=true∧isC b=true
  ·obtain⟨h1,h2⟩:=hc;obtain⟨x0,x1,hx⟩:=aC7 h1;obtain⟨y0,y1,hy⟩:=aC7 h2;change l=[x0,x1]at hx;subst hx;have hbs:osz y0<900000000∧osz y1<900000000:=by
    cases b with|mk kb nb db sb tb lb=>
    change lb=[y0,y1]at hy;subst hy;simp only[osz,mU]at hb;omega
   simp only[osz,mU]at ha hn hm hL hk;obtain⟨n,rfl⟩: ∃n',n=n'+1:=⟨n-1,by omega⟩
   obtain⟨k,rfl⟩: ∃k',k=k'+1:=⟨k-1,by omega⟩
   obtain⟨r0,p0,q0⟩:=ih x0 (by simp) y0 L n (L+7000) k (by omega) hbs.1 (by omega) (by omega) (by omega) (by omega)
   obtain⟨r1,p1,q1⟩:=ih x1 (by simp) y1 L (n+1) m k (by omega) hbs.2 (by omega) (by omega) (by omega) (by omega)
   have e0:CTp (L+7000) (n+1) 76 [⟨.rc 2,x0⟩,⟨.rc 2,y0⟩]=some [⟨.int .i64,r0⟩]:=by rw[c76];exact p0
   have hP:rM (CTp (L+7000) (n+1)) (L+7000) (m+1) ⟨kd,nm,d,s,t,[x0,x1]⟩ b=cnd (!decide (r0=0)) (some [⟨.int .i64,r0⟩]) (rM (CTp (L+7000) (n+1)) (L+7000) m x1 y1):=by
    rw[rM,B76x1,coP,eX,h1,aJ,coP,eX,h2,aIH,B76x2,aJ,mT,hy];show obL [.int .i64] (CTp (L+7000) (n+1) 76 [⟨.rc 2,x0⟩,⟨.rc 2,y0⟩]) _=_;rw[e0];rfl
   have hka:kd=4:=by
    simp only[isC,bjE,djE]at h1;exact h1.1
   have hkb:b.kind=4:=by
    simp only[isC,bjE,djE]at h2;exact h2.1
   obtain⟨k2,hk2⟩: ∃k',k=k'+1:=⟨k-1,by omega⟩
   have hR:CTp (L+7000) (k+1) 80 [⟨.rc 2,⟨kd,nm,d,s,t,[x0,x1]⟩⟩,⟨.rc 2,b⟩]=cnd (!decide (r0=0)) (some [⟨.int .i64,r0⟩]) (CTp (L+7000) k 80 [⟨.rc 2,x1⟩,⟨.rc 2,y1⟩]):=by
    have ra:CTp (L+7000) k 101 [⟨.rc 2,⟨kd,nm,d,s,t,[x0,x1]⟩⟩]=some [⟨.int .i64,(4:Int)⟩]:=by rw[hk2,rkR];subst hka;rfl
    have rb:CTp (L+7000) k 101 [⟨.rc 2,b⟩]=some [⟨.int .i64,(4:Int)⟩]:=by rw[hk2,rkR,hkb];rfl
    have ca:CTp (L+7000) k 84 [⟨.rc 2,⟨kd,nm,d,s,t,[x0,x1]⟩⟩]=some [⟨.bool,true⟩]:=by rw[hk2,coR,h1]
    have cb:CTp (L+7000) k 84 [⟨.rc 2,b⟩]=some [⟨.bool,true⟩]:=by rw[hk2,coR,h2]
    rw[c80,F80,B80x0,ra,bU,rb];simp only[bU];rw[ca,cb];simp only[eX,decide_true,bnT,aF,show decide ((4:Int)=1)=false from rfl,show decide ((4:Int)=2)=false from rfl,show decide ((4:Int)=3)=false from rfl]
    rw[aIG,B80x1,aF,mT,hy];show obL [.int .i64] (CTp (L+7000) k 80 [⟨.rc 2,x0⟩,⟨.rc 2,y0⟩]) _=_;rw[q0,bU];show cnd (!decide (r0=0)) (some [⟨.int .i64,r0⟩]:Rt) (obL [.int .i64] (CTp (L+7000) k 80 [⟨.rc 2,x1⟩,⟨.rc 2,y1⟩]) _)=_;rw[q1,bU]
   rw[hP,hR,p1,q1];cases decide (r0=0)
   ·exact⟨r0,rfl,rfl⟩
   ·exact⟨r1,rfl,rfl⟩
  ·have hn1:70≤n:=by omega
   have hk1:70≤k:=by omega
   obtain⟨n,rfl⟩: ∃n',n=n'+60:=⟨n-60,by omega⟩
   obtain⟨k,rfl⟩: ∃k',k=k'+61:=⟨k-61,by omega⟩
   refine⟨cL ⟨kd,nm,d,s,t,l⟩ b,?_,leafR oa ob' hc⟩;rw[rM,B76x1,show n+60=n+59+1 from rfl,coP,eX]
   have hl:=leafP oa ob' (L:=L) (M:=n) (n1:=rM (CTp (L+7000) (n+60)) (L+7000) m);cases h1:isC ⟨kd,nm,d,s,t,l⟩with
   |false=>exact hl
   |true=>
    rw[aJ,coP,eX];cases h2:isC b with
    |false=>exact hl
    |true=>exact(hc ⟨h1,h2⟩).elim
theorem oCP{a b:G.O}{L n k:Nat}(ha:osz a<900000000)(hb:osz b<900000000)(hn:osz a+71≤n)(hL:osz a≤L)(hk:osz a+70≤k):
    ∃r:Int,CTp (L+7000) n 76 [⟨.rc 2,a⟩,⟨.rc 2,b⟩]=some [⟨.int .i64,r⟩]∧CTp (L+7000) k 80 [⟨.rc 2,a⟩,⟨.rc 2,b⟩]=some [⟨.int .i64,r⟩]:=by
 obtain⟨n,rfl⟩: ∃n',n=n'+1:=⟨n-1,by omega⟩
 obtain⟨r,h1,h2⟩:=oC_ok a b L n (L+7000) k ha hb (by omega) (by omega) hL hk
 exact⟨r,by rw[c76];exact h1,h2⟩
end Go.TV
namespace Go.TV
open Go.AI Go.PI Go.Proofs
set_option maxRecDepth 20000
mutual
def m3:G.T→Nat×Nat×Nat
 |⟨k,_,v,l⟩=>bif decide (k=1)then(1,0,0)else bif decide (k=2)then(0,0,min (nO v) 3001)else((m3' l).1,(m3' l).2.1+1,(m3' l).2.2)
def m3':List G.T→Nat×Nat×Nat
 |[]=>(0,0,0)
 |t::l=>((m3 t).1+(m3' l).1,(m3 t).2.1+(m3' l).2.1,(m3 t).2.2+(m3' l).2.2)
end
theorem m3'_le{l:List G.T}(ih: ∀t∈l,(m3 t).1≤tsz t∧(m3 t).2.1≤tsz t∧(m3 t).2.2≤tsz t):(m3' l).1≤mH l∧(m3' l).2.1≤mH l∧(m3' l).2.2≤mH l:=by
 induction l with
 |nil=>exact⟨nlR _,nlR _,nlR _⟩
 |cons t l ihl=>
  obtain⟨a1,a2,a3⟩:=ih t (mhE ..);obtain⟨b1,b2,b3⟩:=ihl fun x hx=>ih x (mtE _ hx)
  simp only[m3',mH];exact⟨by omega,by omega,by omega⟩
theorem m3_le: ∀t:G.T,(m3 t).1≤tsz t∧(m3 t).2.1≤tsz t∧(m3 t).2.2≤tsz t:=fun t=>by
 induction t using mI with
 |h k n v l ih=>
  obtain⟨a1,a2,a3⟩:=m3'_le ih;have h1:=nO_sz v;simp only[m3,tsz];cases decide (k=1)with
  |true=>exact⟨by show 1≤_;omega,by show 0≤_;omega,by show 0≤_;omega⟩
  |false=>
   cases decide (k=2)with
   |true=>exact⟨by show 0≤_;omega,by show 0≤_;omega,by show min (nO v) 3001≤_;omega⟩
   |false=>exact⟨by show(m3' l).1≤_;omega,by show(m3' l).2.1+1≤_;omega,by show(m3' l).2.2≤_;omega⟩
def a3(x y z:Nat):G.Arr3Int:=⟨(x:Int),(y:Int),(z:Int)⟩
theorem aGp{β:Type}{a:G.Arr3Int}{K:G.Arr3Int×Unit→Option β}:obL (D:=U0.D) [.rc 19] (some [⟨.rc 19,a⟩]) K=K (a,()):=rfl
theorem wrapa{x y:Nat}(h:x+y<4000000000000000000):IntKind.i64.wrap ((x:Int)+(y:Int))=((x+y:Nat):Int):=by rw[mD (by omega) (by omega)];omega
def WtR(L n:Nat)(t:G.T):Prop:= ∀x y z:Nat,x+tsz t≤3000000000→y+tsz t≤3000000000→z+tsz t≤3000000000→CTp L n 55 [⟨.rc 3,t⟩,⟨.rc 19,a3 x y z⟩]=some [⟨.rc 19,a3 (x+(m3 t).1) (y+(m3 t).2.1) (z+(m3 t).2.2)⟩]
theorem tP:(∀k n v l,(G.T.mk k n v l).kind=k)∧(∀k n v l,(G.T.mk k n v l).name=n)∧(∀k n v l,(G.T.mk k n v l).value=v)∧(∀k n v l,(G.T.mk k n v l).args=l):=⟨fun _ _ _ _=>rfl,fun _ _ _ _=>rfl,fun _ _ _ _=>rfl,fun _ _ _ _=>rfl⟩
theorem wt_loop{L n:Nat}{a:List G.T}{b0:G.Arr3Int}(hb:a.length<1000000000): ∀(l:List G.T) (k m x y z:Nat),a.drop k=l→l.length<m→x+mH l≤3000000000→y+mH l≤3000000000→z+mH l≤3000000000→(∀t∈l,WtR L n t)→
    aBS (CTp L n) L m (a.length:Int) a (k:Int) (a3 x y z) b0=some [⟨.rc 19,a3 (x+(m3' l).1) (y+(m3' l).2.1) (z+(m3' l).2.2)⟩]:=by
 intro l;induction l with
 |nil=>
  intro k m x y z h1 h3 _ _ _ _;obtain⟨m,rfl⟩: ∃m',m=m'+1:=⟨m-1,by simp at h3;omega⟩
  have e1:=bA h1;have e3:decide ((k:Int)<(a.length:Int))=false:=by simp;omega
  rw[aBS,B55x2,e3,aF,aEZ,aIV];rfl
 |cons t l ih=>
  intro k m x y z h1 h3 q1 q2 q3 hc;obtain⟨m,rfl⟩: ∃m',m=m'+1:=⟨m-1,by simp at h3;omega⟩
  obtain⟨a1,a2,a4⟩:=aZ h1;simp only[mH]at q1 q2 q3;obtain⟨b1,b2,b3⟩:=m3_le t;have e3:decide ((k:Int)<(a.length:Int))=true:=by simp;omega
  rw[aBS,B55x2,e3,aJ,aL,a1,dT,hc t (mhE ..) x y z (by omega) (by omega) (by omega),aGp,dP (by omega)]
  refine(ih (k+1) m _ _ _ a4 (by simp at h3;omega) (by omega) (by omega) (by omega) fun u hu=>hc u (mtE _ hu)).trans ?_
  simp only[m3',Nat.add_assoc]
theorem okT_k{t:G.T}(h:tsz t<1000000000):t.kind=1∨t.kind=2∨t.kind=3:=by
 have:=aGi h;simp only[okTm,Bool.or_eq_true,bjE,djE]at this;rcases this with(h|h)|h
 ·exact .inl h.1.1.1
 ·exact .inr (.inl h.1.1.1)
 ·exact .inr (.inr h.1.1.1)
theorem wt_ok: ∀t:G.T,∀(L n:Nat),tsz t≤L→tsz t≤n→tsz t<900000000→WtR L n t:=fun t=>by
 induction t using mI with
 |h k nm v l ih=>
  intro L n hL hn hw x y z q1 q2 q3;have hk:=okT_k (t:=⟨k,nm,v,l⟩) (by omega)
  change k=1∨k=2∨k=3 at hk;simp only[tsz]at hL hn hw q1 q2 q3;have hlen:=mG l;obtain⟨n,rfl⟩: ∃n',n=n'+1:=⟨n-1,by omega⟩
  rw[c55,F55,B55x0];rcases hk with rfl|rfl|rfl
  ·simp only[tP,decide_true,aJ,m3,cdt];rw[aEZ,aIV];show some [(⟨.rc 19,(⟨IntKind.i64.wrap ((x:Int)+1),(y:Int),(z:Int)⟩:G.Arr3Int)⟩:V U0)]=_;rw[dP (by omega)]
   rfl
  ·simp only[tP,decide_true,aJ,m3,cdt,show decide ((2:Int)=1)=false from rfl,aF,cdf]
   rw[nP_ok (by omega) (by omega) (by omega),bU,aEZ,aIV]
   show some [(⟨.rc 19,(⟨(x:Int),(y:Int),IntKind.i64.wrap ((z:Int)+((min (nO v) 3001:Nat):Int))⟩:G.Arr3Int)⟩:V U0)]=_;rw[wrapa (by omega)]
   rfl
  ·simp only[tP,decide_true,aJ,m3,show decide ((3:Int)=1)=false from rfl,show decide ((3:Int)=2)=false from rfl,aF,cdf]
   have h1:=wt_loop (n:=n) (L:=L) (a:=l) (b0:=⟨0,0,0⟩) (by omega) l 0 L x (y+1) z rfl (by omega) (by omega) (by omega) (by omega) fun u hu=>ih u hu L n (by have:=dJ hu;omega) (by have:=dJ hu;omega) (by have:=dJ hu;omega)
   have e:(⟨(a3 x y z).a0,IntKind.i64.wrap ((a3 x y z).a1+1),(a3 x y z).a2⟩:G.Arr3Int)=a3 x (y+1) z:=by
    show(⟨(x:Int),IntKind.i64.wrap ((y:Int)+1),(z:Int)⟩:G.Arr3Int)=_;rw[dP (by omega)];rfl
   rw[e];refine h1.trans ?_;rw[show y+1+(m3' l).2.1=y+((m3' l).2.1+1) by omega]
def i3(x y z:Nat):Rt:=some [⟨.int .i64,(x:Int)⟩,⟨.int .i64,(y:Int)⟩,⟨.int .i64,(z:Int)⟩]
theorem obL_i3{β:Type}{a b c:Int}{K:Int×Int×Int×Unit→Option β}:obL (D:=U0.D) [.int .i64,.int .i64,.int .i64] (some [⟨.int .i64,a⟩,⟨.int .i64,b⟩,⟨.int .i64,c⟩]) K=K (a,b,c,()):=rfl
theorem me_loop{L n:Nat}{a:List G.T}{o:G.T}(ho:o.args=a)(hb:a.length<1000000000): ∀(l:List G.T) (k m x y z:Nat),a.drop k=l→l.length<m→x+mH l≤3000000000→y+mH l≤3000000000→z+mH l≤3000000000→(∀t∈l,CTp L n 59 [⟨.rc 3,t⟩]=i3 (m3 t).1 (m3 t).2.1 (m3 t).2.2)→
    zH (CTp L n) L m (k:Int) (x:Int) (y:Int) (z:Int) o=i3 (x+(m3' l).1) (y+(m3' l).2.1) (z+(m3' l).2.2):=by
 intro l;induction l with
 |nil=>
  intro k m x y z h1 h3 _ _ _ _;obtain⟨m,rfl⟩: ∃m',m=m'+1:=⟨m-1,by simp at h3;omega⟩
  have e1:=bA h1;have e3:decide ((k:Int)<(a.length:Int))=false:=by simp;omega
  rw[zH,B59x1,ho,e3,aF];rfl
 |cons t l ih=>
  intro k m x y z h1 h3 q1 q2 q3 hc;obtain⟨m,rfl⟩: ∃m',m=m'+1:=⟨m-1,by simp at h3;omega⟩
  obtain⟨a1,a2,a4⟩:=aZ h1;simp only[mH]at q1 q2 q3;obtain⟨b1,b2,b3⟩:=m3_le t;have e3:decide ((k:Int)<(a.length:Int))=true:=by simp;omega
  rw[zH,B59x1,ho,e3,aJ,aL,a1,dT,hc t (mhE ..),i3,obL_i3,dP (by omega)]
  show zH (CTp L n) L m ((k+1:Nat):Int) (IntKind.i64.wrap ((x:Int)+((m3 t).1:Int))) (IntKind.i64.wrap ((y:Int)+((m3 t).2.1:Int))) (IntKind.i64.wrap ((z:Int)+((m3 t).2.2:Int))) o=_;rw[wrapa (by omega),wrapa (by omega),wrapa (by omega)]
  refine(ih (k+1) m _ _ _ a4 (by simp at h3;omega) (by omega) (by omega) (by omega) fun u hu=>hc u (mtE _ hu)).trans ?_
  simp only[m3',Nat.add_assoc]
theorem me_ok: ∀t:G.T,∀(L n:Nat),tsz t≤L→tsz t≤n→tsz t<900000000→CTp L n 59 [⟨.rc 3,t⟩]=i3 (m3 t).1 (m3 t).2.1 (m3 t).2.2:=fun t=>by
 induction t using mI with
 |h k nm v l ih=>
  intro L n hL hn hw;have hk:=okT_k (t:=⟨k,nm,v,l⟩) (by omega)
  change k=1∨k=2∨k=3 at hk;simp only[tsz]at hL hn hw;have hlen:=mG l;obtain⟨n,rfl⟩: ∃n',n=n'+1:=⟨n-1,by omega⟩
  rw[c59,F59,B59x0];rcases hk with rfl|rfl|rfl
  ·simp only[tP,decide_true,aJ,m3,cdt];rfl
  ·simp only[tP,decide_true,aJ,m3,cdt,show decide ((2:Int)=1)=false from rfl,aF,cdf]
   rw[nR_ok (by omega) (by omega),bU]
   rfl
  ·simp only[tP,decide_true,aJ,m3,show decide ((3:Int)=1)=false from rfl,show decide ((3:Int)=2)=false from rfl,aF,cdf]
   have h1:=me_loop (n:=n) (L:=L) (a:=l) (o:=⟨3,nm,v,l⟩) rfl (by omega) l 0 L 0 1 0 rfl (by omega) (by omega) (by omega) (by omega) fun u hu=>ih u hu L n (by have:=dJ hu;omega) (by have:=dJ hu;omega) (by have:=dJ hu;omega)
   refine h1.trans ?_;rw[Nat.zero_add,Nat.zero_add,Nat.add_comm 1]
end Go.TV
namespace Go.TV
open Go.AI Go.PI Go.Proofs
set_option maxRecDepth 20000
def sgn(a b:Int):Int:=bif decide (a<b)then-1 else bif decide (b<a)then 1 else 0
theorem sg_ok{a b:Int}{L n:Nat}:CTp L (n+1) 60 [⟨.int .i64,a⟩,⟨.int .i64,b⟩]=some [⟨.int .i64,sgn a b⟩]:=by
 rw[c60,F60,B60x0];unfold sgn;cases decide (a<b)with
 |true=>rfl
 |false=>cases decide (b<a)<;>rfl
theorem sgn_0{a b:Int}:sgn a b=0↔a=b:=by
 unfold sgn;by_cases h1:a<b
 ·rw[decide_eq_true h1,cdt];exact⟨fun e=>(by cases e),fun e=>by omega⟩
 ·rw[decide_eq_false h1,cdf];by_cases h2:b<a
  ·rw[decide_eq_true h2,cdt];exact⟨fun e=>(by cases e),fun e=>by omega⟩
  ·rw[decide_eq_false h2,cdf];exact⟨fun _=>by omega,fun _=>rfl⟩
theorem vX{a b:Int}(h: ¬a=b):sgn a b=bif decide (a<b)then-1 else 1:=by
 unfold sgn;by_cases h1:a<b
 ·rw[decide_eq_true h1];rfl
 ·rw[decide_eq_false h1,cdf,cdf,decide_eq_true (by omega:b<a)];rfl
def Bth(L n k:Nat)(i j:Nat)(d:TVs):Prop:= ∃r:Int,CTp (L+7000) n i d=some [⟨.int .i64,r⟩]∧CTp (L+7000) k j d=some [⟨.int .i64,r⟩]
theorem tM{c:TC0}{L m:Nat}{i r:Int}{a b:G.T}(h: ¬r=0):oX c L (m+1) i r a b=some [⟨.int .i64,r⟩]:=by
 rw[oX,aIT,decide_eq_false h];have e:J61x3 c L (oX c L m) false i r a b=some [⟨.int .i64,r⟩]:=rfl;cases decide (i<(a.args.length:Int))with
 |false=>exact e
 |true=>cases decide (i<(b.args.length:Int))<;>exact e
theorem st_loop{L n k:Nat}{a b:G.T}(hab:a.args.length=b.args.length)(hb:a.args.length<1000000000): ∀(l l':List G.T) (i m m':Nat),a.args.drop i=l→b.args.drop i=l'→l.length<m→l.length+1<m'→
    (∀x∈l,∀y∈l',Bth L n k 56 61 [⟨.rc 3,x⟩,⟨.rc 3,y⟩])→
    ∃r:Int,oY (CTp (L+7000) n) (L+7000) m (a.args.length:Int) a.args (i:Int) b=some [⟨.int .i64,r⟩]∧oX (CTp (L+7000) k) (L+7000) m' (i:Int) 0 a b=some [⟨.int .i64,r⟩]:=by
 intro l;induction l with
 |nil=>
  intro l' i m m' h1 h2 h3 h4 _;obtain⟨m,rfl⟩: ∃q,m=q+1:=⟨m-1,by simp at h3;omega⟩
  obtain⟨m',rfl⟩: ∃q,m'=q+1:=⟨m'-1,by simp at h4;omega⟩
  have e1:=bA h1;have e3:decide ((i:Int)<(a.args.length:Int))=false:=by simp;omega
  refine⟨0,?_,?_⟩
  ·rw[oY,aIU,e3,aF]
  ·rw[oX,aIT,e3,aF];rfl
 |cons x l ih=>
  intro l' i m m' h1 h2 h3 h4 hc;obtain⟨m,rfl⟩: ∃q,m=q+1:=⟨m-1,by simp at h3;omega⟩
  obtain⟨m',rfl⟩: ∃q,m'=q+2:=⟨m'-2,by simp at h4;omega⟩
  obtain⟨a1,a2,a3⟩:=aZ h1;cases l' with
  |nil=>exact absurd (by omega:i<b.args.length) (bA h2)
  |cons y l'=>
  obtain⟨b1,b2,b3⟩:=aZ h2;have e3:decide ((i:Int)<(a.args.length:Int))=true:=by simp;omega
  have e4:decide ((i:Int)<(b.args.length:Int))=true:=by simp;omega
  obtain⟨r,p1,p2⟩:=hc x (mhE ..) y (mhE ..);have hP:oY (CTp (L+7000) n) (L+7000) (m+1) (a.args.length:Int) a.args (i:Int) b=cnd (!decide (r=0)) (some [⟨.int .i64,r⟩]) (oY (CTp (L+7000) n) (L+7000) m (a.args.length:Int) a.args ((i+1:Nat):Int) b):=by
   rw[oY,aIU,e3,aJ,aL,a1,dT,aL,b1,dT,p1,bU,dP (by omega)]
  have hR:oX (CTp (L+7000) k) (L+7000) (m'+2) (i:Int) 0 a b=oX (CTp (L+7000) k) (L+7000) (m'+1) ((i+1:Nat):Int) r a b:=by
   rw[oX,aIT,e3,aJ,e4,aJ,J61x3,B61x3,decide_eq_true rfl,aJ,aL,a1,dT,aL,b1,dT,p2,bU,dP (by omega)]
  rw[hP,hR];by_cases h0:r=0
  ·rw[decide_eq_true h0,bnT,aF,h0];exact ih l' (i+1) m (m'+1) a3 b3 (by simp at h3;omega) (by simp at h4;omega) fun u hu v hv=>hc u (mtE _ hu) v (mtE _ hv)
  ·rw[decide_eq_false h0,Bool.not_false,aJ];exact⟨r,rfl,tM h0⟩
theorem okT1{t:G.T}(h:tsz t<1000000000)(hk:t.kind=1):t.args=[]:=by
 have:=aGi h;simp only[okTm,hk,Bool.or_eq_true,bjE,djE,List.isEmpty_iff]at this;rcases this with(h|h)|h
 ·exact h.2
 ·exact absurd h.1.1.1 (by decide)
 ·exact absurd h.1.1.1 (by decide)
theorem st_ok: ∀a b:G.T,∀(L n k:Nat),tsz a<900000000→tsz b<900000000→tsz a+80≤n→tsz a+80≤k→tsz a≤L→Bth L n k 56 61 [⟨.rc 3,a⟩,⟨.rc 3,b⟩]:=fun a=>by
 induction a using mI with
 |h ka na va la ih=>
  intro b L n k ha hb hn hk hL;have hka:=okT_k (t:=⟨ka,na,va,la⟩) (by omega)
  have hkb:=okT_k (t:=b) (by omega)
  have hT1:=okT1 (t:=⟨ka,na,va,la⟩) (by omega)
  have hT2:=okT1 (t:=b) (by omega)
  obtain⟨kb,nb,vb,lb⟩:=b;change ka=1∨ka=2∨ka=3 at hka;change kb=1∨kb=2∨kb=3 at hkb;change ka=1→la=[]at hT1;change kb=1→lb=[]at hT2;simp only[tsz]at ha hb hn hk hL;have hla:=mG la;obtain⟨n,rfl⟩: ∃q,n=q+3:=⟨n-3,by omega⟩
  obtain⟨k,rfl⟩: ∃q,k=q+3:=⟨k-3,by omega⟩
  unfold Bth;rw[show n+3=n+2+1 from rfl,c56,F56,B56x0,show k+3=k+2+1 from rfl,c61,F61,B61x0,show CTp (L+7000) (k+2)=CTp (L+7000) (k+1+1) from rfl,sg_ok,bU]
  simp only[tP];by_cases h:ka=kb
  ·rw[decide_eq_true h,decide_eq_true (sgn_0.2 h)];simp only[bnT,aF];have hsy: ∀r:Int,r=cY na nb→la.length=lb.length∨¬la.length=lb.length→∃q:Int,
          (cnd (!decide (r=0)) (some [⟨.int .i64,r⟩]:Rt) (cnd (!decide ((la.length:Int)=(lb.length:Int))) (cnd (decide ((la.length:Int)<(lb.length:Int))) (some [⟨.int .i64,(-1:Int)⟩]) (some [⟨.int .i64,(1:Int)⟩])) (oY (CTp (L+7000) (n+2)) (L+7000) (L+7000) (la.length:Int) la 0 ⟨kb,nb,vb,lb⟩)))=some [⟨.int .i64,q⟩]∧
          (cnd (decide (r=0)) (obL [(.int .i64)] (CTp (L+7000) (k+1+1) 60 [⟨(.int .i64),(la.length:Int)⟩,⟨(.int .i64),(lb.length:Int)⟩]) fun(r4:Int×Unit)=>aEY (CTp (L+7000) (k+1+1)) (L+7000) r4.1 ⟨ka,na,va,la⟩ ⟨kb,nb,vb,lb⟩) (aEY (CTp (L+7000) (k+1+1)) (L+7000) r ⟨ka,na,va,la⟩ ⟨kb,nb,vb,lb⟩))=some [⟨.int .i64,q⟩]:=by
    intro r _ _;by_cases h0:r=0
    ·rw[decide_eq_true h0,bnT,aF,aJ,sg_ok,bU,aEY,B61x1];by_cases hl:la.length=lb.length
     ·rw[decide_eq_true (by omega:(la.length:Int)=(lb.length:Int)),bnT,aF,show sgn (la.length:Int) (lb.length:Int)=0 from sgn_0.2 (by omega)]
      refine st_loop (L:=L) (n:=n+2) (k:=k+1+1) (a:=⟨ka,na,va,la⟩) (b:=⟨kb,nb,vb,lb⟩) hl (show la.length<1000000000 by omega) la lb 0 (L+7000) (L+7000) rfl rfl (by omega) (by omega) fun x hx y hy=>?_
      have h1:=dJ hx;have h2:=dJ hy;exact ih x hx y L (n+2) (k+1+1) (by omega) (by omega) (by omega) (by omega) (by omega)
     ·rw[decide_eq_false (by omega: ¬(la.length:Int)=(lb.length:Int)),Bool.not_false,aJ]
      refine⟨sgn (la.length:Int) (lb.length:Int),?_,?_⟩
      ·rw[vX (by omega)]
       cases decide ((la.length:Int)<(lb.length:Int))<;>rfl
      ·rw[show L+7000=L+6999+1 from rfl]
       exact tM fun e=>by have:=sgn_0.1 e;omega
    ·rw[decide_eq_false h0,Bool.not_false,aJ,aF,aEY,B61x1];exact⟨r,rfl,by rw[show L+7000=L+6999+1 from rfl];exact tM h0⟩
   by_cases h2:ka=2
   ·rw[decide_eq_true h2,aJ,decide_eq_false (by omega: ¬ka=1),aF,aJ]
    obtain⟨r,p1,p2⟩:=oCP (a:=va) (b:=vb) (L:=L) (n:=n+2) (k:=k+1+1) (by omega) (by omega) (by omega) (by omega) (by omega)
    exact⟨r,by rw[p1,bU],by rw[p2,bU]⟩
   ·rw[decide_eq_false h2,aF,aF,show n+2=n+2 from rfl,syP,bU,show k+1+1=k+2 from rfl,syR]
    simp only[bU];obtain⟨q,q1,q2⟩:=hsy (cY na nb) rfl (by omega)
    by_cases h1:ka=1
    ·rw[decide_eq_true h1,aJ];have e1:=hT1 h1;have e2:=hT2 (h▸h1);subst e1 e2;refine⟨cY na nb,?_,rfl⟩;by_cases h0:cY na nb=0
     ·rw[decide_eq_true h0,bnT,aF,h0];show oY (CTp (L+7000) (n+2)) (L+7000) (L+6999+1) (0:Int) [] 0 ⟨kb,nb,vb,[]⟩=_;rw[oY,aIU];rfl
     ·rw[decide_eq_false h0,Bool.not_false,aJ]
    ·rw[decide_eq_false h1,aF];exact⟨q,q1,q2⟩
  ·rw[decide_eq_false h,decide_eq_false (fun e=>h (sgn_0.1 e))]
   simp only[Bool.not_false,aJ];refine⟨sgn ka kb,?_,rfl⟩;rw[vX h];cases decide (ka<kb)<;>rfl
theorem cmp_ok{a b:G.T}{L n k:Nat}(ha:tsz a<900000000)(hb:tsz b<900000000)(hn:tsz a+tsz b+82≤n)(hk:tsz a+tsz b+82≤k)(hL:tsz a+tsz b≤L):Bth L n k 23 26 [⟨.rc 3,a⟩,⟨.rc 3,b⟩]:=by
 obtain⟨n,rfl⟩: ∃q,n=q+1:=⟨n-1,by omega⟩
 obtain⟨k,rfl⟩: ∃q,k=q+2:=⟨k-2,by omega⟩
 obtain⟨s,s1,s2⟩:=st_ok a b L n (k+1) ha hb (by omega) (by omega) (by omega)
 have wa:=wt_ok a (L+7000) n (by omega) (by omega) ha 0 0 0 (by omega) (by omega) (by omega)
 have wb:=wt_ok b (L+7000) n (by omega) (by omega) hb 0 0 0 (by omega) (by omega) (by omega)
 have ma:=me_ok a (L+7000) (k+1) (by omega) (by omega) ha
 have mb:=me_ok b (L+7000) (k+1) (by omega) (by omega) hb
 simp only[Nat.zero_add]at wa wb;unfold Bth;rw[c23,F23,B23x0,show k+2=k+1+1 from rfl,c26,F26,B26x0]
 rw[show(⟨0,0,0⟩:G.Arr3Int)=a3 0 0 0 from rfl,wa,aGp,wb,aGp,ma,mb]
 simp only[i3,obL_i3,sg_ok,bU,s2];generalize (m3 a).1=a0;generalize (m3 a).2.1=a1;generalize (m3 a).2.2=a2;generalize (m3 b).1=b0;generalize (m3 b).2.1=b1;generalize (m3 b).2.2=b2;have jn: ∀r:Int,¬r=0→nV (CTp (L+7000) n) (L+7000) r a b=some [⟨.int .i64,r⟩]:=fun r h=>by
  rw[nV,B23x1,decide_eq_false h];rfl
 have j0:nV (CTp (L+7000) n) (L+7000) 0 a b=some [⟨.int .i64,s⟩]:=by
  rw[nV,B23x1,s1];rfl
 show∃r:Int,cnd (decide ((a0:Int)<(b0:Int))) (nV (CTp (L+7000) n) (L+7000) (-1) a b) (cnd (decide ((b0:Int)<(a0:Int))) (nV (CTp (L+7000) n) (L+7000) 1 a b)
      (cnd (decide ((a1:Int)<(b1:Int))) (nV (CTp (L+7000) n) (L+7000) (-1) a b) (cnd (decide ((b1:Int)<(a1:Int))) (nV (CTp (L+7000) n) (L+7000) 1 a b)
        (cnd (decide ((a2:Int)<(b2:Int))) (nV (CTp (L+7000) n) (L+7000) (-1) a b) (cnd (decide ((b2:Int)<(a2:Int))) (nV (CTp (L+7000) n) (L+7000) 1 a b) (nV (CTp (L+7000) n) (L+7000) 0 a b))))))=some [⟨.int .i64,r⟩]∧
  cnd (!decide ((a0:Int)=(b0:Int))) (some [⟨.int .i64,sgn (a0:Int) (b0:Int)⟩]:Rt) (cnd (!decide ((a1:Int)=(b1:Int))) (some [⟨.int .i64,sgn (a1:Int) (b1:Int)⟩]:Rt) (cnd (!decide ((a2:Int)=(b2:Int))) (some [⟨.int .i64,sgn (a2:Int) (b2:Int)⟩]:Rt) (some [⟨.int .i64,s⟩]:Rt)))=some [⟨.int .i64,r⟩]
 by_cases h0:(a0:Int)=(b0:Int)
 ·rw[decide_eq_true h0,decide_eq_false (by omega: ¬(a0:Int)<(b0:Int)),decide_eq_false (by omega: ¬(b0:Int)<(a0:Int)),aF,aF,bnT,aF]
  by_cases h1:(a1:Int)=(b1:Int)
  ·rw[decide_eq_true h1,decide_eq_false (by omega: ¬(a1:Int)<(b1:Int)),decide_eq_false (by omega: ¬(b1:Int)<(a1:Int)),aF,aF,bnT,aF]
   by_cases h2:(a2:Int)=(b2:Int)
   ·rw[decide_eq_true h2,decide_eq_false (by omega: ¬(a2:Int)<(b2:Int)),decide_eq_false (by omega: ¬(b2:Int)<(a2:Int)),aF,aF,bnT,aF]
    exact⟨s,j0,rfl⟩
   ·rw[decide_eq_false h2,Bool.not_false,aJ];refine⟨_,?_,rfl⟩;rw[vX h2];by_cases h3:(a2:Int)<(b2:Int)
    ·rw[decide_eq_true h3,aJ];exact jn _ (by decide)
    ·rw[decide_eq_false h3,aF,decide_eq_true (by omega:(b2:Int)<(a2:Int)),aJ];exact jn _ (by decide)
  ·rw[decide_eq_false h1,Bool.not_false,aJ];refine⟨_,?_,rfl⟩;rw[vX h1];by_cases h3:(a1:Int)<(b1:Int)
   ·rw[decide_eq_true h3,aJ];exact jn _ (by decide)
   ·rw[decide_eq_false h3,aF,decide_eq_true (by omega:(b1:Int)<(a1:Int)),aJ];exact jn _ (by decide)
 ·rw[decide_eq_false h0,Bool.not_false,aJ];refine⟨_,?_,rfl⟩;rw[vX h0];by_cases h3:(a0:Int)<(b0:Int)
  ·rw[decide_eq_true h3,aJ];exact jn _ (by decide)
  ·rw[decide_eq_false h3,aF,decide_eq_true (by omega:(b0:Int)<(a0:Int)),aJ];exact jn _ (by decide)
end Go.TV
namespace Go.TV
open Go.AI Go.PI Go.Proofs
theorem EqO_loop{c:TC0}{L:Nat}{a b:G.O}(hl:a.pair.length=b.pair.length)(hb:a.pair.length<1000000000): ∀(l r:List G.O) (k m:Nat),a.pair.drop k=l→b.pair.drop k=r→l.length<m→
    (∀x,x∈l→∀y,c 57 (oo x y)=some (bb (decide (x=y))))→aBR c L m (k:Int) a b=some (bb (decide (l=r))):=by
 intro l;induction l with
 |nil=>
  intro r k m h1 h2 h3 _;obtain⟨m,rfl⟩: ∃m',m=m'+1:=⟨m-1,by simp at h3;omega⟩
  have e1:=bA h1;have e2:r=[]:=by rw[←h2];exact List.drop_eq_nil_of_le (by omega)
  have e3:decide ((k:Int)<(a.pair.length:Int))=false:=by simp;omega
  rw[aBR,B57x2,e3,e2];simp only[aF,decide_true];rfl
 |cons x l ih=>
  intro r k m h1 h2 h3 hc;obtain⟨m,rfl⟩: ∃m',m=m'+1:=⟨m-1,by simp at h3;omega⟩
  obtain⟨a1,a2,a3⟩:=aZ h1;cases r with
  |nil=>have:=bA h2;omega
  |cons y r=>
   obtain⟨b1,b2,b3⟩:=aZ h2;have e3:decide ((k:Int)<(a.pair.length:Int))=true:=by simp;omega
   have hxy:c 57 [yR 2 x,yR 2 y]=some [yB (decide (x=y))]:=hc x (mhE ..) y;rw[aBR,B57x2,e3,aJ,aL,aL,a1,b1,dT,dT,hxy,eX,dP (by omega)]
   by_cases e:x=y
   ·subst e;simp only[decide_true,bnT,aF];rw[ih r (k+1) m a3 b3 (by simp at h3;omega) fun z hz=>hc z (mtE _ hz)]
    simp
   ·simp only[e,decide_false,Bool.not_false,aJ];simp[e,bb]
theorem Equal_ok: ∀(a:G.O),wfO a→∀(b:G.O) (L n:Nat),osz a≤L→osz a≤n→CTp L n 57 (oo a b)=some (bb (decide (a=b))):=by
 intro a;induction a using mW with
 |h k nu d s t l ih=>
  intro hw b L n hL hn;simp only[wfO,osz]at hw hL hn;have hlen:=aAw l;obtain⟨n,rfl⟩: ∃n',n=n'+1:=⟨n-1,by omega⟩
  cases b with|mk k' nu' d' s' t' l'=>
  show CTp L (n+1) 57 [yR 2 _,yR 2 _]=_;rw[c57];simp only[F57,B57x0,J57x1,B57x1,G.O.kind,G.O.num,G.O.den,G.O.sym,G.O.text,G.O.pair,G.O.mk.injEq];by_cases e1:k=k'
  ·by_cases e2:nu=nu'
   ·by_cases e3:d=d'
    ·by_cases e4:s=s'
     ·by_cases e5:t=t'
      ·by_cases e6:(l.length:Int)=(l'.length:Int)
       ·simp only[e1,e2,e3,e4,e5,e6,decide_true,bnT,aF,true_and];have:=EqO_loop (c:=CTp L n) (L:=L) (a:=⟨k,nu,d,s,t,l⟩) (b:=⟨k',nu',d',s',t',l'⟩) (by show l.length=l'.length;omega) (by show l.length<_;omega) l l' 0 L rfl rfl (by omega) fun x hx y=>ih x hx (by have:=eW hx;simp only[wfO];omega) y L n (by have:=eW hx;omega) (by have:=eW hx;omega)
        subst e1 e2 e3 e4 e5;exact this
       ·have e7: ¬l=l':=fun h=>e6 (by rw[h])
        simp[e1,e2,e3,e4,e5,e6,e7,cnd,bb]
      ·simp[e1,e2,e3,e4,e5,cnd,bb]
     ·simp[e1,e2,e3,e4,cnd,bb]
    ·simp[e1,e2,e3,cnd,bb]
   ·simp[e1,e2,cnd,bb]
  ·simp[e1,cnd,bb]
end Go.TV
namespace Go.TV
open Go.AI Go.PI Go.Proofs
theorem EqA_loop{c:TC0}{L:Nat}{a b:List G.T}(hl:a.length=b.length)(hb:a.length<1000000000): ∀(l r:List G.T) (k m:Nat),a.drop k=l→b.drop k=r→l.length<m→
    (∀x,x∈l→∀y,c 25 (tt2 x y)=some (bb (decide (x=y))))→aBQ c L m a b (k:Int)=some (bb (decide (l=r))):=by
 intro l;induction l with
 |nil=>
  intro r k m h1 h2 h3 _;obtain⟨m,rfl⟩: ∃m',m=m'+1:=⟨m-1,by simp at h3;omega⟩
  have e1:=bA h1;have e2:r=[]:=by rw[←h2];exact List.drop_eq_nil_of_le (by omega)
  have e3:decide ((k:Int)<(a.length:Int))=false:=by simp;omega
  rw[aBQ,B58x1,e3,e2];simp only[aF,decide_true];rfl
 |cons x l ih=>
  intro r k m h1 h2 h3 hc;obtain⟨m,rfl⟩: ∃m',m=m'+1:=⟨m-1,by simp at h3;omega⟩
  obtain⟨a1,a2,a3⟩:=aZ h1;cases r with
  |nil=>have:=bA h2;omega
  |cons y r=>
   obtain⟨b1,b2,b3⟩:=aZ h2;have e3:decide ((k:Int)<(a.length:Int))=true:=by simp;omega
   have hxy:c 25 [yR 3 x,yR 3 y]=some [yB (decide (x=y))]:=hc x (mhE ..) y;rw[aBQ,B58x1,e3,aJ,aL,aL,a1,b1,dT,dT,hxy,eX,dP (by omega)]
   by_cases e:x=y
   ·subst e;simp only[decide_true,bnT,aF];rw[ih r (k+1) m a3 b3 (by simp at h3;omega) fun z hz=>hc z (mtE _ hz)]
    simp
   ·simp only[e,decide_false,Bool.not_false,aJ];simp[e,bb]
theorem EqAll_of{a b:List G.T}{L n:Nat}(hw:a.length<1000000000)(hL:a.length<L)(hx: ∀x,x∈a→∀y,CTp L n 25 (tt2 x y)=some (bb (decide (x=y)))):
    CTp L (n+1) 58 (ll2 a b)=some (bb (decide (a=b))):=by
 show CTp L (n+1) 58 [yS 3 _,yS 3 _]=_;rw[c58];simp only[F58,B58x0];by_cases e6:(a.length:Int)=(b.length:Int)
 ·simp only[e6,decide_true,bnT,aF];exact EqA_loop (c:=CTp L n) (L:=L) (by omega) hw a b 0 L rfl rfl hL hx
 ·have e7: ¬a=b:=fun h=>e6 (by rw[h])
  simp[e6,e7,cnd,bb]
theorem EqT_ok: ∀(a:G.T),wfT a→∀(b:G.T) (L n:Nat),tsz a≤L→tsz a≤n→CTp L n 25 (tt2 a b)=some (bb (decide (a=b))):=by
 intro a;induction a using mI with
 |h k nm v l ih=>
  intro hw b L n hL hn;simp only[wfT,tsz]at hw hL hn;have hlen:=mG l;obtain⟨n,rfl⟩: ∃n',n=n'+2:=⟨n-2,by omega⟩
  cases b with|mk k' nm' v' l'=>
  show CTp L (n+1+1) 25 [yR 3 _,yR 3 _]=_;rw[c25];have hv:CTp L (n+1) 57 [yR 2 v,yR 2 v']=some [yB (decide (v=v'))]:=Equal_ok v (by simp only[wfO];omega) v' L (n+1) (by omega) (by omega)
  have hl:CTp L (n+1) 58 [yS 3 l,yS 3 l']=some [yB (decide (l=l'))]:=EqAll_of (by omega) (by omega) fun x hx y=>ih x hx (by have:=dJ hx;simp only[wfT];omega) y L n (by have:=dJ hx;omega) (by have:=dJ hx;omega)
  simp only[F25,B25x0,J25x1,B25x1,G.T.kind,G.T.name,G.T.value,G.T.args,G.T.mk.injEq,hv,hl,eX];by_cases e1:k=k'
  ·by_cases e2:nm=nm'
   ·by_cases e3:v=v'
    ·simp[e1,e2,e3,cnd,bb]
    ·simp[e1,e2,e3,cnd,bb]
   ·simp[e1,e2,cnd,bb]
  ·simp[e1,cnd,bb]
end Go.TV
namespace Go.TV
open Go.AI Go.PI Go.Proofs
theorem wrapm{k:Nat}(h:k<4000000000000000000):IntKind.i64.wrap (((k+1:Nat):Int)-1)=(k:Int):=by
 unfold IntKind.wrap;simp[IntKind.bits,IntKind.signed];omega
theorem EqP_loop{c:TC0}{L:Nat}{n1:G.O→G.O→Rt}{a b:G.O}(hl:a.pair.length=b.pair.length)(hb:a.pair.length<1000000000)
    {s:Nat} (hs:a.pair.length=s+1): ∀(l:List G.O) (x:G.O) (r:List G.O) (k m:Nat),a.pair.drop k=x::l→b.pair.drop k=r→l.length<m→
    (∀x,x∈a.pair→∀y,c 53 (oo x y)=some (bb (decide (x=y))))→(∀x,x∈a.pair→∀y,n1 x y=some (bb (decide (x=y))))→
    aBU c L n1 m (s:Int) (k:Int) ((s+1:Nat):Int) a b=some (bb (decide (x::l=r))):=by
 intro l;induction l with
 |nil=>
  intro x r k m h1 h2 h3 hc hn;obtain⟨m,rfl⟩: ∃m',m=m'+1:=⟨m-1,by simp at h3;omega⟩
  obtain⟨a1,a2,a3⟩:=aZ h1;have hk:k=s:=by have:=bA a3;omega
  subst hk;cases r with
  |nil=>have:=bA h2;omega
  |cons y r=>
   obtain⟨b1,b2,b3⟩:=aZ h2;have hr:r=[]:=by rw[←b3];exact List.drop_eq_nil_of_le (by omega)
   subst hr;have e3:decide ((k:Int)<(k:Int))=false:=by simp
   rw[aBU,B53x3,e3,aF,wrapm (by omega),aL,aL,a1,b1,dT,dT,hn x (List.mem_of_getElem? a1)]
   simp
 |cons z l ih=>
  intro x r k m h1 h2 h3 hc hn;obtain⟨m,rfl⟩: ∃m',m=m'+1:=⟨m-1,by simp at h3;omega⟩
  obtain⟨a1,a2,a3⟩:=aZ h1;obtain⟨a4,a5,a6⟩:=aZ a3;cases r with
  |nil=>have:=bA h2;omega
  |cons y r=>
   obtain⟨b1,b2,b3⟩:=aZ h2;have e3:decide ((k:Int)<(s:Int))=true:=by simp;omega
   have hxy:c 53 [yR 2 x,yR 2 y]=some [yB (decide (x=y))]:=hc x (List.mem_of_getElem? a1) y;rw[aBU,B53x3,e3,aJ,aL,aL,a1,b1,dT,dT,hxy,eX,dP (by omega)]
   by_cases e:x=y
   ·subst e;simp only[decide_true,bnT,aF];rw[ih z r (k+1) m a3 b3 (by simp at h3;omega) hc hn]
    simp
   ·simp only[e,decide_false,Bool.not_false,aJ];simp[e,bb]
theorem EqW_ok: ∀(a:G.O),wfO a→∀(b:G.O) (L n m:Nat),osz a≤L→osz a≤n→osz a≤m→zI (CTp L n) L m a b=some (bb (decide (a=b))):=by
 intro a;induction a using mW with
 |h k nu d s t l ih=>
  intro hw b L n m hL hn hm;simp only[wfO,osz]at hw hL hn hm;have hlen:=aAw l;obtain⟨m,rfl⟩: ∃n',m=n'+1:=⟨m-1,by omega⟩
  obtain⟨n,rfl⟩: ∃n',n=n'+1:=⟨n-1,by omega⟩
  cases b with|mk k' nu' d' s' t' l'=>
  rw[zI];simp only[J53x2,B53x1,B53x2,G.O.kind,G.O.num,G.O.den,G.O.sym,G.O.text,G.O.pair,G.O.mk.injEq];by_cases e1:k=k'
  ·by_cases e2:nu=nu'
   ·by_cases e3:d=d'
    ·by_cases e4:s=s'
     ·by_cases e5:t=t'
      ·by_cases e6:(l.length:Int)=(l'.length:Int)
       ·simp only[e1,e2,e3,e4,e5,e6,decide_true,bnT,aF,aJ,true_and];cases l with
        |nil=>
         have:l'=[]:=List.eq_nil_of_length_eq_zero (by simp at e6;omega)
         subst this;simp[cnd,bb]
        |cons x l=>
         have e7:decide ((l'.length:Int)=0)=false:=by simp only[lcS]at e6;simp;intro h;simp[h]at e6;omega
         rw[e7,aF,←e6];have hW: ∀y,y∈x::l→∀z,zI (CTp L (n+1)) L m y z=some (bb (decide (y=z))):=fun y hy z=>
          ih y hy (by have:=eW hy;simp only[wfO];omega) z L (n+1) m (by have:=eW hy;omega) (by have:=eW hy;omega) (by have:=eW hy;omega)
         have hC: ∀y,y∈x::l→∀z,CTp L (n+1) 53 (oo y z)=some (bb (decide (y=z))):=fun y hy z=>by
          show CTp L (n+1) 53 [yR 2 _,yR 2 _]=_;rw[c53];exact ih y hy (by have:=eW hy;simp only[wfO];omega) z L n L (by have:=eW hy;omega) (by have:=eW hy;omega) (by have:=eW hy;omega)
         have hz:IntKind.i64.wrap (((x::l).length:Int)-1)=(l.length:Int):=wrapm (by simp only[lcS]at hlen;omega)
         rw[hz];have:=EqP_loop (c:=CTp L (n+1)) (L:=L) (n1:=fun x0 x1=>zI (CTp L (n+1)) L m x0 x1) (a:=⟨k,nu,d,s,t,x::l⟩) (b:=⟨k',nu',d',s',t',l'⟩) (s:=l.length) (by show(x::l).length=l'.length;omega) (by show(x::l).length<_;omega) rfl l x l' 0 L rfl rfl (by simp only[lcS]at hlen;omega) hC hW
         subst e1 e2 e3 e4 e5;exact this
       ·have e7: ¬l=l':=fun h=>e6 (by rw[h])
        simp[e1,e2,e3,e4,e5,e6,e7,cnd,bb]
      ·simp[e1,e2,e3,e4,e5,cnd,bb]
     ·simp[e1,e2,e3,e4,cnd,bb]
    ·simp[e1,e2,e3,cnd,bb]
   ·simp[e1,e2,cnd,bb]
  ·simp[e1,cnd,bb]
theorem EqOb_ok(a:G.O)(hw:wfO a)(b:G.O)(L n:Nat)(hL:osz a≤L)(hn:osz a<n):CTp L n 53 (oo a b)=some (bb (decide (a=b))):=by
 obtain⟨n,rfl⟩: ∃n',n=n'+1:=⟨n-1,by omega⟩
 show CTp L (n+1) 53 [yR 2 _,yR 2 _]=_;rw[c53];exact EqW_ok a hw b L n L hL (by omega) hL
theorem EqB_loop{c:TC0}{L:Nat}{a b:List G.T}(hl:a.length=b.length)(hb:a.length<1000000000): ∀(l r:List G.T) (k m:Nat),a.drop k=l→b.drop k=r→l.length<m→
    (∀x,x∈l→∀y,c 22 (tt2 x y)=some (bb (decide (x=y))))→aBT c L m (a.length:Int) a b (k:Int)=some (bb (decide (l=r))):=by
 intro l;induction l with
 |nil=>
  intro r k m h1 h2 h3 _;obtain⟨m,rfl⟩: ∃m',m=m'+1:=⟨m-1,by simp at h3;omega⟩
  have e1:=bA h1;have e2:r=[]:=by rw[←h2];exact List.drop_eq_nil_of_le (by omega)
  have e3:decide ((k:Int)<(a.length:Int))=false:=by simp;omega
  rw[aBT,B54x1,e3,e2];simp only[aF,decide_true];rfl
 |cons x l ih=>
  intro r k m h1 h2 h3 hc;obtain⟨m,rfl⟩: ∃m',m=m'+1:=⟨m-1,by simp at h3;omega⟩
  obtain⟨a1,a2,a3⟩:=aZ h1;cases r with
  |nil=>have:=bA h2;omega
  |cons y r=>
   obtain⟨b1,b2,b3⟩:=aZ h2;have e3:decide ((k:Int)<(a.length:Int))=true:=by simp;omega
   have hxy:c 22 [yR 3 x,yR 3 y]=some [yB (decide (x=y))]:=hc x (mhE ..) y;rw[aBT,B54x1,e3,aJ,aL,aL,a1,b1,dT,dT,hxy,eX,dP (by omega)]
   by_cases e:x=y
   ·subst e;simp only[decide_true,bnT,aF];rw[ih r (k+1) m a3 b3 (by simp at h3;omega) fun z hz=>hc z (mtE _ hz)]
    simp
   ·simp only[e,decide_false,Bool.not_false,aJ];simp[e,bb]
theorem EqF_of{a b:List G.T}{L n:Nat}(hw:a.length<1000000000)(hL:a.length<L)(hx: ∀x,x∈a→∀y,CTp L n 22 (tt2 x y)=some (bb (decide (x=y)))):
    CTp L (n+1) 54 (ll2 a b)=some (bb (decide (a=b))):=by
 show CTp L (n+1) 54 [yS 3 _,yS 3 _]=_;rw[c54];simp only[F54,B54x0];by_cases e6:(a.length:Int)=(b.length:Int)
 ·have:=EqB_loop (c:=CTp L n) (L:=L) (by omega) hw a b 0 L rfl rfl hL hx
  rw[e6]at this;simp only[e6,decide_true,bnT,aF];exact this
 ·have e7: ¬a=b:=fun h=>e6 (by rw[h])
  simp[e6,e7,cnd,bb]
theorem TEq_ok: ∀(a:G.T),wfT a→∀(b:G.T) (L n:Nat),tsz a≤L→tsz a≤n→CTp L n 22 (tt2 a b)=some (bb (decide (a=b))):=by
 intro a;induction a using mI with
 |h k nm v l ih=>
  intro hw b L n hL hn;simp only[wfT,tsz]at hw hL hn;have hlen:=mG l;obtain⟨n,rfl⟩: ∃n',n=n'+2:=⟨n-2,by omega⟩
  cases b with|mk k' nm' v' l'=>
  show CTp L (n+1+1) 22 [yR 3 _,yR 3 _]=_;rw[c22];have hv:CTp L (n+1) 53 [yR 2 v,yR 2 v']=some [yB (decide (v=v'))]:=EqOb_ok v (by simp only[wfO];omega) v' L (n+1) (by omega) (by omega)
  have hl:CTp L (n+1) 54 [yS 3 l,yS 3 l']=some [yB (decide (l=l'))]:=EqF_of (by omega) (by omega) fun x hx y=>ih x hx (by have:=dJ hx;simp only[wfT];omega) y L n (by have:=dJ hx;omega) (by have:=dJ hx;omega)
  simp only[F22,B22x0,J22x1,B22x1,G.T.kind,G.T.name,G.T.value,G.T.args,G.T.mk.injEq,hv,hl,eX];by_cases e1:k=k'
  ·by_cases e2:nm=nm'
   ·by_cases e3:v=v'
    ·simp[e1,e2,e3,cnd,bb]
    ·simp[e1,e2,e3,cnd,bb]
   ·simp[e1,e2,cnd,bb]
  ·simp[e1,cnd,bb]
end Go.TV
namespace Go.TV
open Go.AI Go.PI Go.Proofs
def OSR(x:Rt)(B:Nat):Prop:= ∃(o:G.O) (s:G.Z),x=some [yR 2 o,yR 0 s]∧osz o+aFf o≤B∧cO s
theorem aDD:badO 2 [] [] ⟨wY,[110,105,108]⟩ [] []=0:=rfl
theorem OSR.mk{o:G.O}{s:G.Z}{B:Nat}(h:osz o+aFf o≤B)(hs:cO s):OSR (some [yR 2 o,yR 0 s]) B:=⟨o,s,rfl,h,hs⟩
theorem OSR.le{x:Rt}{A B:Nat}(h:OSR x A)(hl:A≤B):OSR x B:=by obtain⟨o,s,h1,h2,h3⟩:=h;exact⟨o,s,h1,by omega,h3⟩
theorem aEx{β:Type}{a:G.O}{K:G.O×Unit→Option β}:obL (D:=U0.D) [.rc 2] (some [yR 2 a]) K=K (a,()):=rfl
theorem aCV{β:Type}{a:G.O}{b:G.Z}{K:G.O×G.Z×Unit→Option β}:obL (D:=U0.D) [.rc 2,.rc 0] (some [yR 2 a,yR 0 b]) K=K (a,b,()):=rfl
theorem obL_ys{β:Type}{a:G.Y}{K:G.Y×Unit→Option β}:obL (D:=U0.D) [.rc 1] (some [yR 1 a]) K=K (a,()):=rfl
theorem vW{α:Type}{l:List α}{lo hi:Int}(h0:0≤lo)(h1:lo≤hi)(h2:hi≤(l.length:Int)): ∃w,slc l lo hi=some w∧(w.length:Int)=hi-lo:=by
 unfold slc;have e1:decide (0≤lo)=true:=by simpa using h0
 have e2:decide (lo≤hi)=true:=by simpa using h1
 have e3:decide (hi≤(l.length:Int))=true:=by simpa using h2
 rw[e1,e2,e3];refine⟨_,rfl,?_⟩;rw[List.length_drop,List.length_take];omega
section
variable{c:TC0}(h:Lib c)
include h
theorem Ob_lo{L:Nat}{s:G.Z}(hs:cO s){a5 a1:Int}{b:G.O}(h0:0≤a5)(h9:a5≤9):OSR (aII c L a5 a1 s b) 20:=by
 have seven: ∀K:Int×G.Z×Unit→Rt,(∀r s',0≤r→r<7→cO s'→OSR (K (r,s',())) 20)→OSR (obL (D:=U0.D) [.int .i64,.rc 0] (c 4 [yI (7:Int),yR 0 s]) K) 20:=fun K hK=>by
  obtain⟨r,s',e,g1,g2,g3⟩:=h.nx s 7 hs (by omega)
  rw[e,kD];exact hK r s' g1 g2 g3
 have three: ∀K:Int×G.Z×Unit→Rt,(∀r s',0≤r→r<3→cO s'→OSR (K (r,s',())) 20)→OSR (obL (D:=U0.D) [.int .i64,.rc 0] (c 4 [yI (3:Int),yR 0 s]) K) 20:=fun K hK=>by
  obtain⟨r,s',e,g1,g2,g3⟩:=h.nx s 3 hs (by omega)
  rw[e,kD];exact hK r s' g1 g2 g3
 have obj: ∀{x:Rt} {s':G.Z},ObR x→cO s'→OSR (obL (D:=U0.D) [.rc 2] x fun(r:G.O×Unit)=>some [yR 2 r.1,yR 0 s']) 20:=fun hx hs'=>by
  obtain⟨o,e,g⟩:=hx;rw[e,aEx];exact .mk g hs'
 rw[aII,B14x2];obtain rfl|rfl|rfl|rfl|rfl|rfl|rfl|rfl|rfl|rfl:a5=0∨a5=1∨a5=2∨a5=3∨a5=4∨a5=5∨a5=6∨a5=7∨a5=8∨a5=9:=by omega
 ·exact obj h.n hs
 ·exact obj h.t hs
 ·exact seven _ fun r s' g1 g2 g3=>obj (h.i r g1 g2) g3
 ·exact seven _ fun r s' g1 g2 g3=>obj (h.i r g1 g2) g3
 ·exact obj h.q1 hs
 ·exact obj h.q2 hs
 ·refine three _ fun r s' g1 g2 g3=>?_
  obtain⟨w,e1,l1⟩:=vW (l:=([97,98,99]:List UInt8)) (hi:=3) g1 (by omega) (by decide)
  obtain⟨w2,e2,l2⟩:=vW (l:=w) (lo:=0) (hi:=1) (by omega) (by omega) (by omega)
  show OSR (ob (slc ([97,98,99]:List UInt8) r 3) fun v5=>ob (slc v5 (0:Int) (1:Int)) fun v6=>obL (D:=U0.D) [.rc 1] (c 3 [yT v6]) fun(r7:G.Y×Unit)=>obL (D:=U0.D) [.rc 2] (c 46 [yR 1 r7.1]) fun(r8:G.O×Unit)=>some [yR 2 r8.1,yR 0 s']) 20
  rw[e1,dT,e2,dT,h.u,obL_ys];exact obj (h.sy _ (okSy_u (by omega) (by omega))) g3
 ·refine three _ fun r s' g1 g2 g3=>?_
  obtain⟨w,e1,l1⟩:=vW (l:=([112,113]:List UInt8)) (lo:=0) (hi:=r) (by omega) g1 (by show r≤2;omega)
  show OSR (ob (slc ([112,113]:List UInt8) 0 r) fun v10=>obL (D:=U0.D) [.rc 2] (c 47 [yT v10]) fun(r11:G.O×Unit)=>some [yR 2 r11.1,yR 0 s']) 20
  rw[e1,dT];exact obj (h.x _ (by simp only[okX,Nat.ble_eq];omega)) g3
 ·exact obj h.i0 hs
 ·exact obj h.i1 hs
theorem Ob0{L:Nat}{s:G.Z}(hs:cO s):OSR (F14 c L 0 s) 20:=by
 rw[F14,B14x0];obtain⟨r,s',e,g1,g2,g3⟩:=h.nx s 14 hs (by omega)
 rw[e,kD];show OSR (aE1 c L (decide ((9:Int)<r)) r 0 s' _) 20;rw[aE1,B14x1];cases e2:decide ((9:Int)<r)with
 |true=>
  simp only[djE]at e2;obtain⟨m,rfl⟩: ∃m:Nat,r=((m+8:Nat):Int):=⟨(r-8).toNat,by omega⟩
  rw[aJ,show((m+8:Nat):Int)-8=(m:Int) by omega,wrapn (by omega)]
  exact Ob_lo h g3 (by omega) (by omega)
 |false=>
  simp only[dfN]at e2;exact Ob_lo h g3 g1 (by omega)
theorem Ol_loop{L:Nat}(h0: ∀s,cO s→OSR (c 14 [yI (0:Int),yR 0 s]) 20){b:G.O}{r:Nat}(hr:r≤3):
    ∀(j k m:Nat) (a6:List G.O) (s:G.Z),r=k+j→a6.length=k→mU a6≤21*k→j<m→cO s→OSR (aBY c L m (r:Int) 1 (k:Int) a6 s b) 200:=by
 intro j;induction j with
 |zero=>
  intro k m a6 s h1 h2 h3 h4 hs;obtain⟨m,rfl⟩: ∃m',m=m'+1:=⟨m-1,by omega⟩
  have e3:decide ((k:Int)<(r:Int))=false:=by simp;omega
  rw[aBY,B14x5,e3,aF]
  match a6,h2 with
  |[],_=>rw[h.l0,aEx];exact .mk (by simp[niO,osz,mU,aDD,zB]) hs
  |[a],h2=>rw[h.l1,aEx];exact .mk (by simp[mU]at h3;simp[niO,cnO,osz,mU,aDD,aDE,zB,aDF];simp only[lcS,lnN]at h2;omega) hs
  |[a,d],h2=>rw[h.l2,aEx];exact .mk (by simp[mU]at h3;simp[niO,cnO,osz,mU,aDD,aDE,zB,aDF];simp only[lcS,lnN]at h2;omega) hs
  |[a,d,e],h2=>rw[h.l3,aEx];exact .mk (by simp[mU]at h3;simp[niO,cnO,osz,mU,aDD,aDE,zB,aDF];simp only[lcS,lnN]at h2;omega) hs
  |_::_::_::_::l,h2=>simp at h2;omega
 |succ j ih=>
  intro k m a6 s h1 h2 h3 h4 hs;obtain⟨m,rfl⟩: ∃m',m=m'+1:=⟨m-1,by omega⟩
  have e3:decide ((k:Int)<(r:Int))=true:=by simp;omega
  rw[aBY,B14x5,e3,aJ];obtain⟨o,s',e,g1,g2⟩:=h0 s hs;show OSR (obL (D:=U0.D) [.rc 2,.rc 0] (c 14 [yI (0:Int),yR 0 s]) _) 200;rw[e,aCV];have e4:Nat.ble ((a6.length+([o]:List G.O).length)*112) 1073741824=true:=by
   rw[Nat.ble_eq];simp only[lcS,lnN];omega
  simp only[e4,aBB];rw[dP (by omega)]
  have hz: ∀l:List G.O,mU (l++ [o])=mU l+(osz o+aFf o)+1:=by
   intro l;induction l with
   |nil=>simp[mU]
   |cons x l ih=>simp only[cnA,mU,ih];omega
  exact ih (k+1) m (a6++ [o]) s' (by omega) (by simp;omega) (by rw[hz];omega) (by omega) g2
theorem Ob1{L:Nat}(hL:10≤L)(h0: ∀s,cO s→OSR (c 14 [yI (0:Int),yR 0 s]) 20){s:G.Z}(hs:cO s):OSR (F14 c L 1 s) 200:=by
 rw[F14,B14x0];obtain⟨r,s',e,g1,g2,g3⟩:=h.nx s 14 hs (by omega)
 rw[e,kD];show OSR (aE1 c L false r 1 s' _) 200;rw[aE1,B14x1,aF];by_cases h9:r≤9
 ·exact(Ob_lo h g3 g1 h9).le (by omega)
 have lst: ∀b,OSR (aE0 c L true 1 s' b) 200:=fun b=>by
  rw[aE0,B14x4,aJ];obtain⟨q,s2,e,k1,k2,k3⟩:=h.nx s' 4 g3 (by omega)
  rw[e,kD];obtain⟨m,rfl⟩: ∃m:Nat,q=(m:Int):=⟨q.toNat,by omega⟩
  exact Ol_loop h h0 (by omega) m 0 L [] s2 (by omega) rfl (Nat.zero_le _) (by omega) k3
 rw[aII,B14x2];obtain rfl|rfl|rfl|rfl:r=10∨r=11∨r=12∨r=13:=by omega
 ·exact lst _
 ·exact lst _
 ·exact lst _
 ·have pr: ∀b,OSR (aE0 c L false 1 s' b) 200:=fun b=>by
   rw[aE0,B14x4,aF];obtain⟨o,s2,e,k1,k2⟩:=h0 s' g3;show OSR (obL (D:=U0.D) [.rc 2,.rc 0] (c 14 [yI (0:Int),yR 0 s']) _) 200;rw[e,aCV];obtain⟨o2,s3,e,k3,k4⟩:=h0 s2 k2;show OSR (obL (D:=U0.D) [.rc 2,.rc 0] (c 14 [yI (0:Int),yR 0 s2]) _) 200;rw[e,aCV,h.cn,aEx];exact .mk (by simp[cnO,osz,mU,aDE,aDF];omega) k4
  exact pr zrO
end
end Go.TV
namespace Go.TV
open Go.AI Go.PI Go.Proofs
def TSR(x:Rt)(B:Nat):Prop:= ∃(t:G.T) (s:G.Z),x=some [yR 3 t,yR 0 s]∧tsz t≤B∧cO s
theorem TSR.mk{o:G.T}{s:G.Z}{B:Nat}(h:tsz o≤B)(hs:cO s):TSR (some [yR 3 o,yR 0 s]) B:=⟨o,s,rfl,h,hs⟩
theorem TSR.le{x:Rt}{A B:Nat}(h:TSR x A)(hl:A≤B):TSR x B:=by obtain⟨o,s,h1,h2,h3⟩:=h;exact⟨o,s,h1,by omega,h3⟩
theorem lN{β:Type}{a:G.T}{K:G.T×Unit→Option β}:obL (D:=U0.D) [.rc 3] (some [yR 3 a]) K=K (a,()):=rfl
theorem aGo{β:Type}{a:G.T}{b:G.Z}{K:G.T×G.Z×Unit→Option β}:obL (D:=U0.D) [.rc 3,.rc 0] (some [yR 3 a,yR 0 b]) K=K (a,b,()):=rfl
theorem obL_ss{β:Type}{a:List (List UInt8)}{K:List (List UInt8)×Unit→Option β}:obL (D:=U0.D) [.sl .str] (some [⟨.sl .str,a⟩]) K=K (a,()):=rfl
theorem aCU{β:Type}{a:G.Y}{K:G.Y×Unit→Option β}:obL (D:=U0.D) [.rc 1] (some [yR 1 a]) K=K (a,()):=rfl
theorem badT_v(n:G.Y)(h:okV n=true):badT 1 n zrO []=0:=by
 unfold badT okTm;rw[h];rfl
def wtA(f:G.Y)(l:List G.T):Nat:=bif aAy f&&Nat.ble l.length 8 then 0 else 1000000000
theorem wtA_ok{f:G.Y}{l:List G.T}(h:aAy f=true)(hl:l.length≤8):wtA f l=0:=by
 unfold wtA;rw[h,Nat.ble_eq_true_of_le hl];rfl
theorem badT_a(n:G.Y)(l:List G.T):badT 3 n zrO l=wtA n l:=by
 unfold badT okTm wtA;cases aAy n<;>cases Nat.ble l.length 8<;>rfl
theorem badT_c(o:G.O):badT 2 ⟨[],[]⟩ o []=aFf o:=by
 unfold badT okTm aFf;cases decide (o.kind=0)<;>rfl
theorem aFg:osz zrO=2:=rfl
theorem tV_sz(w:List UInt8)(h1:1≤w.length)(h2:w.length≤20):tsz (tV w)=6:=by
 have h:badT 1 ⟨fZ,w⟩ zrO []=0:=badT_v ⟨fZ,w⟩ (okV_u h1 h2);simp only[tV,tsz,mH,h,aFg]
theorem tA_sz(f:G.Y)(l:List G.T):tsz (tA f l)=6+mH l+wtA f l:=by simp only[tA,tsz,badT_a,aFg]
theorem tC_sz(o:G.O):tsz (tC o)=4+(osz o+aFf o):=by simp only[tC,tsz,mH,badT_c];omega
theorem tsz'_app(l:List G.T)(t:G.T):mH (l++ [t])=mH l+tsz t+1:=by
 induction l with
 |nil=>simp[mH]
 |cons x l ih=>simp only[cnA,mH,ih];omega
section
variable{c:TC0}(h:Lib c)
include h
theorem Va_ok{L:Nat}{s:G.Z}(hs:cO s):TSR (F13 c L s) 6:=by
 rw[F13,B13x0];obtain⟨r,s',e,g1,g2,g3⟩:=h.nx s 3 hs (by omega)
 rw[e,kD];obtain⟨w,e1,l1⟩:=vW (l:=([120,121,122]:List UInt8)) (hi:=3) g1 (by omega) (by decide)
 obtain⟨w2,e2,l2⟩:=vW (l:=w) (lo:=0) (hi:=1) (by omega) (by omega) (by omega)
 show TSR (ob (slc ([120,121,122]:List UInt8) r 3) fun v1=>ob (slc v1 (0:Int) (1:Int)) fun v2=>obL (D:=U0.D) [.rc 3] (c 8 [yT v2]) fun(r3:G.T×Unit)=>some [yR 3 r3.1,yR 0 s']) 6
 rw[e1,dT,e2,dT,h.v,lN];exact .mk (by rw[tV_sz _ (by omega) (by omega)];omega) g3
theorem Ta_loop{L:Nat}{E:List G.E}{d:Int}{B:Nat}(hB:B<1000000)(hr: ∀s,cO s→TSR (c 5 [yS 16 E,yI (IntKind.i64.wrap (d-1)),yR 0 s]) B){f:G.Y}(hf:aAy f=true){b:G.T}{r:Nat}(h3:r≤3):
    ∀(j k m:Nat) (a:List G.T) (s:G.Z),r=k+j→a.length=k→mH a≤(B+1)*k→j<m→cO s→TSR (W5x4 c L m (r:Int) E d (k:Int) a s f b) (6+3*(B+1)):=by
 intro j;induction j with
 |zero=>
  intro k m a s h1 h2 h4 h5 hs;obtain⟨m,rfl⟩: ∃m',m=m'+1:=⟨m-1,by omega⟩
  have e3:decide ((k:Int)<(r:Int))=false:=by simp;omega
  rw[W5x4,B5x4,e3,aF,h.a,lN];refine .mk ?_ hs;have:(B+1)*k≤(B+1)*3:=Nat.mul_le_mul_left _ (by omega)
  rw[tA_sz,wtA_ok hf (by omega)];omega
 |succ j ih=>
  intro k m a s h1 h2 h4 h5 hs;obtain⟨m,rfl⟩: ∃m',m=m'+1:=⟨m-1,by omega⟩
  have e3:decide ((k:Int)<(r:Int))=true:=by simp;omega
  obtain⟨t,s',e,g1,g2⟩:=hr s hs;rw[W5x4,B5x4,e3,aJ,e,aGo];have e4:Nat.ble ((a.length+([t]:List G.T).length)*176) 1073741824=true:=by
   rw[Nat.ble_eq];simp only[lcS,lnN];omega
  simp only[e4,aBB];rw[dP (by omega)]
  refine ih (k+1) m (a++ [t]) s' (by omega) (by simp;omega) ?_ (by omega) g2
  rw[tsz'_app,Nat.mul_add];omega
theorem Te_ok{L:Nat}(hL:10≤L){E:List G.E}{d:Int}{B:Nat}(hB:B<1000000)(hB2:204≤B)(hv: ∀s,cO s→TSR (c 13 [yR 0 s]) 6)(ho: ∀s,cO s→OSR (c 14 [yI (1:Int),yR 0 s]) 200)
    (ha: ∀f:G.Y,ArR (c 19 [yS 16 E,yR 1 f])) (hr:1≤d→∀s,cO s→TSR (c 5 [yS 16 E,yI (IntKind.i64.wrap (d-1)),yR 0 s]) B) {s:G.Z} (hs:cO s):
    TSR (F5 c L E d s) (bif decide (d<1)then 204 else 6+3*(B+1)):=by
 have lo: ∀(a7:Int) (s':G.Z) (b:G.T),a7≤3→cO s'→TSR (J5x2 c L a7 E d s' b) 204:=fun a7 s' b g1 g2=>by
  rw[J5x2,B5x2];cases e1:decide (a7<(3:Int))with
  |true=>
   obtain⟨t,s2,e,q1,q2⟩:=hv s' g2;rw[aJ,e,aGo];exact .mk (by show tsz t≤204;omega) q2
  |false=>
   simp only[dfN]at e1;have e2:decide (a7=(3:Int))=true:=by simp;omega
   obtain⟨o,s2,e,q1,q2⟩:=ho s' g2;rw[aF,e2,aJ,e,aCV,h.k,lN];exact .mk (by show tsz (tC o)≤204;rw[tC_sz];omega) q2
 obtain⟨r,s',e,g1,g2,g3⟩:=h.nx s 12 hs (by omega)
 rw[F5,B5x0,e,kD];cases e1:decide (d<(1:Int))with
 |true=>
  rw[aJ,cdt];show TSR (J5x1 c L (decide ((3:Int)<r)) r E d s' _) _;rw[J5x1,B5x1];cases e2:decide ((3:Int)<r)with
  |true=>
   rw[aJ,show decide ((4:Int)=0)=false by decide]
   simp only[Bool.not_false,aBB];exact lo _ _ _ (by have:=Int.tmod_lt_of_pos r (b:=4) (by omega);omega) g3
  |false=>
   simp only[dfN]at e2;exact lo _ _ _ (by omega) g3
 |false=>
  rw[aF,cdf];simp only[dfN]at e1;show TSR (J5x1 c L false r E d s' _) _;rw[J5x1,B5x1,aF];by_cases h4:r≤3
  ·exact(lo _ _ _ h4 g3).le (by omega)
  have jn: ∀(s2:G.Z) (f:G.Y) (b:G.T),aAy f=true→cO s2→TSR (J5x3 c L E d s2 f b) (6+3*(B+1)):=fun s2 f b hf k1=>by
   obtain⟨k,b2,e,k2⟩:=ha f;rw[J5x3,B5x3,e,aCW];exact Ta_loop h hB (hr (by omega)) hf k2 k 0 L [] s2 (by omega) rfl (Nat.zero_le _) (by omega) k1
  have e2:decide (r<(3:Int))=false:=by simp;omega
  have e3:decide (r=(3:Int))=false:=by simp;omega
  obtain⟨lh,eh,hh,nh⟩:=h.hd;obtain⟨lw,ew,hw,nw⟩:=h.ow;obtain⟨q,s2,e4,k1,k2,k3⟩:=h.nx s' 4 g3 (by omega)
  rw[J5x2,B5x2,e2,aF,e3,aF,eh,obL_ss,ew,obL_ss,e4,kD];cases e5:decide (q<(3:Int))with
  |true=>
   obtain⟨i,s3,e6,k4,k5,k6⟩:=h.nx s2 (lh.length:Int) k3 (by omega)
   obtain⟨m,rfl⟩: ∃m:Nat,i=(m:Int):=⟨i.toNat,by omega⟩
   have hm:lh[m]?=some (lh[m]'(by omega)):=geG _
   simp only[aJ];rw[e6,kD];simp only[aL,hm,dT];rw[h.s,aCU];have hz:=nmL_at nh (List.getElem_mem (l:=lh) (n:=m) (by omega))
   exact jn _ _ _ (okSy_l hz.1 hz.2) k6
  |false=>
   obtain⟨i,s3,e6,k4,k5,k6⟩:=h.nx s2 (lw.length:Int) k3 (by omega)
   obtain⟨m,rfl⟩: ∃m:Nat,i=(m:Int):=⟨i.toNat,by omega⟩
   have hm:lw[m]?=some (lw[m]'(by omega)):=geG _
   simp only[aF];rw[e6,kD];simp only[aL,hm,dT];rw[h.u,aCU];have hz:=nmL_at nw (List.getElem_mem (l:=lw) (n:=m) (by omega))
   exact jn _ _ _ (okSy_u hz.1 hz.2) k6
end
end Go.TV
namespace Go.TV
open Go.AI Go.PI Go.Proofs
set_option maxRecDepth 20000
def vrT(v:G.Y):G.T:=⟨1,v,zrO,[]⟩
def asg:List G.I→G.Y→G.T
 |[],v=>vrT v
 |x::l,v=>bif decide (x.var=v)then x.term else asg l v
theorem vP{v:G.Y}{L n:Nat}:CTp L (n+1) 52 [⟨.rc 1,v⟩]=some [⟨.rc 3,vrT v⟩]:=by
 rw[c52,F52,B52x0];rfl
theorem vR{v:G.Y}{L n:Nat}:CTp L (n+1) 27 [⟨.rc 1,v⟩]=some [⟨.rc 3,vrT v⟩]:=by
 rw[c27,F27,B27x0];rfl
theorem asP_loop{L n:Nat}{a:List G.I}{v:G.Y}{z:G.T}(hb:a.length<1000000000): ∀(l:List G.I) (i m:Nat),a.drop i=l→l.length<m→
    aBX (CTp L (n+1)) L m (a.length:Int) a (i:Int) v z=some [⟨.rc 3,asg l v⟩]:=by
 intro l;induction l with
 |nil=>
  intro i m h1 h3;obtain⟨m,rfl⟩: ∃q,m=q+1:=⟨m-1,by simp at h3;omega⟩
  have e1:=bA h1;have e3:decide ((i:Int)<(a.length:Int))=false:=by simp;omega
  rw[aBX,B21x1,e3,aF,vP,lN];rfl
 |cons x l ih=>
  intro i m h1 h3;obtain⟨m,rfl⟩: ∃q,m=q+1:=⟨m-1,by simp at h3;omega⟩
  obtain⟨a1,a2,a3⟩:=aZ h1;have e3:decide ((i:Int)<(a.length:Int))=true:=by simp;omega
  rw[aBX,B21x1,e3,aJ,aL,a1,dT,dP (by omega)]
  unfold asg;cases decide (x.var=v)with
  |true=>rfl
  |false=>exact ih (i+1) m a3 (by simp at h3;omega)
theorem asR_loop{L n:Nat}{a:List G.I}{v:G.Y}{z:G.T}(hb:a.length<1000000000): ∀(l:List G.I) (i m:Nat),a.drop i=l→l.length<m→
    aBW (CTp L (n+1)) L m a (i:Int) v z=some [⟨.rc 3,asg l v⟩]:=by
 intro l;induction l with
 |nil=>
  intro i m h1 h3;obtain⟨m,rfl⟩: ∃q,m=q+1:=⟨m-1,by simp at h3;omega⟩
  have e1:=bA h1;have e3:decide ((i:Int)<(a.length:Int))=false:=by simp;omega
  rw[aBW,B24x1,e3,aF,vR,lN];rfl
 |cons x l ih=>
  intro i m h1 h3;obtain⟨m,rfl⟩: ∃q,m=q+1:=⟨m-1,by simp at h3;omega⟩
  obtain⟨a1,a2,a3⟩:=aZ h1;have e3:decide ((i:Int)<(a.length:Int))=true:=by simp;omega
  rw[aBW,B24x1,e3,aJ,aL,a1,dT,dP (by omega)]
  unfold asg;cases decide (x.var=v)with
  |true=>rfl
  |false=>exact ih (i+1) m a3 (by simp at h3;omega)
theorem asP{a:List G.I}{v:G.Y}{L n:Nat}(hL:a.length<L)(hb:a.length<1000000000):CTp L (n+2) 21 [⟨.sl (.rc 6),a⟩,⟨.rc 1,v⟩]=some [⟨.rc 3,asg a v⟩]:=by
 rw[show n+2=n+1+1 from rfl,c21,F21,B21x0]
 exact asP_loop hb a 0 L rfl hL
theorem asR{a:List G.I}{v:G.Y}{L n:Nat}(hL:a.length<L)(hb:a.length<1000000000):CTp L (n+2) 24 [⟨.sl (.rc 6),a⟩,⟨.rc 1,v⟩]=some [⟨.rc 3,asg a v⟩]:=by
 rw[show n+2=n+1+1 from rfl,c24,F24,B24x0]
 exact asR_loop hb a 0 L rfl hL
theorem aHL{B:Nat}(hB:6≤B){v:G.Y}(hv:okV v=true): ∀{a:List G.I},(∀x∈a,tsz x.term≤B)→tsz (asg a v)≤B
 |[],_=>by
  have h1:tsz (vrT v)=6:=by
   simp only[vrT,tsz,mH,aFg,badT_v v hv]
  unfold asg;rw[h1];exact hB
 |x::l,h=>by
  unfold asg;cases decide (x.var=v)with
  |true=>exact h x (mhE ..)
  |false=>exact aHL hB hv fun y hy=>h y (mtE _ hy)
def okSt(r:G.U):Prop:=r.stops.length≤6∧∀p∈r.stops,okV p.a0=true∧okV p.a1=true
def okSb(s:List G.I):Prop:=s.length≤4∧∀x∈s,tsz x.term≤2000
theorem pm_loop{L n k:Nat}(hL:10000≤L)(hn:10000≤n)(hk:10000≤k){r:G.U}{s:List G.I}(hr:okSt r)(hs:okSb s): ∀(l:List G.Q) (i m m':Nat),r.stops.drop i=l→l.length<m→l.length<m'→(∀p∈l,okV p.a0=true∧okV p.a1=true)→
    ∃b:Bool,W6x1 (CTp (L+7000) n) (L+7000) m (r.stops.length:Int) r.stops s (i:Int)=some [⟨.bool,b⟩]∧W7x1 (CTp (L+7000) k) (L+7000) m' s (i:Int) r=some [⟨.bool,b⟩]:=by
 intro l;induction l with
 |nil=>
  intro i m m' h1 h3 h4 _;obtain⟨m,rfl⟩: ∃q,m=q+1:=⟨m-1,by simp at h3;omega⟩
  obtain⟨m',rfl⟩: ∃q,m'=q+1:=⟨m'-1,by simp at h4;omega⟩
  have e1:=bA h1;have e3:decide ((i:Int)<(r.stops.length:Int))=false:=by simp;omega
  refine⟨false,?_,?_⟩
  ·rw[W6x1,B6x1,e3,aF]
  ·rw[W7x1,B7x1,e3,aF]
 |cons p l ih=>
  intro i m m' h1 h3 h4 hp;obtain⟨m,rfl⟩: ∃q,m=q+1:=⟨m-1,by simp at h3;omega⟩
  obtain⟨m',rfl⟩: ∃q,m'=q+1:=⟨m'-1,by simp at h4;omega⟩
  obtain⟨a1,a2,a3⟩:=aZ h1;obtain⟨hr1,hr2⟩:=hr;obtain⟨hs1,hs2⟩:=hs;obtain⟨v1,v2⟩:=hp p (mhE ..);have e3:decide ((i:Int)<(r.stops.length:Int))=true:=by simp;omega
  have z1:=aHL (B:=2000) (by omega) v1 hs2
  have z2:=aHL (B:=2000) (by omega) v2 hs2
  obtain⟨q,g1,g2⟩:=cmp_ok (a:=asg s p.a1) (b:=asg s p.a0) (L:=L) (n:=n) (k:=k) (by omega) (by omega) (by omega) (by omega) (by omega)
  have t1:CTp (L+7000) n 22 [⟨.rc 3,asg s p.a0⟩,⟨.rc 3,asg s p.a1⟩]=some [⟨.bool,decide (asg s p.a0=asg s p.a1)⟩]:=TEq_ok _ (by simp only[wfT];omega) _ _ _ (by omega) (by omega)
  have t2:CTp (L+7000) k 25 [⟨.rc 3,asg s p.a0⟩,⟨.rc 3,asg s p.a1⟩]=some [⟨.bool,decide (asg s p.a0=asg s p.a1)⟩]:=EqT_ok _ (by simp only[wfT];omega) _ _ _ (by omega) (by omega)
  obtain⟨n2,hn2⟩: ∃q,n=q+2:=⟨n-2,by omega⟩
  obtain⟨k2,hk2⟩: ∃q,k=q+2:=⟨k-2,by omega⟩
  have p0: ∀v,CTp (L+7000) n 21 [⟨.sl (.rc 6),s⟩,⟨.rc 1,v⟩]=some [⟨.rc 3,asg s v⟩]:=fun v=>by rw[hn2];exact asP (by omega) (by omega)
  have p1: ∀v,CTp (L+7000) k 24 [⟨.sl (.rc 6),s⟩,⟨.rc 1,v⟩]=some [⟨.rc 3,asg s v⟩]:=fun v=>by rw[hk2];exact asR (by omega) (by omega)
  rw[W6x1,B6x1,e3,aJ,aL,a1,dT,p0 p.a0,lN,p0 p.a1,lN,t1,eX,W7x1,B7x1,e3,aJ,aL,a1,dT,dT,p1 p.a0,lN,p1 p.a1,lN,t2,eX,dP (by omega)]
  cases decide (asg s p.a0=asg s p.a1)with
  |true=>exact ih (i+1) m m' a3 (by simp at h3;omega) (by simp at h4;omega) fun x hx=>hp x (mtE _ hx)
  |false=>
   simp only[Bool.not_false,aJ];rw[g1,bU,g2,bU];exact⟨_,rfl,rfl⟩
theorem pm_ok{L n:Nat}(hL:10000≤L)(hn:10001≤n){r:G.U}{s:List G.I}(hr:okSt r)(hs:okSb s):
    ∃b:Bool,CTp (L+7000) n 6 [⟨.rc 5,r⟩,⟨.sl (.rc 6),s⟩]=some [⟨.bool,b⟩]∧CTp (L+7000) n 7 [⟨.rc 5,r⟩,⟨.sl (.rc 6),s⟩]=some [⟨.bool,b⟩]:=by
 obtain⟨n,rfl⟩: ∃q,n=q+1:=⟨n-1,by omega⟩
 rw[c6,F6,B6x0,c7,F7,B7x0];obtain⟨b,h1,h2⟩:=pm_loop hL (n:=n) (k:=n) (by omega) (by omega) hr hs r.stops 0 (L+7000) (L+7000) rfl (by have:=hr.1;omega) (by have:=hr.1;omega) hr.2
 cases decide ((r.stops.length:Int)=0)with
 |true=>exact⟨true,rfl,rfl⟩
 |false=>exact⟨b,h1,h2⟩
end Go.TV
namespace Go.TV
open Go.AI Go.PI Go.Proofs
inductive It where
 |op
 |cl
 |wd (nu:Bool) (w:List UInt8)
def It.by':It→List UInt8
 | .op=>[40]
 | .cl=>[41]
 | .wd _ w=>w
def It.tk(p:Nat):It→G.K
 | .op=>⟨1,(p:Int),[],[],[]⟩
 | .cl=>⟨2,(p:Int),[],[],[]⟩
 | .wd nu w=>wtk nu (p:Int) w
abbrev Its:=List (List UInt8×It)
def aAe:Its→List UInt8→List UInt8
 |[],tl=>tl
 |(b,t)::l,tl=>b++(t.by'++aAe l tl)
def tks:Nat→Its→List G.K
 |_,[]=>[]
 |p,(b,t)::l=>t.tk (p+b.length)::tks (p+b.length+t.by'.length) l
def isN:List UInt8→Bool
 |[48]=>true
 |[49]=>true
 |[45,49]=>true
 |_=>false
def okW(nu:Bool):List UInt8→Bool
 |[]=>false
 |x::l=>(x::l).all (fun x=>csI (u8 x))&& !decide (u8 x=35)&&(bif nu then isN (x::l)else !decide (u8 x=45)&&(decide (u8 x<48)||decide (57<u8 x))&& !decide (x::l=[46])&&Nat.ble (x::l).length 40)
def stp:List UInt8→Bool
 |[]=>true
 |y::_=> !csI (u8 y)&& !decide (u8 y=58)
def okT(r:List UInt8):It→Bool
 | .wd nu w=>okW nu w&&stp r
 |_=>true
def okL:Its→List UInt8→Bool
 |[],tl=>tl.all fun x=>blI (u8 x)
 |(b,t)::l,tl=>(b.all fun x=>blI (u8 x))&&okT (aAe l tl) t&&okL l tl
theorem stp_h{r:List UInt8}(h:stp r=true): ∀y,r.head?=some y→csI (u8 y)=false∧u8 y≠58:=by
 intro y hy;cases r with
 |nil=>cases hy
 |cons z r=>
  simp only[List.head?_cons,ojE]at hy;subst hy;simpa [stp]using h
theorem bl_cs{x:Int}(h:csI x=true):blI x=false:=by
 simp only[csI,bjE,djE]at h;simp only[blI,Bool.or_eq_false_iff,dfN];omega
theorem okT_h{t:It}{r:List UInt8}(h:okT r t=true): ∀y,(t.by'++r).head?=some y→blI (u8 y)=false∧u8 y≠59∧u8 y≠35:=by
 intro y hy;cases t with
 |op=>simp[It.by']at hy;subst hy;decide
 |cl=>simp[It.by']at hy;subst hy;decide
 |wd nu w=>
  cases w with
  |nil=>simp[okT,okW]at h
  |cons x l=>
   simp[It.by']at hy;subst hy
   simp only[okT,okW,bjE,alC,Bool.not_eq_true',dfN]at h;exact⟨bl_cs h.1.1.1.1,(aHy h.1.1.1.1).2.2.2.2.1,h.1.1.2⟩
theorem One_ok{s r:List UInt8}{t:It}{k L n:Nat}(hN: ∀w,isN w=true→NumW (CTp L (n+2)) w)(hb:s.length<1000000000)(hL:s.length<L)(h:s.drop k=t.by'++r)(ht:okT r t=true):
    CTp L (n+3) 105 [yT s,yI (k:Int)]=some [yR 22 (t.tk k),yI ((k+t.by'.length:Nat):Int),yR 20 ⟨0,0⟩]:=by
 cases t with
 |op=>exact On_op hb h
 |cl=>exact On_cl hb h
 |wd nu w=>
  cases w with
  |nil=>simp[okT,okW]at ht
  |cons x l=>
   simp only[okT,okW,bjE,Bool.not_eq_true',dfN]at ht;obtain⟨⟨⟨h1,h2⟩,h3⟩,h4⟩:=ht;refine On_w hb hL h (by simp) (fun y hy=>List.all_eq_true.1 h1 y hy) (stp_h h4) ?_
   cases nu with
   |true=>exact .inl ⟨rfl,hN _ h3⟩
   |false=>
    simp only[cdf,bjE,Bool.or_eq_true,Bool.not_eq_true',dfN,djE]at h3;exact .inr ⟨rfl,x,l,rfl,h3.1.1.1,h3.1.1.2,h3.1.2,Nat.le_of_ble_eq_true h3.2⟩
theorem Tk_loop{s tl:List UInt8}{L n:Nat}{er:G.X}(hN: ∀w,isN w=true→NumW (CTp L (n+2)) w)(hb:s.length<6001)(hL:s.length<L):
    ∀(l:Its) (k m:Nat) (acc:List G.K),s.drop k=aAe l tl→k≤s.length→okL l tl=true→l.length<m→acc.length≤k→aBM (CTp L (n+3)) L m (k:Int) s acc er=some [yS 22 (acc++tks k l++ [⟨0,(s.length:Int),[],[],[]⟩]),yR 20 ⟨0,0⟩]:=by
 intro l;induction l with
 |nil=>
  intro k m acc h1 h2 h3 h4 h5;obtain⟨m,rfl⟩: ∃m',m=m'+1:=⟨m-1,by simp at h4;omega⟩
  have hl:=congrArg List.length h1;simp[aAe]at hl;have hsk:=Sk_ok (s:=s) (w:=tl) (r:=[]) (k:=k) (L:=L) (n:=n+1) (by omega) hL (by simpa [aAe]using h1) (fun x hx=>List.all_eq_true.1 h3 x hx) (by simp)
  have e1:((k+tl.length:Nat):Int)=(s.length:Int):=by omega
  rw[aBM,B81x1,hsk,aCW];simp only[bnT,aF];rw[e1];simp only[Int.le_refl,decide_true,aJ];have e2:Nat.ble ((acc.length+([⟨0,(s.length:Int),[],[],[]⟩]:List G.K).length)*64) 1073741824=true:=by
   rw[Nat.ble_eq];simp only[lcS,lnN];omega
  rw[e2,aBB,show tks k []=[] from rfl,apN];rfl
 |cons bt l ih=>
  obtain⟨b,t⟩:=bt;intro k m acc h1 h2 h3 h4 h5;obtain⟨m,rfl⟩: ∃m',m=m'+1:=⟨m-1,by simp at h4;omega⟩
  simp only[okL,bjE]at h3;obtain⟨⟨h6,h7⟩,h8⟩:=h3;have hl:=congrArg List.length h1;simp[aAe]at hl;have ht:1≤t.by'.length:=by
   cases t with
   |op=>exact nlR _
   |cl=>exact nlR _
   |wd nu w=>cases w with
    |nil=>simp[okT,okW]at h7
    |cons x l=>simp[It.by']
  have hsk:=Sk_ok (s:=s) (w:=b) (r:=t.by'++aAe l tl) (k:=k) (L:=L) (n:=n+1) (by omega) hL h1 (fun x hx=>List.all_eq_true.1 h6 x hx) (okT_h h7)
  have hd:s.drop (k+b.length)=t.by'++aAe l tl:=by rw[←List.drop_drop,h1];simp[aAe]
  have ho:=One_ok (n:=n) hN (by omega) hL hd h7
  have hd2:s.drop (k+b.length+t.by'.length)=aAe l tl:=by rw[←List.drop_drop,hd];simp
  rw[aBM,B81x1,hsk,aCW];simp only[bnT,aF];have e1:decide ((s.length:Int)≤((k+b.length:Nat):Int))=false:=by simp only[dfN];omega
  rw[e1,aF,ho,obL_on];simp only[decide_true,bnT,aF];have e2:Nat.ble ((acc.length+([t.tk (k+b.length)]:List G.K).length)*64) 1073741824=true:=by
   rw[Nat.ble_eq];simp only[lcS,lnN];omega
  rw[e2,aBB,ih (k+b.length+t.by'.length) m _ hd2 (by omega) h8 (by simp at h4;omega) (by simp;omega)]
  simp[tks]
theorem Tok_ok{l:Its}{tl:List UInt8}{L n:Nat}(hN: ∀w,isN w=true→NumW (CTp L (n+2)) w)(hs:(aAe l tl).length<6001)(hL:(aAe l tl).length<L)(hl:l.length<L)(ho:okL l tl=true):
    CTp L (n+4) 81 [yT (aAe l tl)]=some [yS 22 (tks 0 l++ [⟨0,((aAe l tl).length:Int),[],[],[]⟩]),yR 20 ⟨0,0⟩]:=by
 show CTp L (n+3+1) 81 _=_;have e1:decide ((6000:Int)<((aAe l tl).length:Int))=false:=by simp only[dfN];omega
 rw[c81,F81,B81x0,e1,aF];exact Tk_loop (tl:=tl) (er:=⟨0,0⟩) hN hs hL l 0 L [] rfl (Nat.zero_le _) ho hl (nlR _)
end Go.TV
namespace Go.TV
open Go.AI Go.PI Go.Proofs
set_option maxRecDepth 20000
def rH:List UInt8:=[108,105,115,112]
def oSy(s:List UInt8):G.O:=⟨2,[],[],⟨rH,s⟩,[],[]⟩
def oNu(s:List UInt8):G.O:=⟨1,s,[49],⟨[],[]⟩,[],[]⟩
def ol:List G.O→G.O
 |[]=>oSy [110,105,108]
 |x::l=>⟨4,[],[],⟨[],[]⟩,[],[x,ol l]⟩
def tkP(p:Int):G.K:=⟨1,p,[],[],[]⟩
def tkC(p:Int):G.K:=⟨2,p,[],[],[]⟩
def y0a:List UInt8:=[43]
def w0a:G.O:=oSy y0a
def y1a:List UInt8:=[45,49]
def w1a:G.O:=oNu y1a
def y2a:List UInt8:=[48]
def w2a:G.O:=oNu y2a
def y3a:List UInt8:=[49]
def w3a:G.O:=oNu y3a
def y4a:List UInt8:=[60]
def w4a:G.O:=oSy y4a
def y5a:List UInt8:=[97]
def w5a:G.O:=oSy y5a
def y6a:List UInt8:=[97,110,100]
def w6a:G.O:=oSy y6a
def y7a:List UInt8:=[97,112,112,101,110,100]
def w7a:G.O:=oSy y7a
def y8a:List UInt8:=[97,115,115,111,99,45,101,113,117,97,108]
def w8a:G.O:=oSy y8a
def y9a:List UInt8:=[97,116,111,109]
def w9a:G.O:=oSy y9a
def y10a:List UInt8:=[98,105,110,97,114,121,45,97,112,112,101,110,100]
def w10a:G.O:=oSy y10a
def y11a:List UInt8:=[98,111,111,108,101,97,110,112]
def w11a:G.O:=oSy y11a
def y12a:List UInt8:=[99,97,114]
def aB7:G.O:=oSy y12a
def y13a:List UInt8:=[99,100,114]
def aE7:G.O:=oSy y13a
def y14a:List UInt8:=[99,111,110,100]
def w14a:G.O:=oSy y14a
def y15a:List UInt8:=[99,111,110,115]
def w15a:G.O:=oSy y15a
def y16a:List UInt8:=[99,111,110,115,112]
def vL:G.O:=oSy y16a
def y17a:List UInt8:=[99,111,117,110,116]
def aE6:G.O:=oSy y17a
def y18a:List UInt8:=[100,101,102,117,110]
def mB:G.O:=oSy y18a
def y19a:List UInt8:=[101]
def w19a:G.O:=oSy y19a
def y20a:List UInt8:=[101,110,100,112]
def w20a:G.O:=oSy y20a
def y21a:List UInt8:=[101,113,117,97,108]
def w21a:G.O:=oSy y21a
def y22a:List UInt8:=[102,105,120]
def w22a:G.O:=oSy y22a
def y23a:List UInt8:=[103,117,97,114,100]
def w23a:G.O:=oSy y23a
def y24a:List UInt8:=[105,102]
def mF:G.O:=oSy y24a
def y25a:List UInt8:=[105,102,102]
def w25a:G.O:=oSy y25a
def y26a:List UInt8:=[105,102,105,120]
def w26a:G.O:=oSy y26a
def y27a:List UInt8:=[105,109,112,108,105,101,115]
def w27a:G.O:=oSy y27a
def y28a:List UInt8:=[105,110,116,101,103,101,114,112]
def w28a:G.O:=oSy y28a
def y29a:List UInt8:=[107]
def w29a:G.O:=oSy y29a
def y30a:List UInt8:=[108,101,110]
def w30a:G.O:=oSy y30a
def y31a:List UInt8:=[108,105,115,116]
def w31a:G.O:=oSy y31a
def y32a:List UInt8:=[109,101,97,115,117,114,101]
def aFq:G.O:=oSy y32a
def y33a:List UInt8:=[109,101,109,98,101,114,45,101,113,117,97,108]
def w33a:G.O:=oSy y33a
def y34a:List UInt8:=[110]
def w34a:G.O:=oSy y34a
def y35a:List UInt8:=[110,97,116,112]
def w35a:G.O:=oSy y35a
def y36a:List UInt8:=[110,102,105,120]
def w36a:G.O:=oSy y36a
def y37a:List UInt8:=[110,105,108]
def aEf:G.O:=oSy y37a
def y38a:List UInt8:=[110,111,116]
def w38a:G.O:=oSy y38a
def y39a:List UInt8:=[110,116,104]
def w39a:G.O:=oSy y39a
def y40a:List UInt8:=[111,45,102,105,110,112]
def w40a:G.O:=oSy y40a
def y41a:List UInt8:=[111,45,102,105,114,115,116,45,99,111,101,102,102,105,99,105,101,110,116]
def w41a:G.O:=oSy y41a
def y42a:List UInt8:=[111,45,102,105,114,115,116,45,101,120,112,111,110,101,110,116]
def w42a:G.O:=oSy y42a
def y43a:List UInt8:=[111,45,112]
def w43a:G.O:=oSy y43a
def y44a:List UInt8:=[111,45,114,101,115,116]
def w44a:G.O:=oSy y44a
def y45a:List UInt8:=[111,60]
def w45a:G.O:=oSy y45a
def y46a:List UInt8:=[111,114]
def w46a:G.O:=oSy y46a
def y47a:List UInt8:=[112]
def w47a:G.O:=oSy y47a
def y48a:List UInt8:=[112,111,115,112]
def w48a:G.O:=oSy y48a
def y49a:List UInt8:=[113]
def w49a:G.O:=oSy y49a
def y50a:List UInt8:=[114,97,116,105,111,110,97,108,112]
def w50a:G.O:=oSy y50a
def y51a:List UInt8:=[114,101,118]
def w51a:G.O:=oSy y51a
def y52a:List UInt8:=[115,121,110,116,97,120,112]
def w52a:G.O:=oSy y52a
def y53a:List UInt8:=[116]
def aE5:G.O:=oSy y53a
def y54a:List UInt8:=[116,114,117,101,45,108,105,115,116,112]
def w54a:G.O:=oSy y54a
def y55a:List UInt8:=[117,112,100,97,116,101,45,110,116,104]
def w55a:G.O:=oSy y55a
def y56a:List UInt8:=[118]
def w56a:G.O:=oSy y56a
def nW:List UInt8:=[120]
def bH:G.O:=oSy nW
def y58a:List UInt8:=[121]
def aE4:G.O:=oSy y58a
def y59a:List UInt8:=[122,112]
def w59a:G.O:=oSy y59a
def wdL:List (List UInt8):=[y0a,y1a,y2a,y3a,y4a,y5a,y6a,y7a,y8a,y9a,y10a,y11a,y12a,y13a,y14a,y15a,y16a,y17a,y18a,y19a,y20a,y21a,y22a,y23a,y24a,y25a,y26a,y27a,y28a,y29a,y30a,y31a,y32a,y33a,y34a,y35a,y36a,y37a,y38a,y39a,y40a,y41a,y42a,y43a,y44a,y45a,y46a,y47a,y48a,y49a,y50a,y51a,y52a,y53a,y54a,y55a,y56a,nW,y58a,y59a]
def tkM:Nat→Nat→Nat→List G.K
 |0,_,_=>[]
 |f+1,p,n=>bif Nat.beq (n%64) 0 then tkP ((p+n/64%64:Nat):Int)::tkM f (p+n/64%64+1) (n/4096)
  else bif Nat.beq (n%64) 1 then tkC ((p+n/64%64:Nat):Int)::tkM f (p+n/64%64+1) (n/4096)
  else match wdL[n%64-2]? with
   |some w=>wtk (isN w) ((p+n/64%64:Nat):Int) w::tkM f (p+n/64%64+w.length) (n/4096)
   |none=>[]
def toksL:List G.K:=tkM 942 0 0x100100100100107b00f04007a00106404300204003904000107b00e04001104000100107b00f04007a01104000106403d04001a0c000100106402604002204000100100107b03804000106402504000804001904000107b07a02404007901404000100100100107b00f04000106404300204002904000107b00e04000106403d04001a0c000100106402604002204000100100107b03804000106402504000804001904000107b02404006901404000100100100100104700f04005f00a04003724000100104700e04000100100100104700e04000e04005f01704000100104700e0400120400080002400010670010010470120400280000400100c000100104701304002204000104701f04004a01404000100106700100100107b00f04005502304007b00100107b00e04005501704001a04000107b01204001a0c000100107b01304002204000100107b03804001904000107b01504006301404000100106700100100107b00e04002104000100107b00f04003504000904000107b01204001a0c000100107b01304002204000103b04007501404000100107c00100107c00107b00f04000c04000107b00e04001104000107b01204001a0c000100107b01304002204000100107b03804001904000107c03b04004c01404000100100106707b01704000100107b00f04003804000107b01204001a04000100107b01304002204000103b04007801404000100104400100100107b00f04002004004500204000107b01204001a04000100107b01304002204000103b04006001404000100100100100107b02c04000100107b02e04002c04002f28000100107b02e04002d28000100107b02b04003228000100104400107b02c04001704002828000100107b02c04002d28000100107b00e04001204000814000107b0251c000107b02a04001a0c000100107b01304002204000103b04006d01404000100100100100107c02e04000107b02e04002f04003724000100100107c02b04000107b02b04000628000100100107c02b04000107b02b04001704002800024000100100107c02c04000107b02c04002f28000100100107c02c04000107b02c04001704002800024000106700107c02a00024000100100107c07b00604007700107c01204001a04000107b02a0000400100c000100107b01304002204000107c03b04006f01404000100104400107b00f04000107b01204001a04000103b04006e01404000100107b00100107b00e04000f04000107b01204001a04000103b04006b01404000100104400100107b00e04000e04000107b01204001a04000103b04006c01404000100100107b01204002804000103b04006a01404000100104400100100107b00f04001304000100107b00e04001304004500204000107b01204001a04000100107b01304002204000103b04005301404000100107700100107b04400604002804000107b01e04001a04000100107b02504001904000103b04007d01404000100104407b00107b02504001a04000103b04006601404000100106700107b04400604000107b01e04001a04000103b04007201404000100106700100104407b00604002804000107b01e04001a04000103b04006501404000100104407b00107b01e04001a04000103b04005c01404000100104407b00107b03404001a04000103b04005801404000100100107b01204002804000100100106707b01704000107b01204003004001904000103b04005601404000100100107b01204002804000103b04004b01404000107700103b04007601404000100100106707b01704007700107707b01704001a04000103b04004d01404000100100107706707301a04000106707707301a04007101a04000107303104005b01404000100107700106707707301a04007101a04000107303104005d01404000100107706707101a040001031040068014000++ [⟨0,2580,[],[],[]⟩]
def o0a:G.O:=ol [mB,w38a,ol [w47a],ol [mF,w47a,aEf,aE5]]
def o1a:G.O:=ol [mB,w27a,ol [w47a,w49a],ol [mF,w47a,ol [mF,w49a,aE5,aEf],aE5]]
def o2a:G.O:=ol [mB,w25a,ol [w47a,w49a],ol [mF,w47a,ol [mF,w49a,aE5,aEf],ol [mF,w49a,aEf,aE5]]]
def o3a:G.O:=ol [mB,w11a,ol [bH],ol [mF,ol [w21a,bH,aE5],aE5,ol [w21a,bH,aEf]]]
def o4a:G.O:=ol [mB,w52a,ol [bH],aE5]
def o5a:G.O:=ol [mB,w9a,ol [bH],ol [w38a,ol [vL,bH]]]
def o6a:G.O:=ol [mB,w20a,ol [bH],ol [w23a,ol [w46a,ol [vL,bH],ol [w21a,bH,aEf]]],ol [w38a,ol [vL,bH]]]
def o7a:G.O:=ol [mB,w22a,ol [bH],ol [mF,ol [w50a,bH],bH,w2a]]
def o8a:G.O:=ol [mB,w26a,ol [bH],ol [mF,ol [w28a,bH],bH,w2a]]
def o9a:G.O:=ol [mB,w35a,ol [bH],ol [mF,ol [w28a,bH],ol [w38a,ol [w4a,bH,w2a]],aEf]]
def o10a:G.O:=ol [mB,w48a,ol [bH],ol [mF,ol [w28a,bH],ol [w4a,w2a,bH],aEf]]
def o11a:G.O:=ol [mB,w36a,ol [bH],ol [mF,ol [w35a,bH],bH,w2a]]
def o12a:G.O:=ol [mB,w59a,ol [bH],ol [w23a,ol [w35a,bH]],ol [mF,ol [w28a,bH],ol [w38a,ol [w4a,w2a,bH]],aE5]]
def o13a:G.O:=ol [mB,aE6,ol [bH],ol [aFq,ol [aE6,bH]],ol [mF,ol [vL,bH],ol [w0a,w3a,ol [aE6,ol [aB7,bH]],ol [aE6,ol [aE7,bH]]],w2a]]
def o14a:G.O:=ol [mB,w40a,ol [bH],ol [w38a,ol [vL,bH]]]
def o15a:G.O:=ol [mB,w42a,ol [bH],ol [mF,ol [vL,bH],ol [aB7,ol [aB7,bH]],w2a]]
def o16a:G.O:=ol [mB,w41a,ol [bH],ol [mF,ol [vL,bH],ol [aE7,ol [aB7,bH]],bH]]
def o17a:G.O:=ol [mB,w44a,ol [bH],ol [mF,ol [vL,bH],ol [aE7,bH],w2a]]
def o18a:G.O:=ol [mB,w45a,ol [bH,aE4],ol [aFq,ol [aE6,bH]],ol [w14a,ol [ol [w40a,bH],ol [mF,ol [vL,aE4],aE5,ol [w4a,bH,aE4]]],ol [ol [w40a,aE4],aEf],ol [ol [w38a,ol [w21a,ol [w42a,bH],ol [w42a,aE4]]],ol [w45a,ol [w42a,bH],ol [w42a,aE4]]],ol [ol [w38a,ol [w21a,ol [w41a,bH],ol [w41a,aE4]]],ol [w4a,ol [w41a,bH],ol [w41a,aE4]]],ol [aE5,ol [w45a,ol [w44a,bH],ol [w44a,aE4]]]]]
def o19a:G.O:=ol [mB,w43a,ol [bH],ol [aFq,ol [aE6,bH]],ol [mF,ol [w40a,bH],ol [w35a,bH],ol [w6a,ol [vL,ol [aB7,bH]],ol [w43a,ol [w42a,bH]],ol [w38a,ol [w21a,ol [w42a,bH],w2a]],ol [w48a,ol [w41a,bH]],ol [w43a,ol [w44a,bH]],ol [w45a,ol [w42a,ol [w44a,bH]],ol [w42a,bH]]]]]
def o20a:G.O:=ol [mB,w30a,ol [bH],ol [aFq,ol [aE6,bH]],ol [mF,ol [vL,bH],ol [w0a,w3a,ol [w30a,ol [aE7,bH]]],w2a]]
def o21a:G.O:=ol [mB,w54a,ol [bH],ol [aFq,ol [aE6,bH]],ol [mF,ol [vL,bH],ol [w54a,ol [aE7,bH]],ol [w21a,bH,aEf]]]
def o22a:G.O:=ol [mB,w10a,ol [bH,aE4],ol [w23a,ol [w54a,bH]],ol [aFq,ol [aE6,bH]],ol [mF,ol [vL,bH],ol [w15a,ol [aB7,bH],ol [w10a,ol [aE7,bH],aE4]],aE4]]
def o23a:G.O:=ol [mB,w51a,ol [bH],ol [aFq,ol [aE6,bH]],ol [mF,ol [vL,bH],ol [w7a,ol [w51a,ol [aE7,bH]],ol [w31a,ol [aB7,bH]]],aEf]]
def o24a:G.O:=ol [mB,w33a,ol [w19a,bH],ol [w23a,ol [w54a,bH]],ol [aFq,ol [aE6,bH]],ol [mF,ol [vL,bH],ol [mF,ol [w21a,w19a,ol [aB7,bH]],bH,ol [w33a,w19a,ol [aE7,bH]]],aEf]]
def o25a:G.O:=ol [mB,w8a,ol [w29a,w5a],ol [aFq,ol [aE6,w5a]],ol [w14a,ol [ol [w38a,ol [vL,w5a]],aEf],ol [ol [w6a,ol [vL,ol [aB7,w5a]],ol [w21a,w29a,ol [aB7,ol [aB7,w5a]]]],ol [aB7,w5a]],ol [aE5,ol [w8a,w29a,ol [aE7,w5a]]]]]
def o26a:G.O:=ol [mB,w39a,ol [w34a,bH],ol [w23a,ol [w6a,ol [w35a,w34a],ol [w54a,bH]]],ol [aFq,ol [w36a,w34a]],ol [mF,ol [w59a,w34a],ol [aB7,bH],ol [w39a,ol [w0a,w1a,w34a],ol [aE7,bH]]]]
def o27a:G.O:=ol [mB,w55a,ol [w34a,w56a,bH],ol [w23a,ol [w6a,ol [w35a,w34a],ol [w54a,bH]]],ol [aFq,ol [w36a,w34a]],ol [mF,ol [w59a,w34a],ol [w15a,w56a,ol [aE7,bH]],ol [w15a,ol [aB7,bH],ol [w55a,ol [w0a,w1a,w34a],w56a,ol [aE7,bH]]]]]
def oAll:List G.O:=[o0a,o1a,o2a,o3a,o4a,o5a,o6a,o7a,o8a,o9a,o10a,o11a,o12a,o13a,o14a,o15a,o16a,o17a,o18a,o19a,o20a,o21a,o22a,o23a,o24a,o25a,o26a,o27a]
def spW:List UInt8→List UInt8×List UInt8
 |[]=>([],[])
 |x::l=>bif csI (u8 x)then(x::(spW l).1,(spW l).2)else([],x::l)
def spB:List UInt8→List UInt8×List UInt8
 |[]=>([],[])
 |x::l=>bif blI (u8 x)then(x::(spB l).1,(spB l).2)else([],x::l)
def lexI:Nat→List UInt8→Its×List UInt8
 |0,l=>([],l)
 |n+1,l=>match spB l with
  |(b,[])=>([],b)
  |(b,x::r)=>bif Nat.beq x.toNat 40 then((b,.op)::(lexI n r).1,(lexI n r).2)else bif Nat.beq x.toNat 41 then((b,.cl)::(lexI n r).1,(lexI n r).2)else
   match spW (x::r)with
   |(w,r')=>((b,.wd (isN w) w)::(lexI n r').1,(lexI n r').2)
end Go.TV
namespace Go.TV
open Go.AI Go.PI Go.Proofs
set_option maxRecDepth 20000
def zTe:G.T:=⟨0,⟨[],[]⟩,⟨0,[],[],⟨[],[]⟩,[],[]⟩,[]⟩
abbrev T3:=G.T×G.T×G.T
abbrev Sk:=List UInt8×List (List UInt8)
def enE(s:Sk)(x:T3):G.E:=G.E.mk 3 ⟨rH,s.1⟩ ⟨[],[]⟩ ⟨⟨[],[]⟩,[],false,zTe⟩ [⟨⟨rH,s.1⟩,s.2.map (fun p=>⟨rH,p⟩),1,x.1,x.2.1,x.2.2⟩] [] [] [] ⟨⟨[],[]⟩,[]⟩ [] [] [] [] 0
def enB(s:Sk):G.E→Bool
 |⟨k,n,⟨[],[]⟩,⟨⟨[],[]⟩,[],false,⟨bk,⟨[],[]⟩,⟨ok,[],[],⟨[],[]⟩,[],[]⟩,[]⟩⟩,[⟨fn,ps,cl,_,_,_⟩],[],[],[],⟨⟨[],[]⟩,[]⟩,[],[],[],[],h⟩=>decide (k=3)&&decide (n=⟨rH,s.1⟩)&&decide (bk=0)&&decide (ok=0)&&decide (fn=⟨rH,s.1⟩)&&decide (cl=1)&&decide (h=0)&&decide (ps=s.2.map (fun p=>⟨rH,p⟩))
 |_=>false
theorem enB_ok{s:Sk}{e:G.E}(h:enB s e=true): ∃x,e=enE s x:=by
 unfold enB at h;split at h
 ·simp only[bjE,djE]at h;obtain⟨⟨⟨⟨⟨⟨⟨rfl,rfl⟩,rfl⟩,rfl⟩,rfl⟩,rfl⟩,rfl⟩,rfl⟩:=h;exact⟨(_,_,_),rfl⟩
 ·cases h
def enR(s:Sk)(r:Rt):Bool:=match r with|some [⟨.rc 16,e⟩]=>enB s e|_=>false
theorem enR_ok{s:Sk}{r:Rt}(h:enR s r=true): ∃x,r=some [yR 16 (enE s x)]:=by
 unfold enR at h;split at h
 ·rename_i e;obtain⟨x,hx⟩:=enB_ok h;exact⟨x,by rw[hx]⟩
 ·cases h
def skL:List Sk:=[(y38a,[y47a]),(y27a,[y47a,y49a]),(y25a,[y47a,y49a]),(y11a,[nW]),(y52a,[nW]),(y9a,[nW]),(y20a,[nW]),(y22a,[nW]),(y26a,[nW]),(y35a,[nW]),(y48a,[nW]),(y36a,[nW]),(y59a,[nW]),(y17a,[nW]),(y40a,[nW]),(y42a,[nW]),(y41a,[nW]),(y44a,[nW]),(y45a,[nW,y58a]),(y43a,[nW]),(y30a,[nW]),(y54a,[nW]),(y10a,[nW,y58a]),(y51a,[nW]),(y33a,[y19a,nW]),(y8a,[y29a,y5a]),(y39a,[y34a,nW]),(y55a,[y34a,y56a,nW])]
def skA(k:Nat):Sk:=(skL[k]?).getD ([],[])
def eF(X:Nat→T3):List Sk→Nat→List G.E
 |[],_=>[]
 |s::l,j=>enE s (X j)::eF X l (j+1)
def eL(X:Nat→T3)(k:Nat):List G.E:=eF X (skL.take k) 0
def Kd:TC0:=fun i d=>bif Nat.beq i 29 then(match d with|[]=>some [⟨.sl (.rc 2),oAll⟩]|_=>none)else none
noncomputable def cD(L M k:Nat):TC0:=evB Kd (upT (L+7000) (M+99)) (L+7000) k
noncomputable def pE(L M k:Nat)(X:Nat→T3)(o:G.O):Bool:=enR (skA k) (cD L M 58 30 [yS 16 (eL X k),yR 2 o])
end Go.TV
