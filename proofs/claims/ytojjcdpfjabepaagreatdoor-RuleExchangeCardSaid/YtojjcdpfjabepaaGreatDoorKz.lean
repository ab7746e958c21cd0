import Derived.Test.YtojjcdpfjabepaaGreatDoorKy
import Derived.Test.YtojjcdpfjabepaaGreatDoorKx
import Derived.Test.YtojjcdpfjabepaaGreatDoorKv
import Derived.Test.YtojjcdpfjabepaaGreatDoorKu
import Derived.Test.YtojjcdpfjabepaaGreatDoorKt
set_option linter.unusedVariables false
set_option linter.unusedSimpArgs false
set_option linter.constructorNameAsVariable false
namespace Go.TV
open Go.AI Go.PI Go.Proofs
set_option maxRecDepth 20000
theorem mF{o:G.O}(h:okO o.kind o.num o.den o.sym o.text o.pair=true):(o.kind=0∧o.sym=⟨[],[]⟩)∨(∃n d,o=nuO (n,d)∧okN n d=true)∨o.kind=2∨o.kind=3∨(o.kind=4∧o.sym=⟨[],[]⟩∧o.pair.length=2):=by
 obtain⟨k,n,d,s,t,l⟩:=o;change okO k n d s t l=true at h;simp only[okO,Bool.or_eq_true,bjE,djE,List.isEmpty_iff]at h;rcases h with(((h|h)|h)|h)|h
 ·exact .inl ⟨h.1.1.1.1.1,h.1.1.2⟩
 ·refine .inr (.inl ⟨n,d,?_,h.1.1.1.2⟩);obtain⟨⟨⟨⟨rfl,_⟩,rfl⟩,rfl⟩,rfl⟩:=h;rfl
 ·exact .inr (.inr (.inl h.1.1.1.1.1))
 ·exact .inr (.inr (.inr (.inl h.1.1.1.1.1)))
 ·exact .inr (.inr (.inr (.inr ⟨h.1.1.1.1.1,h.1.1.2,h.2⟩)))
def cL(a b:G.O):Int:=bif decide (rkn a.kind=rkn b.kind)then(bif decide (a.kind=1)then vN (a.num,a.den) (b.num,b.den)else bif decide (a.kind=3)then cB a.text b.text else cY a.sym b.sym)else bif decide (rkn a.kind<rkn b.kind)then-1 else 1
section
variable{a b:G.O}(ha:okO a.kind a.num a.den a.sym a.text a.pair=true)(hb:okO b.kind b.num b.den b.sym b.text b.pair=true)
include ha hb
theorem kindsP(h1:a.kind=1)(h:rkn a.kind=rkn b.kind): ∃n d n' d',a=nuO (n,d)∧b=nuO (n',d')∧okN n d=true∧okN n' d'=true:=by
 have hk:rkn b.kind=0:=by rw[←h,h1];rfl
 rcases mF ha with h2|⟨n,d,h2,h3⟩|h2|h2|h2
 ·rw[h2.1]at h1;cases h1
 ·rcases mF hb with g2|⟨n',d',g2,g3⟩|g2|g2|g2
  ·rw[g2.1]at hk;cases hk
  ·exact⟨n,d,n',d',h2,g2,h3,g3⟩
  ·rw[g2]at hk;cases hk
  ·rw[g2]at hk;cases hk
  ·rw[g2.1]at hk;cases hk
 ·rw[h2]at h1;cases h1
 ·rw[h2]at h1;cases h1
 ·rw[h2.1]at h1;cases h1
theorem leafP{L M:Nat}{n1:G.O→G.O→Rt}:aFF (CTp (L+7000) (M+60)) (L+7000) n1 false a b=some [⟨.int .i64,cL a b⟩]:=by
 rw[aFF,aJE,aF,show M+60=M+59+1 from rfl,rkP,bP,rkP,bP]
 unfold cL;by_cases h:rkn a.kind=rkn b.kind
 ·rw[decide_eq_true h,cdt];simp only[bnT];rw[aF];by_cases h1:a.kind=1
  ·obtain⟨n,d,n',d',rfl,rfl,h2,h3⟩:=kindsP ha hb h1 h;rw[decide_eq_true h1,cdt,aJ,vaP h2 h3];rfl
  ·rw[decide_eq_false h1,cdf,aF];by_cases h3:a.kind=3
   ·rw[decide_eq_true h3,cdt,aJ,scP];rfl
   ·rw[decide_eq_false h3,cdf,aF,scP,bP,scP];unfold cY;by_cases h5:a.sym.name=b.sym.name
    ·rw[decide_eq_true h5,decide_eq_true (cB_0.2 h5),cdt];rfl
    ·rw[decide_eq_false h5,decide_eq_false (fun e=>h5 (cB_0.1 e)),cdf];rfl
 ·rw[decide_eq_false h,cdf];simp only[Bool.not_false];rw[aJ];cases decide (rkn a.kind<rkn b.kind)<;>rfl
theorem leafR(hc: ¬(isC a=true∧isC b=true)){L M:Nat}:CTp (L+7000) (M+61) 77 [⟨.rc 2,a⟩,⟨.rc 2,b⟩]=some [⟨.int .i64,cL a b⟩]:=by
 rw[show M+61=M+60+1 from rfl,c77,F77,B77x0,show M+60=M+59+1 from rfl,rkR,bP,rkR]
 simp only[bP];unfold cL;by_cases h:rkn a.kind=rkn b.kind
 ·rw[decide_eq_true h,cdt,decide_eq_true (by rw[h]:rkn a.kind+1=rkn b.kind+1)]
  simp only[bnT];rw[aF];by_cases h1:a.kind=1
  ·obtain⟨n,d,n',d',rfl,rfl,h2,h3⟩:=kindsP ha hb h1 h;rw[decide_eq_true h1,cdt,show rkn (nuO (n,d)).kind+1=1 from rfl,decide_eq_true rfl,aJ]
   exact vaR_ok h2 h3
  ·rw[decide_eq_false h1,cdf];have last:(decide (rkn a.kind+1=1)=false∧decide (rkn a.kind+1=2)=false∧decide (rkn a.kind+1=3)=false∧decide (a.kind=3)=false)→rkn a.kind=3→a.sym=⟨[],[]⟩→
          cnd (decide (rkn a.kind+1=1)) (vaR (CTp (L+7000) (M+59+1)) (a.num,a.den) (b.num,b.den)) (cnd (decide (rkn a.kind+1=2)) (obL [.int .i64] (CTp (L+7000) (M+59+1) 100 [⟨.str,a.text⟩,⟨.str,b.text⟩]) fun(r8:Int×Unit)=>some [⟨.int .i64,r8.1⟩])
            (cnd (decide (rkn a.kind+1=3)) (obL [.int .i64] (CTp (L+7000) (M+59+1) 76 [⟨.rc 1,a.sym⟩,⟨.rc 1,b.sym⟩]) fun(r9:Int×Unit)=>some [⟨.int .i64,r9.1⟩])
              (obL [.bool] (CTp (L+7000) (M+59+1) 104 [⟨.rc 2,a⟩]) fun(r10:Bool×Unit)=>cnd (!r10.1) (aJt (CTp (L+7000) (M+59+1)) (L+7000) true a b)
                (obL [.bool] (CTp (L+7000) (M+59+1) 104 [⟨.rc 2,b⟩]) fun(r11:Bool×Unit)=>aJt (CTp (L+7000) (M+59+1)) (L+7000) (!r11.1) a b))))=
          some [⟨.int .i64,bif decide (a.kind=3)then cB a.text b.text else cY a.sym b.sym⟩]:=by
    rintro⟨q1,q2,q3,q4⟩ q5 q6;have q7:b.sym=⟨[],[]⟩:=by
     have hk:rkn b.kind=3:=by rw[←h];exact q5
     rcases mF hb with g2|⟨n',d',g2,g3⟩|g2|g2|g2
     ·exact g2.2
     ·rw[g2]at hk;cases hk
     ·rw[g2]at hk;cases hk
     ·rw[g2]at hk;cases hk
     ·exact g2.2.1
    rw[q1,q2,q3,q4,aF,aF,aF,cdf,q6,q7,coR,eE];cases hx:isC a with
    |false=>rfl
    |true=>
     simp only[bnT];rw[aF,coR,eE];cases hy:isC b with
     |false=>rfl
     |true=>exact(hc ⟨hx,hy⟩).elim
   rcases mF ha with h2|⟨n,d,h2,h3⟩|h2|h2|h2
   ·exact last (by rw[h2.1];exact⟨rfl,rfl,rfl,rfl⟩) (by rw[h2.1];rfl) h2.2
   ·rw[h2]at h1;exact absurd rfl h1
   ·rw[h2,show rkn 2+1=3 from rfl,decide_eq_false (by decide: ¬(3:Int)=1),aF,decide_eq_false (by decide: ¬(3:Int)=2),aF,decide_eq_true rfl,aJ,decide_eq_false (by decide: ¬(2:Int)=3),cdf,show M+59+1=M+58+2 from rfl,syR]
    rfl
   ·rw[h2,show rkn 3+1=2 from rfl,decide_eq_false (by decide: ¬(2:Int)=1),aF,decide_eq_true rfl,aJ,decide_eq_true rfl,cdt,scR]
    rfl
   ·exact last (by rw[h2.1];exact⟨rfl,rfl,rfl,rfl⟩) (by rw[h2.1];rfl) h2.2.1
 ·rw[decide_eq_false h,cdf,decide_eq_false (by omega: ¬rkn a.kind+1=rkn b.kind+1)]
  simp only[Bool.not_false];rw[aJ];by_cases h1:rkn a.kind<rkn b.kind
  ·rw[decide_eq_true h1,decide_eq_true (by omega:rkn a.kind+1<rkn b.kind+1)];rfl
  ·rw[decide_eq_false h1,decide_eq_false (by omega: ¬rkn a.kind+1<rkn b.kind+1)];rfl
end
theorem aDK{o:G.O}(h:isC o=true): ∃x y,o.pair=[x,y]:=by
 simp only[isC,bjE,djE]at h
 match hl:o.pair,h.2 with
 |[x,y],_=>exact⟨x,y,rfl⟩
 |[],h2=>simp at h2
 |[x],h2=>simp at h2
 |x::y::z::l,h2=>simp at h2;omega
theorem oC_ok: ∀a:G.O,∀(b:G.O) (L n m k:Nat),osz a<900000000→osz b<900000000→osz a+70≤n→osz a<m→osz a≤L→osz a+70≤k→
    ∃r:Int,iM (CTp (L+7000) n) (L+7000) m a b=some [⟨.int .i64,r⟩]∧CTp (L+7000) k 77 [⟨.rc 2,a⟩,⟨.rc 2,b⟩]=some [⟨.int .i64,r⟩]:=fun a=>by
 induction a using lE with
 |h kd nm d s t l ih=>
  intro b L n m k ha hb hn hm hL hk;have oa:=yE (o:=⟨kd,nm,d,s,t,l⟩) (by omega)
  have ob':=yE (o:=b) (by omega)
  obtain⟨m,rfl⟩: ∃m',m=m'+1:=⟨m-1,by omega⟩
  by_cases hc:isC ⟨kd,nm,d,s,t,l⟩=true∧isC b=true
  ·obtain⟨h1,h2⟩:=hc;obtain⟨x0,x1,hx⟩:=aDK h1;obtain⟨y0,y1,hy⟩:=aDK h2;change l=[x0,x1]at hx;subst hx;have hbs:osz y0<900000000∧osz y1<900000000:=by
    cases b with|mk kb nb db sb tb lb=>
    change lb=[y0,y1]at hy;subst hy;simp only[osz,iV]at hb;omega
   simp only[osz,iV]at ha hn hm hL hk;obtain⟨n,rfl⟩: ∃n',n=n'+1:=⟨n-1,by omega⟩
   obtain⟨k,rfl⟩: ∃k',k=k'+1:=⟨k-1,by omega⟩
   obtain⟨r0,p0,q0⟩:=ih x0 (by simp) y0 L n (L+7000) k (by omega) hbs.1 (by omega) (by omega) (by omega) (by omega)
   obtain⟨r1,p1,q1⟩:=ih x1 (by simp) y1 L (n+1) m k (by omega) hbs.2 (by omega) (by omega) (by omega) (by omega)
   have e0:CTp (L+7000) (n+1) 97 [⟨.rc 2,x0⟩,⟨.rc 2,y0⟩]=some [⟨.int .i64,r0⟩]:=by rw[c97];exact p0
   have hP:iM (CTp (L+7000) (n+1)) (L+7000) (m+1) ⟨kd,nm,d,s,t,[x0,x1]⟩ b=cnd (!decide (r0=0)) (some [⟨.int .i64,r0⟩]) (iM (CTp (L+7000) (n+1)) (L+7000) m x1 y1):=by
    rw[iM,aFL,coP,eE,h1,aJ,coP,eE,h2,aFF,aJE,aJ,nF,hy];show obL [.int .i64] (CTp (L+7000) (n+1) 97 [⟨.rc 2,x0⟩,⟨.rc 2,y0⟩]) _=_;rw[e0];rfl
   have hka:kd=4:=by
    simp only[isC,bjE,djE]at h1;exact h1.1
   have hkb:b.kind=4:=by
    simp only[isC,bjE,djE]at h2;exact h2.1
   obtain⟨k2,hk2⟩: ∃k',k=k'+1:=⟨k-1,by omega⟩
   have hR:CTp (L+7000) (k+1) 77 [⟨.rc 2,⟨kd,nm,d,s,t,[x0,x1]⟩⟩,⟨.rc 2,b⟩]=cnd (!decide (r0=0)) (some [⟨.int .i64,r0⟩]) (CTp (L+7000) k 77 [⟨.rc 2,x1⟩,⟨.rc 2,y1⟩]):=by
    have ra:CTp (L+7000) k 101 [⟨.rc 2,⟨kd,nm,d,s,t,[x0,x1]⟩⟩]=some [⟨.int .i64,(4:Int)⟩]:=by rw[hk2,rkR];subst hka;rfl
    have rb:CTp (L+7000) k 101 [⟨.rc 2,b⟩]=some [⟨.int .i64,(4:Int)⟩]:=by rw[hk2,rkR,hkb];rfl
    have ca:CTp (L+7000) k 104 [⟨.rc 2,⟨kd,nm,d,s,t,[x0,x1]⟩⟩]=some [⟨.bool,true⟩]:=by rw[hk2,coR,h1]
    have cb:CTp (L+7000) k 104 [⟨.rc 2,b⟩]=some [⟨.bool,true⟩]:=by rw[hk2,coR,h2]
    rw[c77,F77,B77x0,ra,bP,rb];simp only[bP];rw[ca,cb];simp only[eE,decide_true,bnT,aF,show decide ((4:Int)=1)=false from rfl,show decide ((4:Int)=2)=false from rfl,show decide ((4:Int)=3)=false from rfl]
    rw[aJt,B77x1,aF,nF,hy];show obL [.int .i64] (CTp (L+7000) k 77 [⟨.rc 2,x0⟩,⟨.rc 2,y0⟩]) _=_;rw[q0,bP];show cnd (!decide (r0=0)) (some [⟨.int .i64,r0⟩]:Rt) (obL [.int .i64] (CTp (L+7000) k 77 [⟨.rc 2,x1⟩,⟨.rc 2,y1⟩]) _)=_;rw[q1,bP]
   rw[hP,hR,p1,q1];cases decide (r0=0)
   ·exact⟨r0,rfl,rfl⟩
   ·exact⟨r1,rfl,rfl⟩
  ·have hn1:70≤n:=by omega
   have hk1:70≤k:=by omega
   obtain⟨n,rfl⟩: ∃n',n=n'+60:=⟨n-60,by omega⟩
   obtain⟨k,rfl⟩: ∃k',k=k'+61:=⟨k-61,by omega⟩
   refine⟨cL ⟨kd,nm,d,s,t,l⟩ b,?_,leafR oa ob' hc⟩;rw[iM,aFL,show n+60=n+59+1 from rfl,coP,eE]
   have hl:=leafP oa ob' (L:=L) (M:=n) (n1:=iM (CTp (L+7000) (n+60)) (L+7000) m);cases h1:isC ⟨kd,nm,d,s,t,l⟩with
   |false=>exact hl
   |true=>
    rw[aJ,coP,eE];cases h2:isC b with
    |false=>exact hl
    |true=>exact(hc ⟨h1,h2⟩).elim
theorem oCP{a b:G.O}{L n k:Nat}(ha:osz a<900000000)(hb:osz b<900000000)(hn:osz a+71≤n)(hL:osz a≤L)(hk:osz a+70≤k):
    ∃r:Int,CTp (L+7000) n 97 [⟨.rc 2,a⟩,⟨.rc 2,b⟩]=some [⟨.int .i64,r⟩]∧CTp (L+7000) k 77 [⟨.rc 2,a⟩,⟨.rc 2,b⟩]=some [⟨.int .i64,r⟩]:=by
 obtain⟨n,rfl⟩: ∃n',n=n'+1:=⟨n-1,by omega⟩
 obtain⟨r,h1,h2⟩:=oC_ok a b L n (L+7000) k ha hb (by omega) (by omega) hL hk
 exact⟨r,by rw[c97];exact h1,h2⟩
end Go.TV
namespace Go.TV
open Go.AI Go.PI Go.Proofs
set_option maxRecDepth 20000
theorem bl_tri: ∀a b:List UInt8,a≠b→Op.bytesLess b a= !Op.bytesLess a b
 |[],[],h=>absurd rfl h
 |[],_::_,_=>rfl
 |_::_,[],_=>rfl
 |a::x,b::y,h=>by
  by_cases h1:a<b
  ·have h2: ¬b<a:=fun h2=>by have:=UInt8.lt_trans h1 h2;exact absurd this (UInt8.lt_irrefl _)
   have h3: ¬b=a:=fun e=>by subst e;exact absurd h1 (UInt8.lt_irrefl _)
   simp[Op.bytesLess,h1,h2,h3]
  ·by_cases h2:b<a
   ·have h3: ¬a=b:=fun e=>by subst e;exact absurd h2 (UInt8.lt_irrefl _)
    simp[Op.bytesLess,h1,h2,h3]
   ·have he:a=b:=UInt8.le_antisymm (UInt8.not_lt.1 h2) (UInt8.not_lt.1 h1);subst he;have hx:x≠y:=fun e=>h (by rw[e])
    simp[Op.bytesLess,h1,bl_tri x y hx]
theorem aIl(a b:List UInt8):cB b a= -cB a b:=by
 unfold cB;by_cases h:a=b
 ·rw[decide_eq_true h,decide_eq_true h.symm];rfl
 ·rw[decide_eq_false h,decide_eq_false (fun e=>h e.symm),cdf,cdf,bl_tri a b h]
  cases Op.bytesLess a b<;>rfl
theorem cY_neg(a b:G.Y):cY b a= -cY a b:=by
 unfold cY;by_cases h:a.name=b.name
 ·rw[decide_eq_true h,decide_eq_true h.symm,cdt,cdt];exact aIl _ _
 ·rw[decide_eq_false h,decide_eq_false (fun e=>h e.symm),cdf,cdf];exact aIl _ _
theorem cY_0{a b:G.Y}(h:cY a b=0):a=b:=by
 unfold cY at h;by_cases e:a.name=b.name
 ·rw[decide_eq_true e,cdt,cB_0]at h;cases a;cases b;cases e;cases h;rfl
 ·rw[decide_eq_false e,cdf,cB_0]at h;exact absurd h e
theorem vN_neg(p q:List UInt8×List UInt8):vN q p= -vN p q:=by
 unfold vN;rcases Nat.lt_trichotomy (plN p) (plN q)with h|h|h
 ·have h2:Nat.blt (plN q) (plN p)=false:=by rw[fP,dfN];omega
  have h1:Nat.blt (plN p) (plN q)=true:=by rw[fP,djE];omega
  rw[h1,h2];rfl
 ·rw[h];have h2:Nat.blt (plN q) (plN q)=false:=by rw[fP,dfN];omega
  rw[h2];rfl
 ·have h2:Nat.blt (plN p) (plN q)=false:=by rw[fP,dfN];omega
  have h1:Nat.blt (plN q) (plN p)=true:=by rw[fP,djE];omega
  rw[h1,h2];rfl
theorem vN_all:(numL.all fun p=>numL.all fun q=> !decide (vN p q=0)||(decide (p.1=q.1)&&decide (p.2=q.2)))=true:=by decide+kernel
theorem vN_0{n d n' d':List UInt8}(h:okN n d=true)(h':okN n' d'=true)(h0:vN (n,d) (n',d')=0):n=n'∧d=d':=by
 have h1:=List.all_eq_true.1 (List.all_eq_true.1 vN_all _ (tI h)) _ (tI h');rw[decide_eq_true h0]at h1;simp only[bnT,Bool.false_or,bjE,djE]at h1;exact h1
theorem kD{o:G.O}(h:okO o.kind o.num o.den o.sym o.text o.pair=true)(h0:o.kind≠0):(∃n d,o=nuO (n,d)∧okN n d=true)∨(∃s,o=⟨2,[],[],s,[],[]⟩)∨(∃t,o=⟨3,[],[],⟨[],[]⟩,t,[]⟩)∨∃x y,o=⟨4,[],[],⟨[],[]⟩,[],[x,y]⟩:=by
 obtain⟨k,n,d,s,t,l⟩:=o;change okO k n d s t l=true at h;change k≠0 at h0;simp only[okO,Bool.or_eq_true,bjE,djE,List.isEmpty_iff]at h;rcases h with(((h|h)|h)|h)|h
 ·exact absurd h.1.1.1.1.1 h0
 ·obtain⟨⟨⟨⟨rfl,h⟩,rfl⟩,rfl⟩,rfl⟩:=h;exact .inl ⟨n,d,rfl,h⟩
 ·obtain⟨⟨⟨⟨⟨rfl,_⟩,rfl⟩,rfl⟩,rfl⟩,rfl⟩:=h;exact .inr (.inl ⟨s,rfl⟩)
 ·obtain⟨⟨⟨⟨⟨rfl,_⟩,rfl⟩,rfl⟩,rfl⟩,rfl⟩:=h;exact .inr (.inr (.inl ⟨t,rfl⟩))
 ·obtain⟨⟨⟨⟨⟨rfl,rfl⟩,rfl⟩,rfl⟩,rfl⟩,h⟩:=h
  match l,h with
  |[x,y],_=>exact .inr (.inr (.inr ⟨x,y,rfl⟩))
theorem isC_4(x y:G.O):isC ⟨4,[],[],⟨[],[]⟩,[],[x,y]⟩=true:=rfl
section
variable{a b:G.O}(ha:okO a.kind a.num a.den a.sym a.text a.pair=true)(hb:okO b.kind b.num b.den b.sym b.text b.pair=true)(ka:a.kind≠0)(kb:b.kind≠0)
include ha hb ka kb
theorem cL_neg:cL b a= -cL a b:=by
 rcases kD ha ka with⟨n,d,rfl,_⟩|⟨s,rfl⟩|⟨t,rfl⟩|⟨x,y,rfl⟩<;>rcases kD hb kb with⟨n',d',rfl,_⟩|⟨s',rfl⟩|⟨t',rfl⟩|⟨x',y',rfl⟩<;>
  first|exact vN_neg _ _|exact cY_neg _ _|exact aIl _ _|rfl
theorem cL_0(hc: ¬(isC a=true∧isC b=true))(h:cL a b=0):a=b:=by
 rcases kD ha ka with⟨n,d,rfl,h1⟩|⟨s,rfl⟩|⟨t,rfl⟩|⟨x,y,rfl⟩<;>rcases kD hb kb with⟨n',d',rfl,h2⟩|⟨s',rfl⟩|⟨t',rfl⟩|⟨x',y',rfl⟩
 ·obtain⟨rfl,rfl⟩:=vN_0 h1 h2 h;rfl
 ·cases(show(-1:Int)=0 from h)
 ·cases(show(-1:Int)=0 from h)
 ·cases(show(-1:Int)=0 from h)
 ·cases(show(1:Int)=0 from h)
 ·rw[cY_0 (show cY s s'=0 from h)]
 ·cases(show(1:Int)=0 from h)
 ·cases(show(-1:Int)=0 from h)
 ·cases(show(1:Int)=0 from h)
 ·cases(show(-1:Int)=0 from h)
 ·rw[cB_0.1 (show cB t t'=0 from h)]
 ·cases(show(-1:Int)=0 from h)
 ·cases(show(1:Int)=0 from h)
 ·cases(show(1:Int)=0 from h)
 ·cases(show(1:Int)=0 from h)
 ·exact absurd ⟨isC_4 x y,isC_4 x' y'⟩ hc
end
theorem osz_k{x:G.O}{l:List G.O}(hx:x∈l)(h:iV l<900000000):osz x<900000000∧x.kind≠0∧osz x≤iV l:=by
 induction l with
 |nil=>cases hx
 |cons o l ih=>
  simp only[iV]at h;cases hx with
  |head=>
   refine⟨by omega,fun e=>?_,by simp only[iV];omega⟩
   have:aEh x=1000000000:=by unfold aEh;rw[decide_eq_true e];rfl
   omega
  |tail _ hx=>
   obtain⟨h1,h2,h3⟩:=ih hx (by omega)
   exact⟨h1,h2,by simp only[iV];omega⟩
theorem oX: ∀a:G.O,∀(b:G.O) (L n m m':Nat),osz a<900000000→osz b<900000000→a.kind≠0→b.kind≠0→osz a+osz b+70≤n→osz a+osz b<m→osz a+osz b<m'→osz a+osz b≤L→
    ∃r:Int,iM (CTp (L+7000) n) (L+7000) m a b=some [⟨.int .i64,r⟩]∧iM (CTp (L+7000) n) (L+7000) m' b a=some [⟨.int .i64,-r⟩]∧(r=0→a=b):=fun a=>by
 induction a using lE with
 |h kd nm d s t l ih=>
  intro b L n m m' ha hb ka kb hn hm hm' hL;have oa:=yE (o:=⟨kd,nm,d,s,t,l⟩) (by omega)
  have ob':=yE (o:=b) (by omega)
  obtain⟨m,rfl⟩: ∃q,m=q+1:=⟨m-1,by omega⟩
  obtain⟨m',rfl⟩: ∃q,m'=q+1:=⟨m'-1,by omega⟩
  by_cases hc:isC ⟨kd,nm,d,s,t,l⟩=true∧isC b=true
  ·obtain⟨h1,h2⟩:=hc;have fa: ∃x0 x1,(⟨kd,nm,d,s,t,l⟩:G.O)=⟨4,[],[],⟨[],[]⟩,[],[x0,x1]⟩:=by
    have k4:kd=4:=by simp only[isC,bjE,djE]at h1;exact h1.1
    rcases kD oa ka with⟨_,_,e,_⟩|⟨_,e⟩|⟨_,e⟩|⟨x,y,e⟩
    ·injection e with e1;rw[k4]at e1;cases e1
    ·injection e with e1;rw[k4]at e1;cases e1
    ·injection e with e1;rw[k4]at e1;cases e1
    ·exact⟨x,y,e⟩
   have fb: ∃y0 y1,b=⟨4,[],[],⟨[],[]⟩,[],[y0,y1]⟩:=by
    have k4:b.kind=4:=by simp only[isC,bjE,djE]at h2;exact h2.1
    rcases kD ob' kb with⟨_,_,e,_⟩|⟨_,e⟩|⟨_,e⟩|⟨x,y,e⟩
    ·rw[e]at k4;cases k4
    ·rw[e]at k4;cases k4
    ·rw[e]at k4;cases k4
    ·exact⟨x,y,e⟩
   obtain⟨x0,x1,ea⟩:=fa;obtain⟨y0,y1,rfl⟩:=fb;injection ea with e1 e2 e3 e4 e5 e6;subst e1 e2 e3 e4 e5 e6;simp only[osz,iV]at ha hb hn hm hm' hL;obtain⟨sx0,kx0,_⟩:=osz_k (x:=x0) (l:=[x0,x1]) (by simp) (by simp only[iV];omega)
   obtain⟨sx1,kx1,_⟩:=osz_k (x:=x1) (l:=[x0,x1]) (by simp) (by simp only[iV];omega)
   obtain⟨sy0,ky0,_⟩:=osz_k (x:=y0) (l:=[y0,y1]) (by simp) (by simp only[iV];omega)
   obtain⟨sy1,ky1,_⟩:=osz_k (x:=y1) (l:=[y0,y1]) (by simp) (by simp only[iV];omega)
   obtain⟨n,rfl⟩: ∃q,n=q+1:=⟨n-1,by omega⟩
   obtain⟨r0,p0,q0,z0⟩:=ih x0 (by simp) y0 L n (L+7000) (L+7000) (by omega) (by omega) kx0 ky0 (by omega) (by omega) (by omega) (by omega)
   obtain⟨r1,p1,q1,z1⟩:=ih x1 (by simp) y1 L (n+1) m m' (by omega) (by omega) kx1 ky1 (by omega) (by omega) (by omega) (by omega)
   have step: ∀(u0 u1 v0 v1:G.O) (r:Int) (j:Nat),iM (CTp (L+7000) n) (L+7000) (L+7000) u0 v0=some [⟨.int .i64,r⟩]→iM (CTp (L+7000) (n+1)) (L+7000) (j+1) ⟨4,[],[],⟨[],[]⟩,[],[u0,u1]⟩ ⟨4,[],[],⟨[],[]⟩,[],[v0,v1]⟩=
          cnd (!decide (r=0)) (some [⟨.int .i64,r⟩]) (iM (CTp (L+7000) (n+1)) (L+7000) j u1 v1):=by
    intro u0 u1 v0 v1 r j hr;have e0:CTp (L+7000) (n+1) 97 [⟨.rc 2,u0⟩,⟨.rc 2,v0⟩]=some [⟨.int .i64,r⟩]:=by rw[c97];exact hr
    rw[iM,aFL,coP,eE,isC_4,aJ,coP,eE,isC_4,aFF,aJE,aJ];show obL [.int .i64] (CTp (L+7000) (n+1) 97 [⟨.rc 2,u0⟩,⟨.rc 2,v0⟩]) _=_;rw[e0];rfl
   rw[step x0 x1 y0 y1 r0 m p0,step y0 y1 x0 x1 (-r0) m' q0];by_cases h0:r0=0
   ·rw[decide_eq_true h0,decide_eq_true (by omega: -r0=0),bnT,aF,aF]
    exact⟨r1,p1,q1,fun h=>by rw[z0 h0,z1 h]⟩
   ·rw[decide_eq_false h0,decide_eq_false (by omega: ¬ -r0=0),Bool.not_false,aJ,aJ]
    exact⟨r0,rfl,rfl,fun h=>absurd h h0⟩
  ·obtain⟨n,rfl⟩: ∃q,n=q+60:=⟨n-60,by omega⟩
   have lf: ∀(u v:G.O) (j:Nat),okO u.kind u.num u.den u.sym u.text u.pair=true→okO v.kind v.num v.den v.sym v.text v.pair=true→¬(isC u=true∧isC v=true)→iM (CTp (L+7000) (n+60)) (L+7000) (j+1) u v=some [⟨.int .i64,cL u v⟩]:=by
    intro u v j hu hv huv;rw[iM,aFL,show n+60=n+59+1 from rfl,coP,eE]
    have hl:=leafP hu hv (L:=L) (M:=n) (n1:=iM (CTp (L+7000) (n+60)) (L+7000) j);cases h1:isC u with
    |false=>exact hl
    |true=>
     rw[aJ,coP,eE];cases h2:isC v with
     |false=>exact hl
     |true=>exact(huv ⟨h1,h2⟩).elim
   refine⟨cL ⟨kd,nm,d,s,t,l⟩ b,lf _ _ _ oa ob' hc,?_,fun h=>cL_0 oa ob' ka kb hc h⟩
   rw[lf _ _ _ ob' oa (fun h=>hc ⟨h.2,h.1⟩),cL_neg oa ob' ka kb]
end Go.TV
namespace Go.TV
open Go.AI Go.PI Go.Proofs
set_option maxRecDepth 20000
mutual
def m3:G.T→Nat×Nat×Nat
 |⟨k,_,v,l⟩=>bif decide (k=1)then(1,0,0)else bif decide (k=2)then(0,0,min (nO v) 3001)else((m3' l).1,(m3' l).2.1+1,(m3' l).2.2)
def m3':List G.T→Nat×Nat×Nat
 |[]=>(0,0,0)
 |t::l=>((m3 t).1+(m3' l).1,(m3 t).2.1+(m3' l).2.1,(m3 t).2.2+(m3' l).2.2)
end
theorem m3'_le{l:List G.T}(ih: ∀t∈l,(m3 t).1≤tsz t∧(m3 t).2.1≤tsz t∧(m3 t).2.2≤tsz t):(m3' l).1≤oL l∧(m3' l).2.1≤oL l∧(m3' l).2.2≤oL l:=by
 induction l with
 |nil=>exact⟨nlR _,nlR _,nlR _⟩
 |cons t l ihl=>
  obtain⟨a1,a2,a3⟩:=ih t (mhE ..);obtain⟨b1,b2,b3⟩:=ihl fun x hx=>ih x (mtE _ hx)
  simp only[m3',oL];exact⟨by omega,by omega,by omega⟩
theorem m3_le: ∀t:G.T,(m3 t).1≤tsz t∧(m3 t).2.1≤tsz t∧(m3 t).2.2≤tsz t:=fun t=>by
 induction t using kW with
 |h k n v l ih=>
  obtain⟨a1,a2,a3⟩:=m3'_le ih;have h1:=nO_sz v;simp only[m3,tsz];cases decide (k=1)with
  |true=>exact⟨by show 1≤_;omega,by show 0≤_;omega,by show 0≤_;omega⟩
  |false=>
   cases decide (k=2)with
   |true=>exact⟨by show 0≤_;omega,by show 0≤_;omega,by show min (nO v) 3001≤_;omega⟩
   |false=>exact⟨by show(m3' l).1≤_;omega,by show(m3' l).2.1+1≤_;omega,by show(m3' l).2.2≤_;omega⟩
def a3(x y z:Nat):G.Arr3Int:=⟨(x:Int),(y:Int),(z:Int)⟩
theorem aDy{β:Type}{a:G.Arr3Int}{K:G.Arr3Int×Unit→Option β}:obL (D:=U0.D) [.rc 19] (some [⟨.rc 19,a⟩]) K=K (a,()):=rfl
theorem wrapa{x y:Nat}(h:x+y<4000000000000000000):IntKind.i64.wrap ((x:Int)+(y:Int))=((x+y:Nat):Int):=by rw[pY (by omega) (by omega)];omega
def WtR(L n:Nat)(t:G.T):Prop:= ∀x y z:Nat,x+tsz t≤3000000000→y+tsz t≤3000000000→z+tsz t≤3000000000→CTp L n 73 [⟨.rc 3,t⟩,⟨.rc 19,a3 x y z⟩]=some [⟨.rc 19,a3 (x+(m3 t).1) (y+(m3 t).2.1) (z+(m3 t).2.2)⟩]
theorem tP:(∀k n v l,(G.T.mk k n v l).kind=k)∧(∀k n v l,(G.T.mk k n v l).name=n)∧(∀k n v l,(G.T.mk k n v l).value=v)∧(∀k n v l,(G.T.mk k n v l).args=l):=⟨fun _ _ _ _=>rfl,fun _ _ _ _=>rfl,fun _ _ _ _=>rfl,fun _ _ _ _=>rfl⟩
theorem wt_loop{L n:Nat}{a:List G.T}{b0:G.Arr3Int}(hb:a.length<1000000000): ∀(l:List G.T) (k m x y z:Nat),a.drop k=l→l.length<m→x+oL l≤3000000000→y+oL l≤3000000000→z+oL l≤3000000000→(∀t∈l,WtR L n t)→
    aCt (CTp L n) L m (a.length:Int) a (k:Int) (a3 x y z) b0=some [⟨.rc 19,a3 (x+(m3' l).1) (y+(m3' l).2.1) (z+(m3' l).2.2)⟩]:=by
 intro l;induction l with
 |nil=>
  intro k m x y z h1 h3 _ _ _ _;obtain⟨m,rfl⟩: ∃m',m=m'+1:=⟨m-1,by simp at h3;omega⟩
  have e1:=bC h1;have e3:decide ((k:Int)<(a.length:Int))=false:=by simp;omega
  rw[aCt,B73x2,e3,aF,aFG,aJG];rfl
 |cons t l ih=>
  intro k m x y z h1 h3 q1 q2 q3 hc;obtain⟨m,rfl⟩: ∃m',m=m'+1:=⟨m-1,by simp at h3;omega⟩
  obtain⟨a1,a2,a4⟩:=bB h1;simp only[oL]at q1 q2 q3;obtain⟨b1,b2,b3⟩:=m3_le t;have e3:decide ((k:Int)<(a.length:Int))=true:=by simp;omega
  rw[aCt,B73x2,e3,aJ,aK,a1,eC,hc t (mhE ..) x y z (by omega) (by omega) (by omega),aDy,eD (by omega)]
  refine(ih (k+1) m _ _ _ a4 (by simp at h3;omega) (by omega) (by omega) (by omega) fun u hu=>hc u (mtE _ hu)).trans ?_
  simp only[m3',Nat.add_assoc]
theorem okT_k{t:G.T}(h:tsz t<1000000000):t.kind=1∨t.kind=2∨t.kind=3:=by
 have:=aA1 h;simp only[okTm,Bool.or_eq_true,bjE,djE]at this;rcases this with(h|h)|h
 ·exact .inl h.1.1.1
 ·exact .inr (.inl h.1.1.1)
 ·exact .inr (.inr h.1.1.1)
theorem wt_ok: ∀t:G.T,∀(L n:Nat),tsz t≤L→tsz t≤n→tsz t<900000000→WtR L n t:=fun t=>by
 induction t using kW with
 |h k nm v l ih=>
  intro L n hL hn hw x y z q1 q2 q3;have hk:=okT_k (t:=⟨k,nm,v,l⟩) (by omega)
  change k=1∨k=2∨k=3 at hk;simp only[tsz]at hL hn hw q1 q2 q3;have hlen:=jF l;obtain⟨n,rfl⟩: ∃n',n=n'+1:=⟨n-1,by omega⟩
  rw[c73,F73,B73x0];rcases hk with rfl|rfl|rfl
  ·simp only[tP,decide_true,aJ,m3,cdt];rw[aFG,aJG];show some [(⟨.rc 19,(⟨IntKind.i64.wrap ((x:Int)+1),(y:Int),(z:Int)⟩:G.Arr3Int)⟩:V U0)]=_;rw[eD (by omega)]
   rfl
  ·simp only[tP,decide_true,aJ,m3,cdt,show decide ((2:Int)=1)=false from rfl,aF,cdf]
   rw[nP_ok (by omega) (by omega) (by omega),bP,aFG,aJG]
   show some [(⟨.rc 19,(⟨(x:Int),(y:Int),IntKind.i64.wrap ((z:Int)+((min (nO v) 3001:Nat):Int))⟩:G.Arr3Int)⟩:V U0)]=_;rw[wrapa (by omega)]
   rfl
  ·simp only[tP,decide_true,aJ,m3,show decide ((3:Int)=1)=false from rfl,show decide ((3:Int)=2)=false from rfl,aF,cdf]
   have h1:=wt_loop (n:=n) (L:=L) (a:=l) (b0:=⟨0,0,0⟩) (by omega) l 0 L x (y+1) z rfl (by omega) (by omega) (by omega) (by omega) fun u hu=>ih u hu L n (by have:=cR hu;omega) (by have:=cR hu;omega) (by have:=cR hu;omega)
   have e:(⟨(a3 x y z).a0,IntKind.i64.wrap ((a3 x y z).a1+1),(a3 x y z).a2⟩:G.Arr3Int)=a3 x (y+1) z:=by
    show(⟨(x:Int),IntKind.i64.wrap ((y:Int)+1),(z:Int)⟩:G.Arr3Int)=_;rw[eD (by omega)];rfl
   rw[e];refine h1.trans ?_;rw[show y+1+(m3' l).2.1=y+((m3' l).2.1+1) by omega]
def i3(x y z:Nat):Rt:=some [⟨.int .i64,(x:Int)⟩,⟨.int .i64,(y:Int)⟩,⟨.int .i64,(z:Int)⟩]
theorem obL_i3{β:Type}{a b c:Int}{K:Int×Int×Int×Unit→Option β}:obL (D:=U0.D) [.int .i64,.int .i64,.int .i64] (some [⟨.int .i64,a⟩,⟨.int .i64,b⟩,⟨.int .i64,c⟩]) K=K (a,b,c,()):=rfl
theorem me_loop{L n:Nat}{a:List G.T}{o:G.T}(ho:o.args=a)(hb:a.length<1000000000): ∀(l:List G.T) (k m x y z:Nat),a.drop k=l→l.length<m→x+oL l≤3000000000→y+oL l≤3000000000→z+oL l≤3000000000→(∀t∈l,CTp L n 36 [⟨.rc 3,t⟩]=i3 (m3 t).1 (m3 t).2.1 (m3 t).2.2)→
    aAj (CTp L n) L m (k:Int) (x:Int) (y:Int) (z:Int) o=i3 (x+(m3' l).1) (y+(m3' l).2.1) (z+(m3' l).2.2):=by
 intro l;induction l with
 |nil=>
  intro k m x y z h1 h3 _ _ _ _;obtain⟨m,rfl⟩: ∃m',m=m'+1:=⟨m-1,by simp at h3;omega⟩
  have e1:=bC h1;have e3:decide ((k:Int)<(a.length:Int))=false:=by simp;omega
  rw[aAj,B36x1,ho,e3,aF];rfl
 |cons t l ih=>
  intro k m x y z h1 h3 q1 q2 q3 hc;obtain⟨m,rfl⟩: ∃m',m=m'+1:=⟨m-1,by simp at h3;omega⟩
  obtain⟨a1,a2,a4⟩:=bB h1;simp only[oL]at q1 q2 q3;obtain⟨b1,b2,b3⟩:=m3_le t;have e3:decide ((k:Int)<(a.length:Int))=true:=by simp;omega
  rw[aAj,B36x1,ho,e3,aJ,aK,a1,eC,hc t (mhE ..),i3,obL_i3,eD (by omega)]
  show aAj (CTp L n) L m ((k+1:Nat):Int) (IntKind.i64.wrap ((x:Int)+((m3 t).1:Int))) (IntKind.i64.wrap ((y:Int)+((m3 t).2.1:Int))) (IntKind.i64.wrap ((z:Int)+((m3 t).2.2:Int))) o=_;rw[wrapa (by omega),wrapa (by omega),wrapa (by omega)]
  refine(ih (k+1) m _ _ _ a4 (by simp at h3;omega) (by omega) (by omega) (by omega) fun u hu=>hc u (mtE _ hu)).trans ?_
  simp only[m3',Nat.add_assoc]
theorem me_ok: ∀t:G.T,∀(L n:Nat),tsz t≤L→tsz t≤n→tsz t<900000000→CTp L n 36 [⟨.rc 3,t⟩]=i3 (m3 t).1 (m3 t).2.1 (m3 t).2.2:=fun t=>by
 induction t using kW with
 |h k nm v l ih=>
  intro L n hL hn hw;have hk:=okT_k (t:=⟨k,nm,v,l⟩) (by omega)
  change k=1∨k=2∨k=3 at hk;simp only[tsz]at hL hn hw;have hlen:=jF l;obtain⟨n,rfl⟩: ∃n',n=n'+1:=⟨n-1,by omega⟩
  rw[c36,F36,B36x0];rcases hk with rfl|rfl|rfl
  ·simp only[tP,decide_true,aJ,m3,cdt];rfl
  ·simp only[tP,decide_true,aJ,m3,cdt,show decide ((2:Int)=1)=false from rfl,aF,cdf]
   rw[nR_ok (by omega) (by omega),bP]
   rfl
  ·simp only[tP,decide_true,aJ,m3,show decide ((3:Int)=1)=false from rfl,show decide ((3:Int)=2)=false from rfl,aF,cdf]
   have h1:=me_loop (n:=n) (L:=L) (a:=l) (o:=⟨3,nm,v,l⟩) rfl (by omega) l 0 L 0 1 0 rfl (by omega) (by omega) (by omega) (by omega) fun u hu=>ih u hu L n (by have:=cR hu;omega) (by have:=cR hu;omega) (by have:=cR hu;omega)
   refine h1.trans ?_;rw[Nat.zero_add,Nat.zero_add,Nat.add_comm 1]
end Go.TV
namespace Go.TV
open Go.AI Go.PI Go.Proofs
set_option maxRecDepth 20000
def sgn(a b:Int):Int:=bif decide (a<b)then-1 else bif decide (b<a)then 1 else 0
theorem sg_ok{a b:Int}{L n:Nat}:CTp L (n+1) 37 [⟨.int .i64,a⟩,⟨.int .i64,b⟩]=some [⟨.int .i64,sgn a b⟩]:=by
 rw[c37,F37,B37x0];unfold sgn;cases decide (a<b)with
 |true=>rfl
 |false=>cases decide (b<a)<;>rfl
theorem sgn_0{a b:Int}:sgn a b=0↔a=b:=by
 unfold sgn;by_cases h1:a<b
 ·rw[decide_eq_true h1,cdt];exact⟨fun e=>(by cases e),fun e=>by omega⟩
 ·rw[decide_eq_false h1,cdf];by_cases h2:b<a
  ·rw[decide_eq_true h2,cdt];exact⟨fun e=>(by cases e),fun e=>by omega⟩
  ·rw[decide_eq_false h2,cdf];exact⟨fun _=>by omega,fun _=>rfl⟩
theorem xM{a b:Int}(h: ¬a=b):sgn a b=bif decide (a<b)then-1 else 1:=by
 unfold sgn;by_cases h1:a<b
 ·rw[decide_eq_true h1];rfl
 ·rw[decide_eq_false h1,cdf,cdf,decide_eq_true (by omega:b<a)];rfl
def Bth(L n k:Nat)(i j:Nat)(d:TVs):Prop:= ∃r:Int,CTp (L+7000) n i d=some [⟨.int .i64,r⟩]∧CTp (L+7000) k j d=some [⟨.int .i64,r⟩]
theorem uP{c:TC0}{L m:Nat}{i r:Int}{a b:G.T}(h: ¬r=0):pO c L (m+1) i r a b=some [⟨.int .i64,r⟩]:=by
 rw[pO,aJH,decide_eq_false h];have e:J38x3 c L (pO c L m) false i r a b=some [⟨.int .i64,r⟩]:=rfl;cases decide (i<(a.args.length:Int))with
 |false=>exact e
 |true=>cases decide (i<(b.args.length:Int))<;>exact e
theorem st_loop{L n k:Nat}{a b:G.T}(hab:a.args.length=b.args.length)(hb:a.args.length<1000000000): ∀(l l':List G.T) (i m m':Nat),a.args.drop i=l→b.args.drop i=l'→l.length<m→l.length+1<m'→
    (∀x∈l,∀y∈l',Bth L n k 74 38 [⟨.rc 3,x⟩,⟨.rc 3,y⟩])→
    ∃r:Int,jB (CTp (L+7000) n) (L+7000) m (a.args.length:Int) a.args (i:Int) b=some [⟨.int .i64,r⟩]∧pO (CTp (L+7000) k) (L+7000) m' (i:Int) 0 a b=some [⟨.int .i64,r⟩]:=by
 intro l;induction l with
 |nil=>
  intro l' i m m' h1 h2 h3 h4 _;obtain⟨m,rfl⟩: ∃q,m=q+1:=⟨m-1,by simp at h3;omega⟩
  obtain⟨m',rfl⟩: ∃q,m'=q+1:=⟨m'-1,by simp at h4;omega⟩
  have e1:=bC h1;have e3:decide ((i:Int)<(a.args.length:Int))=false:=by simp;omega
  refine⟨0,?_,?_⟩
  ·rw[jB,wT,e3,aF]
  ·rw[pO,aJH,e3,aF];rfl
 |cons x l ih=>
  intro l' i m m' h1 h2 h3 h4 hc;obtain⟨m,rfl⟩: ∃q,m=q+1:=⟨m-1,by simp at h3;omega⟩
  obtain⟨m',rfl⟩: ∃q,m'=q+2:=⟨m'-2,by simp at h4;omega⟩
  obtain⟨a1,a2,a3⟩:=bB h1;cases l' with
  |nil=>exact absurd (by omega:i<b.args.length) (bC h2)
  |cons y l'=>
  obtain⟨b1,b2,b3⟩:=bB h2;have e3:decide ((i:Int)<(a.args.length:Int))=true:=by simp;omega
  have e4:decide ((i:Int)<(b.args.length:Int))=true:=by simp;omega
  obtain⟨r,p1,p2⟩:=hc x (mhE ..) y (mhE ..);have hP:jB (CTp (L+7000) n) (L+7000) (m+1) (a.args.length:Int) a.args (i:Int) b=cnd (!decide (r=0)) (some [⟨.int .i64,r⟩]) (jB (CTp (L+7000) n) (L+7000) m (a.args.length:Int) a.args ((i+1:Nat):Int) b):=by
   rw[jB,wT,e3,aJ,aK,a1,eC,aK,b1,eC,p1,bP,eD (by omega)]
  have hR:pO (CTp (L+7000) k) (L+7000) (m'+2) (i:Int) 0 a b=pO (CTp (L+7000) k) (L+7000) (m'+1) ((i+1:Nat):Int) r a b:=by
   rw[pO,aJH,e3,aJ,e4,aJ,J38x3,B38x3,decide_eq_true rfl,aJ,aK,a1,eC,aK,b1,eC,p2,bP,eD (by omega)]
  rw[hP,hR];by_cases h0:r=0
  ·rw[decide_eq_true h0,bnT,aF,h0];exact ih l' (i+1) m (m'+1) a3 b3 (by simp at h3;omega) (by simp at h4;omega) fun u hu v hv=>hc u (mtE _ hu) v (mtE _ hv)
  ·rw[decide_eq_false h0,Bool.not_false,aJ];exact⟨r,rfl,uP h0⟩
theorem okT1{t:G.T}(h:tsz t<1000000000)(hk:t.kind=1):t.args=[]:=by
 have:=aA1 h;simp only[okTm,hk,Bool.or_eq_true,bjE,djE,List.isEmpty_iff]at this;rcases this with(h|h)|h
 ·exact h.2
 ·exact absurd h.1.1.1 (by decide)
 ·exact absurd h.1.1.1 (by decide)
theorem st_ok: ∀a b:G.T,∀(L n k:Nat),tsz a<900000000→tsz b<900000000→tsz a+80≤n→tsz a+80≤k→tsz a≤L→Bth L n k 74 38 [⟨.rc 3,a⟩,⟨.rc 3,b⟩]:=fun a=>by
 induction a using kW with
 |h ka na va la ih=>
  intro b L n k ha hb hn hk hL;have hka:=okT_k (t:=⟨ka,na,va,la⟩) (by omega)
  have hkb:=okT_k (t:=b) (by omega)
  have hT1:=okT1 (t:=⟨ka,na,va,la⟩) (by omega)
  have hT2:=okT1 (t:=b) (by omega)
  obtain⟨kb,nb,vb,lb⟩:=b;change ka=1∨ka=2∨ka=3 at hka;change kb=1∨kb=2∨kb=3 at hkb;change ka=1→la=[]at hT1;change kb=1→lb=[]at hT2;simp only[tsz]at ha hb hn hk hL;have hla:=jF la;obtain⟨n,rfl⟩: ∃q,n=q+3:=⟨n-3,by omega⟩
  obtain⟨k,rfl⟩: ∃q,k=q+3:=⟨k-3,by omega⟩
  unfold Bth;rw[show n+3=n+2+1 from rfl,c74,F74,aJF,show k+3=k+2+1 from rfl,c38,F38,B38x0,show CTp (L+7000) (k+2)=CTp (L+7000) (k+1+1) from rfl,sg_ok,bP]
  simp only[tP];by_cases h:ka=kb
  ·rw[decide_eq_true h,decide_eq_true (sgn_0.2 h)];simp only[bnT,aF];have hsy: ∀r:Int,r=cY na nb→la.length=lb.length∨¬la.length=lb.length→∃q:Int,
          (cnd (!decide (r=0)) (some [⟨.int .i64,r⟩]:Rt) (cnd (!decide ((la.length:Int)=(lb.length:Int))) (cnd (decide ((la.length:Int)<(lb.length:Int))) (some [⟨.int .i64,(-1:Int)⟩]) (some [⟨.int .i64,(1:Int)⟩])) (jB (CTp (L+7000) (n+2)) (L+7000) (L+7000) (la.length:Int) la 0 ⟨kb,nb,vb,lb⟩)))=some [⟨.int .i64,q⟩]∧
          (cnd (decide (r=0)) (obL [(.int .i64)] (CTp (L+7000) (k+1+1) 37 [⟨(.int .i64),(la.length:Int)⟩,⟨(.int .i64),(lb.length:Int)⟩]) fun(r4:Int×Unit)=>aFH (CTp (L+7000) (k+1+1)) (L+7000) r4.1 ⟨ka,na,va,la⟩ ⟨kb,nb,vb,lb⟩) (aFH (CTp (L+7000) (k+1+1)) (L+7000) r ⟨ka,na,va,la⟩ ⟨kb,nb,vb,lb⟩))=some [⟨.int .i64,q⟩]:=by
    intro r _ _;by_cases h0:r=0
    ·rw[decide_eq_true h0,bnT,aF,aJ,sg_ok,bP,aFH,B38x1];by_cases hl:la.length=lb.length
     ·rw[decide_eq_true (by omega:(la.length:Int)=(lb.length:Int)),bnT,aF,show sgn (la.length:Int) (lb.length:Int)=0 from sgn_0.2 (by omega)]
      refine st_loop (L:=L) (n:=n+2) (k:=k+1+1) (a:=⟨ka,na,va,la⟩) (b:=⟨kb,nb,vb,lb⟩) hl (show la.length<1000000000 by omega) la lb 0 (L+7000) (L+7000) rfl rfl (by omega) (by omega) fun x hx y hy=>?_
      have h1:=cR hx;have h2:=cR hy;exact ih x hx y L (n+2) (k+1+1) (by omega) (by omega) (by omega) (by omega) (by omega)
     ·rw[decide_eq_false (by omega: ¬(la.length:Int)=(lb.length:Int)),Bool.not_false,aJ]
      refine⟨sgn (la.length:Int) (lb.length:Int),?_,?_⟩
      ·rw[xM (by omega)]
       cases decide ((la.length:Int)<(lb.length:Int))<;>rfl
      ·rw[show L+7000=L+6999+1 from rfl]
       exact uP fun e=>by have:=sgn_0.1 e;omega
    ·rw[decide_eq_false h0,Bool.not_false,aJ,aF,aFH,B38x1];exact⟨r,rfl,by rw[show L+7000=L+6999+1 from rfl];exact uP h0⟩
   by_cases h2:ka=2
   ·rw[decide_eq_true h2,aJ,decide_eq_false (by omega: ¬ka=1),aF,aJ]
    obtain⟨r,p1,p2⟩:=oCP (a:=va) (b:=vb) (L:=L) (n:=n+2) (k:=k+1+1) (by omega) (by omega) (by omega) (by omega) (by omega)
    exact⟨r,by rw[p1,bP],by rw[p2,bP]⟩
   ·rw[decide_eq_false h2,aF,aF,show n+2=n+2 from rfl,syP,bP,show k+1+1=k+2 from rfl,syR]
    simp only[bP];obtain⟨q,q1,q2⟩:=hsy (cY na nb) rfl (by omega)
    by_cases h1:ka=1
    ·rw[decide_eq_true h1,aJ];have e1:=hT1 h1;have e2:=hT2 (h▸h1);subst e1 e2;refine⟨cY na nb,?_,rfl⟩;by_cases h0:cY na nb=0
     ·rw[decide_eq_true h0,bnT,aF,h0];show jB (CTp (L+7000) (n+2)) (L+7000) (L+6999+1) (0:Int) [] 0 ⟨kb,nb,vb,[]⟩=_;rw[jB,wT];rfl
     ·rw[decide_eq_false h0,Bool.not_false,aJ]
    ·rw[decide_eq_false h1,aF];exact⟨q,q1,q2⟩
  ·rw[decide_eq_false h,decide_eq_false (fun e=>h (sgn_0.1 e))]
   simp only[Bool.not_false,aJ];refine⟨sgn ka kb,?_,rfl⟩;rw[xM h];cases decide (ka<kb)<;>rfl
theorem cmp_ok{a b:G.T}{L n k:Nat}(ha:tsz a<900000000)(hb:tsz b<900000000)(hn:tsz a+tsz b+82≤n)(hk:tsz a+tsz b+82≤k)(hL:tsz a+tsz b≤L):Bth L n k 33 9 [⟨.rc 3,a⟩,⟨.rc 3,b⟩]:=by
 obtain⟨n,rfl⟩: ∃q,n=q+1:=⟨n-1,by omega⟩
 obtain⟨k,rfl⟩: ∃q,k=q+2:=⟨k-2,by omega⟩
 obtain⟨s,s1,s2⟩:=st_ok a b L n (k+1) ha hb (by omega) (by omega) (by omega)
 have wa:=wt_ok a (L+7000) n (by omega) (by omega) ha 0 0 0 (by omega) (by omega) (by omega)
 have wb:=wt_ok b (L+7000) n (by omega) (by omega) hb 0 0 0 (by omega) (by omega) (by omega)
 have ma:=me_ok a (L+7000) (k+1) (by omega) (by omega) ha
 have mb:=me_ok b (L+7000) (k+1) (by omega) (by omega) hb
 simp only[Nat.zero_add]at wa wb;unfold Bth;rw[c33,F33,aJI,show k+2=k+1+1 from rfl,c9,F9,B9x0]
 rw[show(⟨0,0,0⟩:G.Arr3Int)=a3 0 0 0 from rfl,wa,aDy,wb,aDy,ma,mb]
 simp only[i3,obL_i3,sg_ok,bP,s2];generalize (m3 a).1=a0;generalize (m3 a).2.1=a1;generalize (m3 a).2.2=a2;generalize (m3 b).1=b0;generalize (m3 b).2.1=b1;generalize (m3 b).2.2=b2;have jn: ∀r:Int,¬r=0→eB (CTp (L+7000) n) (L+7000) r a b=some [⟨.int .i64,r⟩]:=fun r h=>by
  rw[eB,aCC,decide_eq_false h];rfl
 have j0:eB (CTp (L+7000) n) (L+7000) 0 a b=some [⟨.int .i64,s⟩]:=by
  rw[eB,aCC,s1];rfl
 show∃r:Int,cnd (decide ((a0:Int)<(b0:Int))) (eB (CTp (L+7000) n) (L+7000) (-1) a b) (cnd (decide ((b0:Int)<(a0:Int))) (eB (CTp (L+7000) n) (L+7000) 1 a b)
      (cnd (decide ((a1:Int)<(b1:Int))) (eB (CTp (L+7000) n) (L+7000) (-1) a b) (cnd (decide ((b1:Int)<(a1:Int))) (eB (CTp (L+7000) n) (L+7000) 1 a b)
        (cnd (decide ((a2:Int)<(b2:Int))) (eB (CTp (L+7000) n) (L+7000) (-1) a b) (cnd (decide ((b2:Int)<(a2:Int))) (eB (CTp (L+7000) n) (L+7000) 1 a b) (eB (CTp (L+7000) n) (L+7000) 0 a b))))))=some [⟨.int .i64,r⟩]∧
  cnd (!decide ((a0:Int)=(b0:Int))) (some [⟨.int .i64,sgn (a0:Int) (b0:Int)⟩]:Rt) (cnd (!decide ((a1:Int)=(b1:Int))) (some [⟨.int .i64,sgn (a1:Int) (b1:Int)⟩]:Rt) (cnd (!decide ((a2:Int)=(b2:Int))) (some [⟨.int .i64,sgn (a2:Int) (b2:Int)⟩]:Rt) (some [⟨.int .i64,s⟩]:Rt)))=some [⟨.int .i64,r⟩]
 by_cases h0:(a0:Int)=(b0:Int)
 ·rw[decide_eq_true h0,decide_eq_false (by omega: ¬(a0:Int)<(b0:Int)),decide_eq_false (by omega: ¬(b0:Int)<(a0:Int)),aF,aF,bnT,aF]
  by_cases h1:(a1:Int)=(b1:Int)
  ·rw[decide_eq_true h1,decide_eq_false (by omega: ¬(a1:Int)<(b1:Int)),decide_eq_false (by omega: ¬(b1:Int)<(a1:Int)),aF,aF,bnT,aF]
   by_cases h2:(a2:Int)=(b2:Int)
   ·rw[decide_eq_true h2,decide_eq_false (by omega: ¬(a2:Int)<(b2:Int)),decide_eq_false (by omega: ¬(b2:Int)<(a2:Int)),aF,aF,bnT,aF]
    exact⟨s,j0,rfl⟩
   ·rw[decide_eq_false h2,Bool.not_false,aJ];refine⟨_,?_,rfl⟩;rw[xM h2];by_cases h3:(a2:Int)<(b2:Int)
    ·rw[decide_eq_true h3,aJ];exact jn _ (by decide)
    ·rw[decide_eq_false h3,aF,decide_eq_true (by omega:(b2:Int)<(a2:Int)),aJ];exact jn _ (by decide)
  ·rw[decide_eq_false h1,Bool.not_false,aJ];refine⟨_,?_,rfl⟩;rw[xM h1];by_cases h3:(a1:Int)<(b1:Int)
   ·rw[decide_eq_true h3,aJ];exact jn _ (by decide)
   ·rw[decide_eq_false h3,aF,decide_eq_true (by omega:(b1:Int)<(a1:Int)),aJ];exact jn _ (by decide)
 ·rw[decide_eq_false h0,Bool.not_false,aJ];refine⟨_,?_,rfl⟩;rw[xM h0];by_cases h3:(a0:Int)<(b0:Int)
  ·rw[decide_eq_true h3,aJ];exact jn _ (by decide)
  ·rw[decide_eq_false h3,aF,decide_eq_true (by omega:(b0:Int)<(a0:Int)),aJ];exact jn _ (by decide)
end Go.TV
namespace Go.TV
open Go.AI Go.PI Go.Proofs
set_option maxRecDepth 20000
theorem vz_of{v:G.O}(h:osz v<1000000000)(hk:v.kind=0):v=⟨0,[],[],⟨[],[]⟩,[],[]⟩:=by
 have ho:=yE h;obtain⟨k,n,d,s,t,l⟩:=v;change okO k n d s t l=true at ho;change k=0 at hk;subst hk;simp only[okO,Bool.or_eq_true,bjE,djE,List.isEmpty_iff]at ho;rcases ho with(((h|h)|h)|h)|h
 ·obtain⟨⟨⟨⟨⟨_,rfl⟩,rfl⟩,rfl⟩,rfl⟩,rfl⟩:=h;rfl
 ·exact absurd h.1.1.1.1 (by decide)
 ·exact absurd h.1.1.1.1.1 (by decide)
 ·exact absurd h.1.1.1.1.1 (by decide)
 ·exact absurd h.1.1.1.1.1 (by decide)
theorem okT_f{k:Int}{n:G.Y}{v:G.O}{l:List G.T}(h:tsz ⟨k,n,v,l⟩<1000000000):(k=1∧v=zrO∧l=[])∨(k=2∧n=⟨[],[]⟩∧l=[]∧v.kind≠0)∨(k=3∧v=zrO):=by
 have h1:=aA1 h;have hv:osz v<1000000000:=by simp only[tsz]at h;omega
 change okTm k n v l=true at h1;simp only[okTm,Bool.or_eq_true,bjE,djE,List.isEmpty_iff,Bool.not_eq_true',dfN]at h1;rcases h1 with(h1|h1)|h1
 ·exact .inl ⟨h1.1.1.1,vz_of hv h1.1.2,h1.2⟩
 ·exact .inr (.inl ⟨h1.1.1.1,h1.1.1.2,h1.1.2,h1.2⟩)
 ·exact .inr (.inr ⟨h1.1.1.1,vz_of hv h1.2⟩)
def pm(a b:Int):Int:=bif decide (a<b)then-1 else 1
theorem pm_r{a b:Int}:cnd (decide (a<b)) (some [⟨.int .i64,(-1:Int)⟩]:Rt) (some [⟨.int .i64,(1:Int)⟩])=some [⟨.int .i64,pm a b⟩]:=by
 unfold pm;cases decide (a<b)<;>rfl
theorem xX{a b:Int}(h: ¬a=b):pm b a= -pm a b:=by
 unfold pm;by_cases h1:a<b
 ·rw[decide_eq_true h1,decide_eq_false (by omega: ¬b<a)];rfl
 ·rw[decide_eq_false h1,decide_eq_true (by omega:b<a)];rfl
theorem pm_0{a b:Int}:pm a b≠0:=by unfold pm;cases decide (a<b)<;>decide
def Two(L n:Nat)(f:Nat)(a b:G.T):Prop:= ∃r:Int,CTp (L+7000) n f [⟨.rc 3,a⟩,⟨.rc 3,b⟩]=some [⟨.int .i64,r⟩]∧CTp (L+7000) n f [⟨.rc 3,b⟩,⟨.rc 3,a⟩]=some [⟨.int .i64,-r⟩]∧(r=0→a=b)
theorem sX_loop{L n:Nat}{a b:G.T}(hab:a.args.length=b.args.length)(hb:a.args.length<1000000000): ∀(l l':List G.T) (i m m':Nat),a.args.drop i=l→b.args.drop i=l'→l.length<m→l.length<m'→
    (∀x∈l,∀y∈l',Two L n 74 x y)→
    ∃r:Int,jB (CTp (L+7000) n) (L+7000) m (a.args.length:Int) a.args (i:Int) b=some [⟨.int .i64,r⟩]∧jB (CTp (L+7000) n) (L+7000) m' (b.args.length:Int) b.args (i:Int) a=some [⟨.int .i64,-r⟩]∧(r=0→l=l'):=by
 intro l;induction l with
 |nil=>
  intro l' i m m' h1 h2 h3 h4 _;obtain⟨m,rfl⟩: ∃q,m=q+1:=⟨m-1,by simp at h3;omega⟩
  obtain⟨m',rfl⟩: ∃q,m'=q+1:=⟨m'-1,by simp at h4;omega⟩
  have e1:=bC h1;have e3:decide ((i:Int)<(a.args.length:Int))=false:=by simp;omega
  have e4:decide ((i:Int)<(b.args.length:Int))=false:=by simp;omega
  refine⟨0,?_,?_,fun _=>?_⟩
  ·rw[jB,wT,e3,aF]
  ·rw[jB,wT,e4,aF];rfl
  ·cases l' with
   |nil=>rfl
   |cons y l'=>obtain⟨_,b2,_⟩:=bB h2;omega
 |cons x l ih=>
  intro l' i m m' h1 h2 h3 h4 hc;obtain⟨m,rfl⟩: ∃q,m=q+1:=⟨m-1,by simp at h3;omega⟩
  obtain⟨m',rfl⟩: ∃q,m'=q+1:=⟨m'-1,by simp at h4;omega⟩
  obtain⟨a1,a2,a3⟩:=bB h1;cases l' with
  |nil=>exact absurd (by omega:i<b.args.length) (bC h2)
  |cons y l'=>
  obtain⟨b1,b2,b3⟩:=bB h2;have e3:decide ((i:Int)<(a.args.length:Int))=true:=by simp;omega
  have e4:decide ((i:Int)<(b.args.length:Int))=true:=by simp;omega
  obtain⟨r,p1,p2,p3⟩:=hc x (mhE ..) y (mhE ..);rw[jB,wT,e3,aJ,aK,a1,eC,aK,b1,eC,p1,bP,eD (by omega),jB,wT,e4,aJ,aK,b1,eC,aK,a1,eC,p2,bP,eD (by omega)]
  by_cases h0:r=0
  ·simp only[decide_eq_true h0,decide_eq_true (by omega: -r=0),bnT,aF]
   obtain⟨q,q1,q2,q3⟩:=ih l' (i+1) m m' a3 b3 (by simp at h3;omega) (by simp at h4;omega) fun u hu v hv=>hc u (mtE _ hu) v (mtE _ hv)
   exact⟨q,q1,q2,fun h=>by rw[p3 h0,q3 h]⟩
  ·simp only[decide_eq_false h0,decide_eq_false (by omega: ¬ -r=0),Bool.not_false,aJ]
   exact⟨r,rfl,rfl,fun h=>absurd h h0⟩
theorem sX: ∀a b:G.T,∀(L n:Nat),tsz a<900000000→tsz b<900000000→tsz a+tsz b+80≤n→tsz a+tsz b≤L→Two L n 74 a b:=fun a=>by
 induction a using kW with
 |h ka na va la ih=>
  intro b L n ha hb hn hL;have fa:=okT_f (k:=ka) (n:=na) (v:=va) (l:=la) (by omega)
  obtain⟨kb,nb,vb,lb⟩:=b;have fb:=okT_f (k:=kb) (n:=nb) (v:=vb) (l:=lb) (by omega)
  simp only[tsz]at ha hb hn hL;have hla:=jF la;have hlb:=jF lb;obtain⟨n,rfl⟩: ∃q,n=q+3:=⟨n-3,by omega⟩
  unfold Two;rw[show n+3=n+2+1 from rfl,c74,F74,aJF,c74,F74,aJF]
  simp only[tP];by_cases h:ka=kb
  ·subst h;simp only[decide_true,bnT,aF];by_cases h2:ka=2
   ·subst h2;simp only[decide_true,aJ];rcases fa with⟨h3,_⟩|⟨_,rfl,rfl,kva⟩|⟨h3,_⟩
    ·cases h3
    ·rcases fb with⟨h3,_⟩|⟨_,rfl,rfl,kvb⟩|⟨h3,_⟩
     ·cases h3
     ·obtain⟨r,p1,p2,p3⟩:=oX va vb L (n+1) (L+7000) (L+7000) (by omega) (by omega) kva kvb (by omega) (by omega) (by omega) (by omega)
      have e1:CTp (L+7000) (n+2) 97 [⟨.rc 2,va⟩,⟨.rc 2,vb⟩]=some [⟨.int .i64,r⟩]:=by rw[show n+2=n+1+1 from rfl,c97];exact p1
      have e2:CTp (L+7000) (n+2) 97 [⟨.rc 2,vb⟩,⟨.rc 2,va⟩]=some [⟨.int .i64,-r⟩]:=by rw[show n+2=n+1+1 from rfl,c97];exact p2
      rw[e1,e2];exact⟨r,rfl,rfl,fun h=>by rw[p3 h]⟩
     ·cases h3
    ·cases h3
   ·simp only[decide_eq_false h2,aF];have hva:va=zrO∧vb=zrO:=by
     rcases fa with⟨_,h3,_⟩|⟨h3,_⟩|⟨_,h3⟩
     ·rcases fb with⟨_,h4,_⟩|⟨h4,_⟩|⟨_,h4⟩
      ·exact⟨h3,h4⟩
      ·exact absurd h4 h2
      ·exact⟨h3,h4⟩
     ·exact absurd h3 h2
     ·rcases fb with⟨_,h4,_⟩|⟨h4,_⟩|⟨_,h4⟩
      ·exact⟨h3,h4⟩
      ·exact absurd h4 h2
      ·exact⟨h3,h4⟩
    obtain⟨hz1,hz2⟩:=hva;rw[syP,syP];simp only[bP];rw[cY_neg na nb];by_cases h0:cY na nb=0
    ·have hnn:=cY_0 h0;simp only[decide_eq_true h0,decide_eq_true (by omega: -cY na nb=0),bnT,aF]
     by_cases hl:la.length=lb.length
     ·simp only[decide_eq_true (by omega:(la.length:Int)=(lb.length:Int)),decide_eq_true (by omega:(lb.length:Int)=(la.length:Int)),bnT,aF]
      obtain⟨r,p1,p2,p3⟩:=sX_loop (L:=L) (n:=n+2) (a:=⟨ka,na,va,la⟩) (b:=⟨ka,nb,vb,lb⟩) hl (show la.length<1000000000 by omega) la lb 0 (L+7000) (L+7000) rfl rfl (by omega) (by omega) fun x hx y hy=>by
       have h1:=cR hx;have h2:=cR hy;exact ih x hx y L (n+2) (by omega) (by omega) (by omega) (by omega)
      exact⟨r,p1,p2,fun h=>by rw[hnn,hz1,hz2,p3 h]⟩
     ·simp only[decide_eq_false (by omega: ¬(la.length:Int)=(lb.length:Int)),decide_eq_false (by omega: ¬(lb.length:Int)=(la.length:Int)),Bool.not_false,aJ]
      rw[pm_r,pm_r,xX (a:=(la.length:Int)) (by omega)]
      exact⟨_,rfl,rfl,fun h=>absurd h pm_0⟩
    ·simp only[decide_eq_false h0,decide_eq_false (by omega: ¬ -cY na nb=0),Bool.not_false,aJ]
     exact⟨_,rfl,rfl,fun h=>absurd h h0⟩
  ·have h': ¬kb=ka:=fun e=>h e.symm
   simp only[decide_eq_false h,decide_eq_false h',Bool.not_false,aJ];rw[pm_r,pm_r,xX h];exact⟨_,rfl,rfl,fun e=>absurd e pm_0⟩
theorem cX{a b:G.T}{L n:Nat}(ha:tsz a<900000000)(hb:tsz b<900000000)(hn:tsz a+tsz b+82≤n)(hL:tsz a+tsz b≤L):Two L n 33 a b:=by
 obtain⟨n,rfl⟩: ∃q,n=q+1:=⟨n-1,by omega⟩
 obtain⟨s,s1,s2,s3⟩:=sX a b L n ha hb (by omega) (by omega)
 have wa:=wt_ok a (L+7000) n (by omega) (by omega) ha 0 0 0 (by omega) (by omega) (by omega)
 have wb:=wt_ok b (L+7000) n (by omega) (by omega) hb 0 0 0 (by omega) (by omega) (by omega)
 simp only[Nat.zero_add]at wa wb;unfold Two;rw[c33,F33,aJI,c33,F33,aJI];rw[show(⟨0,0,0⟩:G.Arr3Int)=a3 0 0 0 from rfl,wa,wb]
 simp only[aDy];generalize (m3 a).1=a0;generalize (m3 a).2.1=a1;generalize (m3 a).2.2=a2;generalize (m3 b).1=b0;generalize (m3 b).2.1=b1;generalize (m3 b).2.2=b2;have jn: ∀(r:Int) (x y:G.T),¬r=0→eB (CTp (L+7000) n) (L+7000) r x y=some [⟨.int .i64,r⟩]:=fun r x y h=>by
  rw[eB,aCC,decide_eq_false h];rfl
 have j0:eB (CTp (L+7000) n) (L+7000) 0 a b=some [⟨.int .i64,s⟩]:=by
  rw[eB,aCC,s1];rfl
 have j0':eB (CTp (L+7000) n) (L+7000) 0 b a=some [⟨.int .i64,-s⟩]:=by
  rw[eB,aCC,s2];rfl
 have key: ∀(x y:G.T) (x0 x1 x2 y0 y1 y2:Nat),(cnd (decide ((x0:Int)<(y0:Int))) (eB (CTp (L+7000) n) (L+7000) (-1) x y) (cnd (decide ((y0:Int)<(x0:Int))) (eB (CTp (L+7000) n) (L+7000) 1 x y)
      (cnd (decide ((x1:Int)<(y1:Int))) (eB (CTp (L+7000) n) (L+7000) (-1) x y) (cnd (decide ((y1:Int)<(x1:Int))) (eB (CTp (L+7000) n) (L+7000) 1 x y)
        (cnd (decide ((x2:Int)<(y2:Int))) (eB (CTp (L+7000) n) (L+7000) (-1) x y) (cnd (decide ((y2:Int)<(x2:Int))) (eB (CTp (L+7000) n) (L+7000) 1 x y) (eB (CTp (L+7000) n) (L+7000) 0 x y)))))))=
      bif decide (x0=y0)then(bif decide (x1=y1)then(bif decide (x2=y2)then eB (CTp (L+7000) n) (L+7000) 0 x y else some [⟨.int .i64,pm x2 y2⟩])else some [⟨.int .i64,pm x1 y1⟩])else some [⟨.int .i64,pm x0 y0⟩]:=by
  intro x y x0 x1 x2 y0 y1 y2;have one: ∀(u v:Nat) (K:Rt),(cnd (decide ((u:Int)<(v:Int))) (eB (CTp (L+7000) n) (L+7000) (-1) x y) (cnd (decide ((v:Int)<(u:Int))) (eB (CTp (L+7000) n) (L+7000) 1 x y) K))=bif decide (u=v)then K else some [⟨.int .i64,pm u v⟩]:=by
   intro u v K;by_cases e:u=v
   ·rw[decide_eq_true e,cdt,decide_eq_false (by omega: ¬(u:Int)<(v:Int)),decide_eq_false (by omega: ¬(v:Int)<(u:Int))];rfl
   ·rw[decide_eq_false e,cdf];unfold pm;by_cases e2:(u:Int)<(v:Int)
    ·rw[decide_eq_true e2,aJ,cdt];exact jn _ _ _ (by decide)
    ·rw[decide_eq_false e2,aF,cdf,decide_eq_true (by omega:(v:Int)<(u:Int)),aJ];exact jn _ _ _ (by decide)
  rw[one x2 y2,one x1 y1,one x0 y0]
 refine(fun h=>h) (show∃r:Int,_=_∧_=_∧_ from ?_)
 have k1:=key a b a0 a1 a2 b0 b1 b2;have k2:=key b a b0 b1 b2 a0 a1 a2;by_cases h0:a0=b0
 ·rw[decide_eq_true h0,cdt]at k1;rw[decide_eq_true h0.symm,cdt]at k2;by_cases h1:a1=b1
  ·rw[decide_eq_true h1,cdt]at k1;rw[decide_eq_true h1.symm,cdt]at k2;by_cases h2:a2=b2
   ·rw[decide_eq_true h2,cdt]at k1;rw[decide_eq_true h2.symm,cdt]at k2;exact⟨s,k1.trans j0,k2.trans j0',s3⟩
   ·rw[decide_eq_false h2,cdf]at k1;rw[decide_eq_false (show¬b2=a2 from fun e=>h2 e.symm),cdf,xX (a:=(a2:Int)) (by omega)]at k2
    exact⟨_,k1,k2,fun e=>absurd e pm_0⟩
  ·rw[decide_eq_false h1,cdf]at k1;rw[decide_eq_false (show¬b1=a1 from fun e=>h1 e.symm),cdf,xX (a:=(a1:Int)) (by omega)]at k2
   exact⟨_,k1,k2,fun e=>absurd e pm_0⟩
 ·rw[decide_eq_false h0,cdf]at k1;rw[decide_eq_false (show¬b0=a0 from fun e=>h0 e.symm),cdf,xX (a:=(a0:Int)) (by omega)]at k2
  exact⟨_,k1,k2,fun e=>absurd e pm_0⟩
end Go.TV
namespace Go.TV
open Go.AI Go.PI Go.Proofs
theorem EqO_loop{c:TC0}{L:Nat}{a b:G.O}(hl:a.pair.length=b.pair.length)(hb:a.pair.length<1000000000): ∀(l r:List G.O) (k m:Nat),a.pair.drop k=l→b.pair.drop k=r→l.length<m→
    (∀x,x∈l→∀y,c 34 (oo x y)=some (bb (decide (x=y))))→aCy c L m (k:Int) a b=some (bb (decide (l=r))):=by
 intro l;induction l with
 |nil=>
  intro r k m h1 h2 h3 _;obtain⟨m,rfl⟩: ∃m',m=m'+1:=⟨m-1,by simp at h3;omega⟩
  have e1:=bC h1;have e2:r=[]:=by rw[←h2];exact List.drop_eq_nil_of_le (by omega)
  have e3:decide ((k:Int)<(a.pair.length:Int))=false:=by simp;omega
  rw[aCy,B34x2,e3,e2];simp only[aF,decide_true];rfl
 |cons x l ih=>
  intro r k m h1 h2 h3 hc;obtain⟨m,rfl⟩: ∃m',m=m'+1:=⟨m-1,by simp at h3;omega⟩
  obtain⟨a1,a2,a3⟩:=bB h1;cases r with
  |nil=>have:=bC h2;omega
  |cons y r=>
   obtain⟨b1,b2,b3⟩:=bB h2;have e3:decide ((k:Int)<(a.pair.length:Int))=true:=by simp;omega
   have hxy:c 34 [yR 2 x,yR 2 y]=some [yB (decide (x=y))]:=hc x (mhE ..) y;rw[aCy,B34x2,e3,aJ,aK,aK,a1,b1,eC,eC,hxy,eE,eD (by omega)]
   by_cases e:x=y
   ·subst e;simp only[decide_true,bnT,aF];rw[ih r (k+1) m a3 b3 (by simp at h3;omega) fun z hz=>hc z (mtE _ hz)]
    simp
   ·simp only[e,decide_false,Bool.not_false,aJ];simp[e,bb]
theorem Equal_ok: ∀(a:G.O),wfO a→∀(b:G.O) (L n:Nat),osz a≤L→osz a≤n→CTp L n 34 (oo a b)=some (bb (decide (a=b))):=by
 intro a;induction a using lE with
 |h k nu d s t l ih=>
  intro hw b L n hL hn;simp only[wfO,osz]at hw hL hn;have hlen:=aAZ l;obtain⟨n,rfl⟩: ∃n',n=n'+1:=⟨n-1,by omega⟩
  cases b with|mk k' nu' d' s' t' l'=>
  show CTp L (n+1) 34 [yR 2 _,yR 2 _]=_;rw[c34];simp only[F34,B34x0,J34x1,B34x1,G.O.kind,G.O.num,G.O.den,G.O.sym,G.O.text,G.O.pair,G.O.mk.injEq];by_cases e1:k=k'
  ·by_cases e2:nu=nu'
   ·by_cases e3:d=d'
    ·by_cases e4:s=s'
     ·by_cases e5:t=t'
      ·by_cases e6:(l.length:Int)=(l'.length:Int)
       ·simp only[e1,e2,e3,e4,e5,e6,decide_true,bnT,aF,true_and];have:=EqO_loop (c:=CTp L n) (L:=L) (a:=⟨k,nu,d,s,t,l⟩) (b:=⟨k',nu',d',s',t',l'⟩) (by show l.length=l'.length;omega) (by show l.length<_;omega) l l' 0 L rfl rfl (by omega) fun x hx y=>ih x hx (by have:=fB hx;simp only[wfO];omega) y L n (by have:=fB hx;omega) (by have:=fB hx;omega)
        subst e1 e2 e3 e4 e5;exact this
       ·have e7: ¬l=l':=fun h=>e6 (by rw[h])
        simp[e1,e2,e3,e4,e5,e6,e7,cnd,bb]
      ·simp[e1,e2,e3,e4,e5,cnd,bb]
     ·simp[e1,e2,e3,e4,cnd,bb]
    ·simp[e1,e2,e3,cnd,bb]
   ·simp[e1,e2,cnd,bb]
  ·simp[e1,cnd,bb]
end Go.TV
namespace Go.TV
open Go.AI Go.PI Go.Proofs
theorem EqA_loop{c:TC0}{L:Nat}{a b:List G.T}(hl:a.length=b.length)(hb:a.length<1000000000): ∀(l r:List G.T) (k m:Nat),a.drop k=l→b.drop k=r→l.length<m→
    (∀x,x∈l→∀y,c 8 (tt2 x y)=some (bb (decide (x=y))))→aCx c L m a b (k:Int)=some (bb (decide (l=r))):=by
 intro l;induction l with
 |nil=>
  intro r k m h1 h2 h3 _;obtain⟨m,rfl⟩: ∃m',m=m'+1:=⟨m-1,by simp at h3;omega⟩
  have e1:=bC h1;have e2:r=[]:=by rw[←h2];exact List.drop_eq_nil_of_le (by omega)
  have e3:decide ((k:Int)<(a.length:Int))=false:=by simp;omega
  rw[aCx,B35x1,e3,e2];simp only[aF,decide_true];rfl
 |cons x l ih=>
  intro r k m h1 h2 h3 hc;obtain⟨m,rfl⟩: ∃m',m=m'+1:=⟨m-1,by simp at h3;omega⟩
  obtain⟨a1,a2,a3⟩:=bB h1;cases r with
  |nil=>have:=bC h2;omega
  |cons y r=>
   obtain⟨b1,b2,b3⟩:=bB h2;have e3:decide ((k:Int)<(a.length:Int))=true:=by simp;omega
   have hxy:c 8 [yR 3 x,yR 3 y]=some [yB (decide (x=y))]:=hc x (mhE ..) y;rw[aCx,B35x1,e3,aJ,aK,aK,a1,b1,eC,eC,hxy,eE,eD (by omega)]
   by_cases e:x=y
   ·subst e;simp only[decide_true,bnT,aF];rw[ih r (k+1) m a3 b3 (by simp at h3;omega) fun z hz=>hc z (mtE _ hz)]
    simp
   ·simp only[e,decide_false,Bool.not_false,aJ];simp[e,bb]
theorem EqAll_of{a b:List G.T}{L n:Nat}(hw:a.length<1000000000)(hL:a.length<L)(hx: ∀x,x∈a→∀y,CTp L n 8 (tt2 x y)=some (bb (decide (x=y)))):
    CTp L (n+1) 35 (ll2 a b)=some (bb (decide (a=b))):=by
 show CTp L (n+1) 35 [yS 3 _,yS 3 _]=_;rw[c35];simp only[F35,B35x0];by_cases e6:(a.length:Int)=(b.length:Int)
 ·simp only[e6,decide_true,bnT,aF];exact EqA_loop (c:=CTp L n) (L:=L) (by omega) hw a b 0 L rfl rfl hL hx
 ·have e7: ¬a=b:=fun h=>e6 (by rw[h])
  simp[e6,e7,cnd,bb]
theorem EqT_ok: ∀(a:G.T),wfT a→∀(b:G.T) (L n:Nat),tsz a≤L→tsz a≤n→CTp L n 8 (tt2 a b)=some (bb (decide (a=b))):=by
 intro a;induction a using kW with
 |h k nm v l ih=>
  intro hw b L n hL hn;simp only[wfT,tsz]at hw hL hn;have hlen:=jF l;obtain⟨n,rfl⟩: ∃n',n=n'+2:=⟨n-2,by omega⟩
  cases b with|mk k' nm' v' l'=>
  show CTp L (n+1+1) 8 [yR 3 _,yR 3 _]=_;rw[c8];have hv:CTp L (n+1) 34 [yR 2 v,yR 2 v']=some [yB (decide (v=v'))]:=Equal_ok v (by simp only[wfO];omega) v' L (n+1) (by omega) (by omega)
  have hl:CTp L (n+1) 35 [yS 3 l,yS 3 l']=some [yB (decide (l=l'))]:=EqAll_of (by omega) (by omega) fun x hx y=>ih x hx (by have:=cR hx;simp only[wfT];omega) y L n (by have:=cR hx;omega) (by have:=cR hx;omega)
  simp only[F8,B8x0,J8x1,B8x1,G.T.kind,G.T.name,G.T.value,G.T.args,G.T.mk.injEq,hv,hl,eE];by_cases e1:k=k'
  ·by_cases e2:nm=nm'
   ·by_cases e3:v=v'
    ·simp[e1,e2,e3,cnd,bb]
    ·simp[e1,e2,e3,cnd,bb]
   ·simp[e1,e2,cnd,bb]
  ·simp[e1,cnd,bb]
end Go.TV
namespace Go.TV
open Go.AI Go.PI Go.Proofs
theorem wrapm{k:Nat}(h:k<4000000000000000000):IntKind.i64.wrap (((k+1:Nat):Int)-1)=(k:Int):=by
 unfold IntKind.wrap;simp[IntKind.bits,IntKind.signed];omega
theorem EqP_loop{c:TC0}{L:Nat}{n1:G.O→G.O→Rt}{a b:G.O}(hl:a.pair.length=b.pair.length)(hb:a.pair.length<1000000000)
    {s:Nat} (hs:a.pair.length=s+1): ∀(l:List G.O) (x:G.O) (r:List G.O) (k m:Nat),a.pair.drop k=x::l→b.pair.drop k=r→l.length<m→
    (∀x,x∈a.pair→∀y,c 71 (oo x y)=some (bb (decide (x=y))))→(∀x,x∈a.pair→∀y,n1 x y=some (bb (decide (x=y))))→
    aCv c L n1 m (s:Int) (k:Int) ((s+1:Nat):Int) a b=some (bb (decide (x::l=r))):=by
 intro l;induction l with
 |nil=>
  intro x r k m h1 h2 h3 hc hn;obtain⟨m,rfl⟩: ∃m',m=m'+1:=⟨m-1,by simp at h3;omega⟩
  obtain⟨a1,a2,a3⟩:=bB h1;have hk:k=s:=by have:=bC a3;omega
  subst hk;cases r with
  |nil=>have:=bC h2;omega
  |cons y r=>
   obtain⟨b1,b2,b3⟩:=bB h2;have hr:r=[]:=by rw[←b3];exact List.drop_eq_nil_of_le (by omega)
   subst hr;have e3:decide ((k:Int)<(k:Int))=false:=by simp
   rw[aCv,B71x3,e3,aF,wrapm (by omega),aK,aK,a1,b1,eC,eC,hn x (List.mem_of_getElem? a1)]
   simp
 |cons z l ih=>
  intro x r k m h1 h2 h3 hc hn;obtain⟨m,rfl⟩: ∃m',m=m'+1:=⟨m-1,by simp at h3;omega⟩
  obtain⟨a1,a2,a3⟩:=bB h1;obtain⟨a4,a5,a6⟩:=bB a3;cases r with
  |nil=>have:=bC h2;omega
  |cons y r=>
   obtain⟨b1,b2,b3⟩:=bB h2;have e3:decide ((k:Int)<(s:Int))=true:=by simp;omega
   have hxy:c 71 [yR 2 x,yR 2 y]=some [yB (decide (x=y))]:=hc x (List.mem_of_getElem? a1) y;rw[aCv,B71x3,e3,aJ,aK,aK,a1,b1,eC,eC,hxy,eE,eD (by omega)]
   by_cases e:x=y
   ·subst e;simp only[decide_true,bnT,aF];rw[ih z r (k+1) m a3 b3 (by simp at h3;omega) hc hn]
    simp
   ·simp only[e,decide_false,Bool.not_false,aJ];simp[e,bb]
theorem EqW_ok: ∀(a:G.O),wfO a→∀(b:G.O) (L n m:Nat),osz a≤L→osz a≤n→osz a≤m→aAi (CTp L n) L m a b=some (bb (decide (a=b))):=by
 intro a;induction a using lE with
 |h k nu d s t l ih=>
  intro hw b L n m hL hn hm;simp only[wfO,osz]at hw hL hn hm;have hlen:=aAZ l;obtain⟨m,rfl⟩: ∃n',m=n'+1:=⟨m-1,by omega⟩
  obtain⟨n,rfl⟩: ∃n',n=n'+1:=⟨n-1,by omega⟩
  cases b with|mk k' nu' d' s' t' l'=>
  rw[aAi];simp only[J71x2,B71x1,B71x2,G.O.kind,G.O.num,G.O.den,G.O.sym,G.O.text,G.O.pair,G.O.mk.injEq];by_cases e1:k=k'
  ·by_cases e2:nu=nu'
   ·by_cases e3:d=d'
    ·by_cases e4:s=s'
     ·by_cases e5:t=t'
      ·by_cases e6:(l.length:Int)=(l'.length:Int)
       ·simp only[e1,e2,e3,e4,e5,e6,decide_true,bnT,aF,aJ,true_and];cases l with
        |nil=>
         have:l'=[]:=List.eq_nil_of_length_eq_zero (by simp at e6;omega)
         subst this;simp[cnd,bb]
        |cons x l=>
         have e7:decide ((l'.length:Int)=0)=false:=by simp only[lcS]at e6;simp;intro h;simp[h]at e6;omega
         rw[e7,aF,←e6];have hW: ∀y,y∈x::l→∀z,aAi (CTp L (n+1)) L m y z=some (bb (decide (y=z))):=fun y hy z=>
          ih y hy (by have:=fB hy;simp only[wfO];omega) z L (n+1) m (by have:=fB hy;omega) (by have:=fB hy;omega) (by have:=fB hy;omega)
         have hC: ∀y,y∈x::l→∀z,CTp L (n+1) 71 (oo y z)=some (bb (decide (y=z))):=fun y hy z=>by
          show CTp L (n+1) 71 [yR 2 _,yR 2 _]=_;rw[c71];exact ih y hy (by have:=fB hy;simp only[wfO];omega) z L n L (by have:=fB hy;omega) (by have:=fB hy;omega) (by have:=fB hy;omega)
         have hz:IntKind.i64.wrap (((x::l).length:Int)-1)=(l.length:Int):=wrapm (by simp only[lcS]at hlen;omega)
         rw[hz];have:=EqP_loop (c:=CTp L (n+1)) (L:=L) (n1:=fun x0 x1=>aAi (CTp L (n+1)) L m x0 x1) (a:=⟨k,nu,d,s,t,x::l⟩) (b:=⟨k',nu',d',s',t',l'⟩) (s:=l.length) (by show(x::l).length=l'.length;omega) (by show(x::l).length<_;omega) rfl l x l' 0 L rfl rfl (by simp only[lcS]at hlen;omega) hC hW
         subst e1 e2 e3 e4 e5;exact this
       ·have e7: ¬l=l':=fun h=>e6 (by rw[h])
        simp[e1,e2,e3,e4,e5,e6,e7,cnd,bb]
      ·simp[e1,e2,e3,e4,e5,cnd,bb]
     ·simp[e1,e2,e3,e4,cnd,bb]
    ·simp[e1,e2,e3,cnd,bb]
   ·simp[e1,e2,cnd,bb]
  ·simp[e1,cnd,bb]
theorem EqOb_ok(a:G.O)(hw:wfO a)(b:G.O)(L n:Nat)(hL:osz a≤L)(hn:osz a<n):CTp L n 71 (oo a b)=some (bb (decide (a=b))):=by
 obtain⟨n,rfl⟩: ∃n',n=n'+1:=⟨n-1,by omega⟩
 show CTp L (n+1) 71 [yR 2 _,yR 2 _]=_;rw[c71];exact EqW_ok a hw b L n L hL (by omega) hL
theorem EqB_loop{c:TC0}{L:Nat}{a b:List G.T}(hl:a.length=b.length)(hb:a.length<1000000000): ∀(l r:List G.T) (k m:Nat),a.drop k=l→b.drop k=r→l.length<m→
    (∀x,x∈l→∀y,c 32 (tt2 x y)=some (bb (decide (x=y))))→aCu c L m (a.length:Int) a b (k:Int)=some (bb (decide (l=r))):=by
 intro l;induction l with
 |nil=>
  intro r k m h1 h2 h3 _;obtain⟨m,rfl⟩: ∃m',m=m'+1:=⟨m-1,by simp at h3;omega⟩
  have e1:=bC h1;have e2:r=[]:=by rw[←h2];exact List.drop_eq_nil_of_le (by omega)
  have e3:decide ((k:Int)<(a.length:Int))=false:=by simp;omega
  rw[aCu,B72x1,e3,e2];simp only[aF,decide_true];rfl
 |cons x l ih=>
  intro r k m h1 h2 h3 hc;obtain⟨m,rfl⟩: ∃m',m=m'+1:=⟨m-1,by simp at h3;omega⟩
  obtain⟨a1,a2,a3⟩:=bB h1;cases r with
  |nil=>have:=bC h2;omega
  |cons y r=>
   obtain⟨b1,b2,b3⟩:=bB h2;have e3:decide ((k:Int)<(a.length:Int))=true:=by simp;omega
   have hxy:c 32 [yR 3 x,yR 3 y]=some [yB (decide (x=y))]:=hc x (mhE ..) y;rw[aCu,B72x1,e3,aJ,aK,aK,a1,b1,eC,eC,hxy,eE,eD (by omega)]
   by_cases e:x=y
   ·subst e;simp only[decide_true,bnT,aF];rw[ih r (k+1) m a3 b3 (by simp at h3;omega) fun z hz=>hc z (mtE _ hz)]
    simp
   ·simp only[e,decide_false,Bool.not_false,aJ];simp[e,bb]
theorem EqF_of{a b:List G.T}{L n:Nat}(hw:a.length<1000000000)(hL:a.length<L)(hx: ∀x,x∈a→∀y,CTp L n 32 (tt2 x y)=some (bb (decide (x=y)))):
    CTp L (n+1) 72 (ll2 a b)=some (bb (decide (a=b))):=by
 show CTp L (n+1) 72 [yS 3 _,yS 3 _]=_;rw[c72];simp only[F72,B72x0];by_cases e6:(a.length:Int)=(b.length:Int)
 ·have:=EqB_loop (c:=CTp L n) (L:=L) (by omega) hw a b 0 L rfl rfl hL hx
  rw[e6]at this;simp only[e6,decide_true,bnT,aF];exact this
 ·have e7: ¬a=b:=fun h=>e6 (by rw[h])
  simp[e6,e7,cnd,bb]
theorem TEq_ok: ∀(a:G.T),wfT a→∀(b:G.T) (L n:Nat),tsz a≤L→tsz a≤n→CTp L n 32 (tt2 a b)=some (bb (decide (a=b))):=by
 intro a;induction a using kW with
 |h k nm v l ih=>
  intro hw b L n hL hn;simp only[wfT,tsz]at hw hL hn;have hlen:=jF l;obtain⟨n,rfl⟩: ∃n',n=n'+2:=⟨n-2,by omega⟩
  cases b with|mk k' nm' v' l'=>
  show CTp L (n+1+1) 32 [yR 3 _,yR 3 _]=_;rw[c32];have hv:CTp L (n+1) 71 [yR 2 v,yR 2 v']=some [yB (decide (v=v'))]:=EqOb_ok v (by simp only[wfO];omega) v' L (n+1) (by omega) (by omega)
  have hl:CTp L (n+1) 72 [yS 3 l,yS 3 l']=some [yB (decide (l=l'))]:=EqF_of (by omega) (by omega) fun x hx y=>ih x hx (by have:=cR hx;simp only[wfT];omega) y L n (by have:=cR hx;omega) (by have:=cR hx;omega)
  simp only[F32,B32x0,J32x1,B32x1,G.T.kind,G.T.name,G.T.value,G.T.args,G.T.mk.injEq,hv,hl,eE];by_cases e1:k=k'
  ·by_cases e2:nm=nm'
   ·by_cases e3:v=v'
    ·simp[e1,e2,e3,cnd,bb]
    ·simp[e1,e2,e3,cnd,bb]
   ·simp[e1,e2,cnd,bb]
  ·simp[e1,cnd,bb]
end Go.TV
namespace Go.TV
open Go.AI Go.PI Go.Proofs
def OSR(x:Rt)(B:Nat):Prop:= ∃(o:G.O) (s:G.Z),x=some [yR 2 o,yR 0 s]∧osz o+aEh o≤B∧dH s
theorem aEe:badO 2 [] [] ⟨qU,[110,105,108]⟩ [] []=0:=rfl
theorem OSR.mk{o:G.O}{s:G.Z}{B:Nat}(h:osz o+aEh o≤B)(hs:dH s):OSR (some [yR 2 o,yR 0 s]) B:=⟨o,s,rfl,h,hs⟩
theorem OSR.le{x:Rt}{A B:Nat}(h:OSR x A)(hl:A≤B):OSR x B:=by obtain⟨o,s,h1,h2,h3⟩:=h;exact⟨o,s,h1,by omega,h3⟩
theorem aFf{β:Type}{a:G.O}{K:G.O×Unit→Option β}:obL (D:=U0.D) [.rc 2] (some [yR 2 a]) K=K (a,()):=rfl
theorem aDw{β:Type}{a:G.O}{b:G.Z}{K:G.O×G.Z×Unit→Option β}:obL (D:=U0.D) [.rc 2,.rc 0] (some [yR 2 a,yR 0 b]) K=K (a,b,()):=rfl
theorem obL_ys{β:Type}{a:G.Y}{K:G.Y×Unit→Option β}:obL (D:=U0.D) [.rc 1] (some [yR 1 a]) K=K (a,()):=rfl
theorem xJ{α:Type}{l:List α}{lo hi:Int}(h0:0≤lo)(h1:lo≤hi)(h2:hi≤(l.length:Int)): ∃w,slc l lo hi=some w∧(w.length:Int)=hi-lo:=by
 unfold slc;have e1:decide (0≤lo)=true:=by simpa using h0
 have e2:decide (lo≤hi)=true:=by simpa using h1
 have e3:decide (hi≤(l.length:Int))=true:=by simpa using h2
 rw[e1,e2,e3];refine⟨_,rfl,?_⟩;rw[List.length_drop,List.length_take];omega
section
variable{c:TC0}(h:Lib c)
include h
theorem Ob_lo{L:Nat}{s:G.Z}(hs:dH s){a5 a1:Int}{b:G.O}(h0:0≤a5)(h9:a5≤9):OSR (aJu c L a5 a1 s b) 20:=by
 have seven: ∀K:Int×G.Z×Unit→Rt,(∀r s',0≤r→r<7→dH s'→OSR (K (r,s',())) 20)→OSR (obL (D:=U0.D) [.int .i64,.rc 0] (c 14 [yI (7:Int),yR 0 s]) K) 20:=fun K hK=>by
  obtain⟨r,s',e,g1,g2,g3⟩:=h.nx s 7 hs (by omega)
  rw[e,kT];exact hK r s' g1 g2 g3
 have three: ∀K:Int×G.Z×Unit→Rt,(∀r s',0≤r→r<3→dH s'→OSR (K (r,s',())) 20)→OSR (obL (D:=U0.D) [.int .i64,.rc 0] (c 14 [yI (3:Int),yR 0 s]) K) 20:=fun K hK=>by
  obtain⟨r,s',e,g1,g2,g3⟩:=h.nx s 3 hs (by omega)
  rw[e,kT];exact hK r s' g1 g2 g3
 have obj: ∀{x:Rt} {s':G.Z},ObR x→dH s'→OSR (obL (D:=U0.D) [.rc 2] x fun(r:G.O×Unit)=>some [yR 2 r.1,yR 0 s']) 20:=fun hx hs'=>by
  obtain⟨o,e,g⟩:=hx;rw[e,aFf];exact .mk g hs'
 rw[aJu,B16x2];obtain rfl|rfl|rfl|rfl|rfl|rfl|rfl|rfl|rfl|rfl:a5=0∨a5=1∨a5=2∨a5=3∨a5=4∨a5=5∨a5=6∨a5=7∨a5=8∨a5=9:=by omega
 ·exact obj h.n hs
 ·exact obj h.t hs
 ·exact seven _ fun r s' g1 g2 g3=>obj (h.i r g1 g2) g3
 ·exact seven _ fun r s' g1 g2 g3=>obj (h.i r g1 g2) g3
 ·exact obj h.q1 hs
 ·exact obj h.q2 hs
 ·refine three _ fun r s' g1 g2 g3=>?_
  obtain⟨w,e1,l1⟩:=xJ (l:=([97,98,99]:List UInt8)) (hi:=3) g1 (by omega) (by decide)
  obtain⟨w2,e2,l2⟩:=xJ (l:=w) (lo:=0) (hi:=1) (by omega) (by omega) (by omega)
  show OSR (ob (slc ([97,98,99]:List UInt8) r 3) fun v5=>ob (slc v5 (0:Int) (1:Int)) fun v6=>obL (D:=U0.D) [.rc 1] (c 4 [yT v6]) fun(r7:G.Y×Unit)=>obL (D:=U0.D) [.rc 2] (c 52 [yR 1 r7.1]) fun(r8:G.O×Unit)=>some [yR 2 r8.1,yR 0 s']) 20
  rw[e1,eC,e2,eC,h.u,obL_ys];exact obj (h.sy _ (okSy_u (by omega) (by omega))) g3
 ·refine three _ fun r s' g1 g2 g3=>?_
  obtain⟨w,e1,l1⟩:=xJ (l:=([112,113]:List UInt8)) (lo:=0) (hi:=r) (by omega) g1 (by show r≤2;omega)
  show OSR (ob (slc ([112,113]:List UInt8) 0 r) fun v10=>obL (D:=U0.D) [.rc 2] (c 53 [yT v10]) fun(r11:G.O×Unit)=>some [yR 2 r11.1,yR 0 s']) 20
  rw[e1,eC];exact obj (h.x _ (by simp only[okX,Nat.ble_eq];omega)) g3
 ·exact obj h.i0 hs
 ·exact obj h.i1 hs
theorem Ob0{L:Nat}{s:G.Z}(hs:dH s):OSR (F16 c L 0 s) 20:=by
 rw[F16,B16x0];obtain⟨r,s',e,g1,g2,g3⟩:=h.nx s 14 hs (by omega)
 rw[e,kT];show OSR (aFJ c L (decide ((9:Int)<r)) r 0 s' _) 20;rw[aFJ,B16x1];cases e2:decide ((9:Int)<r)with
 |true=>
  simp only[djE]at e2;obtain⟨m,rfl⟩: ∃m:Nat,r=((m+8:Nat):Int):=⟨(r-8).toNat,by omega⟩
  rw[aJ,show((m+8:Nat):Int)-8=(m:Int) by omega,wrapn (by omega)]
  exact Ob_lo h g3 (by omega) (by omega)
 |false=>
  simp only[dfN]at e2;exact Ob_lo h g3 g1 (by omega)
theorem Ol_loop{L:Nat}(h0: ∀s,dH s→OSR (c 16 [yI (0:Int),yR 0 s]) 20){b:G.O}{r:Nat}(hr:r≤3):
    ∀(j k m:Nat) (a6:List G.O) (s:G.Z),r=k+j→a6.length=k→iV a6≤21*k→j<m→dH s→OSR (aCA c L m (r:Int) 1 (k:Int) a6 s b) 200:=by
 intro j;induction j with
 |zero=>
  intro k m a6 s h1 h2 h3 h4 hs;obtain⟨m,rfl⟩: ∃m',m=m'+1:=⟨m-1,by omega⟩
  have e3:decide ((k:Int)<(r:Int))=false:=by simp;omega
  rw[aCA,B16x5,e3,aF]
  match a6,h2 with
  |[],_=>rw[h.l0,aFf];exact .mk (by simp[niO,osz,iV,aEe,aAc]) hs
  |[a],h2=>rw[h.l1,aFf];exact .mk (by simp[iV]at h3;simp[niO,cnO,osz,iV,aEe,aEf,aAc,aEg];simp only[lcS,lnN]at h2;omega) hs
  |[a,d],h2=>rw[h.l2,aFf];exact .mk (by simp[iV]at h3;simp[niO,cnO,osz,iV,aEe,aEf,aAc,aEg];simp only[lcS,lnN]at h2;omega) hs
  |[a,d,e],h2=>rw[h.l3,aFf];exact .mk (by simp[iV]at h3;simp[niO,cnO,osz,iV,aEe,aEf,aAc,aEg];simp only[lcS,lnN]at h2;omega) hs
  |_::_::_::_::l,h2=>simp at h2;omega
 |succ j ih=>
  intro k m a6 s h1 h2 h3 h4 hs;obtain⟨m,rfl⟩: ∃m',m=m'+1:=⟨m-1,by omega⟩
  have e3:decide ((k:Int)<(r:Int))=true:=by simp;omega
  rw[aCA,B16x5,e3,aJ];obtain⟨o,s',e,g1,g2⟩:=h0 s hs;show OSR (obL (D:=U0.D) [.rc 2,.rc 0] (c 16 [yI (0:Int),yR 0 s]) _) 200;rw[e,aDw];have e4:Nat.ble ((a6.length+([o]:List G.O).length)*112) 1073741824=true:=by
   rw[Nat.ble_eq];simp only[lcS,lnN];omega
  simp only[e4,aFr];rw[eD (by omega)]
  have hz: ∀l:List G.O,iV (l++ [o])=iV l+(osz o+aEh o)+1:=by
   intro l;induction l with
   |nil=>simp[iV]
   |cons x l ih=>simp only[cnA,iV,ih];omega
  exact ih (k+1) m (a6++ [o]) s' (by omega) (by simp;omega) (by rw[hz];omega) (by omega) g2
theorem Ob1{L:Nat}(hL:10≤L)(h0: ∀s,dH s→OSR (c 16 [yI (0:Int),yR 0 s]) 20){s:G.Z}(hs:dH s):OSR (F16 c L 1 s) 200:=by
 rw[F16,B16x0];obtain⟨r,s',e,g1,g2,g3⟩:=h.nx s 14 hs (by omega)
 rw[e,kT];show OSR (aFJ c L false r 1 s' _) 200;rw[aFJ,B16x1,aF];by_cases h9:r≤9
 ·exact(Ob_lo h g3 g1 h9).le (by omega)
 have lst: ∀b,OSR (aFI c L true 1 s' b) 200:=fun b=>by
  rw[aFI,B16x4,aJ];obtain⟨q,s2,e,k1,k2,k3⟩:=h.nx s' 4 g3 (by omega)
  rw[e,kT];obtain⟨m,rfl⟩: ∃m:Nat,q=(m:Int):=⟨q.toNat,by omega⟩
  exact Ol_loop h h0 (by omega) m 0 L [] s2 (by omega) rfl (Nat.zero_le _) (by omega) k3
 rw[aJu,B16x2];obtain rfl|rfl|rfl|rfl:r=10∨r=11∨r=12∨r=13:=by omega
 ·exact lst _
 ·exact lst _
 ·exact lst _
 ·have pr: ∀b,OSR (aFI c L false 1 s' b) 200:=fun b=>by
   rw[aFI,B16x4,aF];obtain⟨o,s2,e,k1,k2⟩:=h0 s' g3;show OSR (obL (D:=U0.D) [.rc 2,.rc 0] (c 16 [yI (0:Int),yR 0 s']) _) 200;rw[e,aDw];obtain⟨o2,s3,e,k3,k4⟩:=h0 s2 k2;show OSR (obL (D:=U0.D) [.rc 2,.rc 0] (c 16 [yI (0:Int),yR 0 s2]) _) 200;rw[e,aDw,h.cn,aFf];exact .mk (by simp[cnO,osz,iV,aEf,aEg];omega) k4
  exact pr zrO
end
end Go.TV
namespace Go.TV
open Go.AI Go.PI Go.Proofs
def TSR(x:Rt)(B:Nat):Prop:= ∃(t:G.T) (s:G.Z),x=some [yR 3 t,yR 0 s]∧tsz t≤B∧dH s
theorem TSR.mk{o:G.T}{s:G.Z}{B:Nat}(h:tsz o≤B)(hs:dH s):TSR (some [yR 3 o,yR 0 s]) B:=⟨o,s,rfl,h,hs⟩
theorem TSR.le{x:Rt}{A B:Nat}(h:TSR x A)(hl:A≤B):TSR x B:=by obtain⟨o,s,h1,h2,h3⟩:=h;exact⟨o,s,h1,by omega,h3⟩
theorem tJ{β:Type}{a:G.T}{K:G.T×Unit→Option β}:obL (D:=U0.D) [.rc 3] (some [yR 3 a]) K=K (a,()):=rfl
theorem aHa{β:Type}{a:G.T}{b:G.Z}{K:G.T×G.Z×Unit→Option β}:obL (D:=U0.D) [.rc 3,.rc 0] (some [yR 3 a,yR 0 b]) K=K (a,b,()):=rfl
theorem obL_ss{β:Type}{a:List (List UInt8)}{K:List (List UInt8)×Unit→Option β}:obL (D:=U0.D) [.sl .str] (some [⟨.sl .str,a⟩]) K=K (a,()):=rfl
theorem aG9{β:Type}{a:G.Y}{K:G.Y×Unit→Option β}:obL (D:=U0.D) [.rc 1] (some [yR 1 a]) K=K (a,()):=rfl
theorem badT_v(n:G.Y)(h:okV n=true):badT 1 n zrO []=0:=by
 unfold badT okTm;rw[h];rfl
def wtA(f:G.Y)(l:List G.T):Nat:=bif aA2 f&&Nat.ble l.length 8 then 0 else 1000000000
theorem wtA_ok{f:G.Y}{l:List G.T}(h:aA2 f=true)(hl:l.length≤8):wtA f l=0:=by
 unfold wtA;rw[h,Nat.ble_eq_true_of_le hl];rfl
theorem badT_a(n:G.Y)(l:List G.T):badT 3 n zrO l=wtA n l:=by
 unfold badT okTm wtA;cases aA2 n<;>cases Nat.ble l.length 8<;>rfl
theorem badT_c(o:G.O):badT 2 ⟨[],[]⟩ o []=aEh o:=by
 unfold badT okTm aEh;cases decide (o.kind=0)<;>rfl
theorem zrO_sz:osz zrO=2:=rfl
theorem tV_sz(w:List UInt8)(h1:1≤w.length)(h2:w.length≤20):tsz (tV w)=6:=by
 have h:badT 1 ⟨lU,w⟩ zrO []=0:=badT_v ⟨lU,w⟩ (okV_u h1 h2);simp only[tV,tsz,oL,h,zrO_sz]
theorem tA_sz(f:G.Y)(l:List G.T):tsz (tA f l)=6+oL l+wtA f l:=by simp only[tA,tsz,badT_a,zrO_sz]
theorem tC_sz(o:G.O):tsz (tC o)=4+(osz o+aEh o):=by simp only[tC,tsz,oL,badT_c];omega
theorem tsz'_app(l:List G.T)(t:G.T):oL (l++ [t])=oL l+tsz t+1:=by
 induction l with
 |nil=>simp[oL]
 |cons x l ih=>simp only[cnA,oL,ih];omega
section
variable{c:TC0}(h:Lib c)
include h
theorem Va_ok{L:Nat}{s:G.Z}(hs:dH s):TSR (F15 c L s) 6:=by
 rw[F15,B15x0];obtain⟨r,s',e,g1,g2,g3⟩:=h.nx s 3 hs (by omega)
 rw[e,kT];obtain⟨w,e1,l1⟩:=xJ (l:=([120,121,122]:List UInt8)) (hi:=3) g1 (by omega) (by decide)
 obtain⟨w2,e2,l2⟩:=xJ (l:=w) (lo:=0) (hi:=1) (by omega) (by omega) (by omega)
 show TSR (ob (slc ([120,121,122]:List UInt8) r 3) fun v1=>ob (slc v1 (0:Int) (1:Int)) fun v2=>obL (D:=U0.D) [.rc 3] (c 10 [yT v2]) fun(r3:G.T×Unit)=>some [yR 3 r3.1,yR 0 s']) 6
 rw[e1,eC,e2,eC,h.v,tJ];exact .mk (by rw[tV_sz _ (by omega) (by omega)];omega) g3
theorem Ta_loop{L:Nat}{E:List G.E}{d:Int}{B:Nat}(hB:B<1000000)(hr: ∀s,dH s→TSR (c 3 [yS 16 E,yI (IntKind.i64.wrap (d-1)),yR 0 s]) B){f:G.Y}(hf:aA2 f=true){b:G.T}{r:Nat}(h3:r≤3):
    ∀(j k m:Nat) (a:List G.T) (s:G.Z),r=k+j→a.length=k→oL a≤(B+1)*k→j<m→dH s→TSR (W3x4 c L m (r:Int) E d (k:Int) a s f b) (6+3*(B+1)):=by
 intro j;induction j with
 |zero=>
  intro k m a s h1 h2 h4 h5 hs;obtain⟨m,rfl⟩: ∃m',m=m'+1:=⟨m-1,by omega⟩
  have e3:decide ((k:Int)<(r:Int))=false:=by simp;omega
  rw[W3x4,B3x4,e3,aF,h.a,tJ];refine .mk ?_ hs;have:(B+1)*k≤(B+1)*3:=Nat.mul_le_mul_left _ (by omega)
  rw[tA_sz,wtA_ok hf (by omega)];omega
 |succ j ih=>
  intro k m a s h1 h2 h4 h5 hs;obtain⟨m,rfl⟩: ∃m',m=m'+1:=⟨m-1,by omega⟩
  have e3:decide ((k:Int)<(r:Int))=true:=by simp;omega
  obtain⟨t,s',e,g1,g2⟩:=hr s hs;rw[W3x4,B3x4,e3,aJ,e,aHa];have e4:Nat.ble ((a.length+([t]:List G.T).length)*176) 1073741824=true:=by
   rw[Nat.ble_eq];simp only[lcS,lnN];omega
  simp only[e4,aFr];rw[eD (by omega)]
  refine ih (k+1) m (a++ [t]) s' (by omega) (by simp;omega) ?_ (by omega) g2
  rw[tsz'_app,Nat.mul_add];omega
theorem Te_ok{L:Nat}(hL:10≤L){E:List G.E}{d:Int}{B:Nat}(hB:B<1000000)(hB2:204≤B)(hv: ∀s,dH s→TSR (c 15 [yR 0 s]) 6)(ho: ∀s,dH s→OSR (c 16 [yI (1:Int),yR 0 s]) 200)
    (ha: ∀f:G.Y,ArR (c 21 [yS 16 E,yR 1 f])) (hr:1≤d→∀s,dH s→TSR (c 3 [yS 16 E,yI (IntKind.i64.wrap (d-1)),yR 0 s]) B) {s:G.Z} (hs:dH s):
    TSR (F3 c L E d s) (bif decide (d<1)then 204 else 6+3*(B+1)):=by
 have lo: ∀(a7:Int) (s':G.Z) (b:G.T),a7≤3→dH s'→TSR (J3x2 c L a7 E d s' b) 204:=fun a7 s' b g1 g2=>by
  rw[J3x2,B3x2];cases e1:decide (a7<(3:Int))with
  |true=>
   obtain⟨t,s2,e,q1,q2⟩:=hv s' g2;rw[aJ,e,aHa];exact .mk (by show tsz t≤204;omega) q2
  |false=>
   simp only[dfN]at e1;have e2:decide (a7=(3:Int))=true:=by simp;omega
   obtain⟨o,s2,e,q1,q2⟩:=ho s' g2;rw[aF,e2,aJ,e,aDw,h.k,tJ];exact .mk (by show tsz (tC o)≤204;rw[tC_sz];omega) q2
 obtain⟨r,s',e,g1,g2,g3⟩:=h.nx s 12 hs (by omega)
 rw[F3,B3x0,e,kT];cases e1:decide (d<(1:Int))with
 |true=>
  rw[aJ,cdt];show TSR (J3x1 c L (decide ((3:Int)<r)) r E d s' _) _;rw[J3x1,B3x1];cases e2:decide ((3:Int)<r)with
  |true=>
   rw[aJ,show decide ((4:Int)=0)=false by decide]
   simp only[Bool.not_false,aFr];exact lo _ _ _ (by have:=Int.tmod_lt_of_pos r (b:=4) (by omega);omega) g3
  |false=>
   simp only[dfN]at e2;exact lo _ _ _ (by omega) g3
 |false=>
  rw[aF,cdf];simp only[dfN]at e1;show TSR (J3x1 c L false r E d s' _) _;rw[J3x1,B3x1,aF];by_cases h4:r≤3
  ·exact(lo _ _ _ h4 g3).le (by omega)
  have jn: ∀(s2:G.Z) (f:G.Y) (b:G.T),aA2 f=true→dH s2→TSR (J3x3 c L E d s2 f b) (6+3*(B+1)):=fun s2 f b hf k1=>by
   obtain⟨k,b2,e,k2⟩:=ha f;rw[J3x3,B3x3,e,aDx];exact Ta_loop h hB (hr (by omega)) hf k2 k 0 L [] s2 (by omega) rfl (Nat.zero_le _) (by omega) k1
  have e2:decide (r<(3:Int))=false:=by simp;omega
  have e3:decide (r=(3:Int))=false:=by simp;omega
  obtain⟨lh,eh,hh,nh⟩:=h.hd;obtain⟨lw,ew,hw,nw⟩:=h.ow;obtain⟨q,s2,e4,k1,k2,k3⟩:=h.nx s' 4 g3 (by omega)
  rw[J3x2,B3x2,e2,aF,e3,aF,eh,obL_ss,ew,obL_ss,e4,kT];cases e5:decide (q<(3:Int))with
  |true=>
   obtain⟨i,s3,e6,k4,k5,k6⟩:=h.nx s2 (lh.length:Int) k3 (by omega)
   obtain⟨m,rfl⟩: ∃m:Nat,i=(m:Int):=⟨i.toNat,by omega⟩
   have hm:lh[m]?=some (lh[m]'(by omega)):=geG _
   simp only[aJ];rw[e6,kT];simp only[aK,hm,eC];rw[h.s,aG9];have hz:=nmL_at nh (List.getElem_mem (l:=lh) (n:=m) (by omega))
   exact jn _ _ _ (okSy_l hz.1 hz.2) k6
  |false=>
   obtain⟨i,s3,e6,k4,k5,k6⟩:=h.nx s2 (lw.length:Int) k3 (by omega)
   obtain⟨m,rfl⟩: ∃m:Nat,i=(m:Int):=⟨i.toNat,by omega⟩
   have hm:lw[m]?=some (lw[m]'(by omega)):=geG _
   simp only[aF];rw[e6,kT];simp only[aK,hm,eC];rw[h.u,aG9];have hz:=nmL_at nw (List.getElem_mem (l:=lw) (n:=m) (by omega))
   exact jn _ _ _ (okSy_u hz.1 hz.2) k6
end
end Go.TV
namespace Go.TV
open Go.AI Go.PI Go.Proofs
set_option maxRecDepth 20000
def vrT(v:G.Y):G.T:=⟨1,v,zrO,[]⟩
def asg:List G.I→G.Y→G.T
 |[],v=>vrT v
 |x::l,v=>bif decide (x.var=v)then x.term else asg l v
theorem vP{v:G.Y}{L n:Nat}:CTp L (n+1) 70 [⟨.rc 1,v⟩]=some [⟨.rc 3,vrT v⟩]:=by
 rw[c70,F70,B70x0];rfl
theorem asP_loop{L n:Nat}{a:List G.I}{v:G.Y}{z:G.T}(hb:a.length<1000000000): ∀(l:List G.I) (i m:Nat),a.drop i=l→l.length<m→
    aCz (CTp L (n+1)) L m (a.length:Int) a (i:Int) v z=some [⟨.rc 3,asg l v⟩]:=by
 intro l;induction l with
 |nil=>
  intro i m h1 h3;obtain⟨m,rfl⟩: ∃q,m=q+1:=⟨m-1,by simp at h3;omega⟩
  have e1:=bC h1;have e3:decide ((i:Int)<(a.length:Int))=false:=by simp;omega
  rw[aCz,B31x1,e3,aF,vP,tJ];rfl
 |cons x l ih=>
  intro i m h1 h3;obtain⟨m,rfl⟩: ∃q,m=q+1:=⟨m-1,by simp at h3;omega⟩
  obtain⟨a1,a2,a3⟩:=bB h1;have e3:decide ((i:Int)<(a.length:Int))=true:=by simp;omega
  rw[aCz,B31x1,e3,aJ,aK,a1,eC,eD (by omega)]
  unfold asg;cases decide (x.var=v)with
  |true=>rfl
  |false=>exact ih (i+1) m a3 (by simp at h3;omega)
theorem asP{a:List G.I}{v:G.Y}{L n:Nat}(hL:a.length<L)(hb:a.length<1000000000):CTp L (n+2) 31 [⟨.sl (.rc 6),a⟩,⟨.rc 1,v⟩]=some [⟨.rc 3,asg a v⟩]:=by
 rw[show n+2=n+1+1 from rfl,c31,F31,B31x0]
 exact asP_loop hb a 0 L rfl hL
end Go.TV
