import Derived.Test.YtojjcdpfjabepaaGreatDoorKz
import Derived.Test.YtojjcdpfjabepaaGreatDoorKai
import Derived.Test.YtojjcdpfjabepaaGreatDoorKv
set_option linter.unusedVariables false
set_option linter.unusedSimpArgs false
set_option linter.constructorNameAsVariable false
namespace Go.TV
open Go.AI Go.PI Go.Proofs
set_option maxRecDepth 20000
def syX:G.Y:=⟨lU,[120]⟩
def syY:G.Y:=⟨lU,[121]⟩
def syP':G.Y:=⟨lU,[112,108,117,115]⟩
def pluT(a b:UInt8):G.T:=tA ⟨qU,[98,105,110,97,114,121,45,43]⟩ [tV [a],tV [b]]
def frm4:G.T:=tA ⟨qU,[101,113,117,97,108]⟩ [pluT 120 121,pluT 121 120]
def rul4:G.U:=⟨syP',1,[],⟨qU,[101,113,117,97,108]⟩,pluT 120 121,pluT 121 120,[],0,[⟨syX,syY⟩,⟨syY,syX⟩],0,⟨[],[]⟩⟩
theorem lm_ok(L M:Nat): ∃(l:List G.L) (x:G.L),cF L M 60 5 []=some [⟨.sl (.rc 7),l⟩]∧l[4]?=some x∧x.formula=frm4:=
 ⟨match cF L M 60 5 []with|some [⟨.sl (.rc 7),l⟩]=>l|_=>[],⟨[112,108,117,115,45,99,111,109,109,117,116,101,115],frm4,1⟩,by kernel_rfl,by kernel_rfl,rfl⟩
theorem mk_ok(L M:Nat)(E:List G.E):cF L M 60 6 [⟨.sl (.rc 16),E⟩,⟨.rc 1,syP'⟩,⟨.rc 3,frm4⟩,⟨.int .i64,(1:Int)⟩]=some [⟨.rc 5,rul4⟩,⟨.int .i64,(0:Int)⟩]:=by kernel_rfl
def sC(a b:G.T):List G.I:=[⟨syX,a⟩,⟨syY,b⟩]
theorem asgX(a b:G.T):asg (sC a b) syX=a:=by
 unfold sC asg;rw[decide_eq_true rfl];rfl
theorem asgY(a b:G.T):asg (sC a b) syY=b:=by
 have h1:decide (syX=syY)=false:=by decide
 unfold sC asg;rw[h1,cdf];unfold asg;rw[decide_eq_true rfl];rfl
theorem pmX{L n:Nat}{a b:G.T}(ha:tsz a≤6000)(hb:tsz b≤6000)(hL:100000≤L)(hn:100000≤n){q:Int}(hq:CTp (L+7000) n 33 [⟨.rc 3,b⟩,⟨.rc 3,a⟩]=some [⟨.int .i64,q⟩]):
    CTp (L+7000) (n+1) 7 [⟨.rc 5,rul4⟩,⟨.sl (.rc 6),sC a b⟩]=some [⟨.bool,bif decide (a=b)then false else decide (q<0)⟩]:=by
 obtain⟨n2,hn2⟩: ∃q,n=q+2:=⟨n-2,by omega⟩
 obtain⟨m,hm⟩: ∃q,L+7000=q+3:=⟨L+6997,by omega⟩
 have p0: ∀v,CTp (L+7000) n 31 [⟨.sl (.rc 6),sC a b⟩,⟨.rc 1,v⟩]=some [⟨.rc 3,asg (sC a b) v⟩]:=fun v=>by rw[hn2];exact asP (by show 2<L+7000;omega) (by show 2<1000000000;omega)
 have t1: ∀x y:G.T,tsz x≤6000→CTp (L+7000) n 32 [⟨.rc 3,x⟩,⟨.rc 3,y⟩]=some [⟨.bool,decide (x=y)⟩]:=fun x y hx=>TEq_ok _ (by simp only[wfT];omega) _ _ _ (by omega) (by omega)
 rw[c7,F7,B7x0];show cnd (decide ((2:Int)=0)) _ (aJm (CTp (L+7000) n) (L+7000) (L+7000) (2:Int) [⟨syX,syY⟩,⟨syY,syX⟩] (sC a b) 0)=_;rw[show decide ((2:Int)=0)=false from rfl,aF]
 have s0: ∀(j:Nat) (i:Nat) (p:G.Q),([⟨syX,syY⟩,⟨syY,syX⟩]:List G.Q)[i]?=some p→i<2→aJm (CTp (L+7000) n) (L+7000) (j+1) (2:Int) [⟨syX,syY⟩,⟨syY,syX⟩] (sC a b) (i:Int)=
      obL [.bool] (CTp (L+7000) n 32 [⟨.rc 3,asg (sC a b) p.a0⟩,⟨.rc 3,asg (sC a b) p.a1⟩]) fun(r3:Bool×Unit)=>cnd (!r3.1) (obL [(.int .i64)] (CTp (L+7000) n 33 [⟨(.rc 3),asg (sC a b) p.a1⟩,⟨(.rc 3),asg (sC a b) p.a0⟩]) fun(r4:Int×Unit)=>
        some [⟨.bool,(decide (r4.1<(0:Int)))⟩]) (aJm (CTp (L+7000) n) (L+7000) j (2:Int) [⟨syX,syY⟩,⟨syY,syX⟩] (sC a b) ((i+1:Nat):Int)):=by
  intro j i p hp hi;rw[aJm,B7x1,decide_eq_true (by omega:(i:Int)<2),aJ,aK,hp,eC,p0 p.a0,tJ,p0 p.a1,tJ,eD (by omega)]
 have e0:=s0 (m+2) 0 ⟨syX,syY⟩ rfl (by omega)
 have e1:=s0 (m+1) 1 ⟨syY,syX⟩ rfl (by omega)
 rw[asgX,asgY]at e0 e1;have e2:aJm (CTp (L+7000) n) (L+7000) (m+1) (2:Int) [⟨syX,syY⟩,⟨syY,syX⟩] (sC a b) ((1+1:Nat):Int)=some [⟨.bool,false⟩]:=rfl;have e3:aJm (CTp (L+7000) n) (L+7000) (L+7000) (2:Int) [⟨syX,syY⟩,⟨syY,syX⟩] (sC a b) 0=aJm (CTp (L+7000) n) (L+7000) (m+2+1) (2:Int) [⟨syX,syY⟩,⟨syY,syX⟩] (sC a b) ((0:Nat):Int):=by rw[hm];rfl
 rw[e3,e0,t1 a b ha,eE];by_cases h:a=b
 ·rw[decide_eq_true h,bnT,aF,cdt];refine e1.trans ?_;rw[t1 b a hb,eE,decide_eq_true h.symm,bnT,aF];exact e2
 ·rw[decide_eq_false h,Bool.not_false,aJ,cdf,hq,bP]
structure ExC(c:TC0)(E:List G.E):Prop where
 aw:c 1 []=some [⟨.bool,true⟩]
 wo:c 2 [⟨.int .u32,(0:Int)⟩]=some [⟨.sl (.rc 16),E⟩]
 us: ∀w,c 4 [⟨.str,w⟩]=some [⟨.rc 1,(⟨lU,w⟩:G.Y)⟩]
 te: ∀s,dH s→TSR (c 3 [⟨.sl (.rc 16),E⟩,⟨.int .i64,(3:Int)⟩,⟨.rc 0,s⟩]) 6000
 lm: ∃(l:List G.L) (x:G.L),c 5 []=some [⟨.sl (.rc 7),l⟩]∧l[4]?=some x∧x.formula=frm4
 mkr:c 6 [⟨.sl (.rc 16),E⟩,⟨.rc 1,syP'⟩,⟨.rc 3,frm4⟩,⟨.int .i64,(1:Int)⟩]=some [⟨.rc 5,rul4⟩,⟨.int .i64,(0:Int)⟩]
 tw: ∀a b:G.T,tsz a≤6000→tsz b≤6000→∃r:Int,(r=0→a=b)∧c 9 [⟨.rc 3,b⟩,⟨.rc 3,a⟩]=some [⟨.int .i64,r⟩]∧
  c 7 [⟨.rc 5,rul4⟩,⟨.sl (.rc 6),sC a b⟩]=some [⟨.bool,bif decide (a=b)then false else decide (r<0)⟩]∧
  c 7 [⟨.rc 5,rul4⟩,⟨.sl (.rc 6),sC b a⟩]=some [⟨.bool,bif decide (b=a)then false else decide (-r<0)⟩]∧
  c 8 [⟨.rc 3,a⟩,⟨.rc 3,b⟩]=some [⟨.bool,decide (a=b)⟩]
theorem row26_of{c:TC0}{E:List G.E}(h:ExC c E){L:Nat}{a:List Int}(ha: ∀x∈a,0≤x∧x<256):F0 c L a=some [⟨.bool,true⟩]:=by
 rw[F0,B0x0,h.aw,eE];simp only[bnT];rw[aF];by_cases h8:(80:Int)<(a.length:Int)
 ·rw[decide_eq_true h8,aJ]
 ·rw[decide_eq_false h8,aF];obtain⟨x,s1,e1,z1,k1⟩:=h.te ⟨a,0⟩ ⟨ha,Int.le_refl _,by show(0:Int)≤(a.length:Int);omega,by show a.length≤100;omega⟩
  obtain⟨y,s2,e2,z2,k2⟩:=h.te s1 k1;obtain⟨l,q,e3,e4,e5⟩:=h.lm;obtain⟨r,h0,t1,t2,t3,t4⟩:=h.tw x y z1 z2;have o1: ∀{β:Type} {b:List G.L} {K:List G.L×Unit→Option β},obL (D:=U0.D) [.sl (.rc 7)] (some [⟨.sl (.rc 7),b⟩]) K=K (b,()):=rfl;have o2: ∀{β:Type} {b:G.U} {i:Int} {K:G.U×Int×Unit→Option β},obL (D:=U0.D) [.rc 5,.int .i64] (some [⟨.rc 5,b⟩,⟨.int .i64,i⟩]) K=K (b,i,()):=rfl;have i4:idx l (4:Int)=some q:=by rw[show(4:Int)=((4:Nat):Int) from rfl,aK,e4]
  have mk':c 6 [⟨.sl (.rc 16),E⟩,⟨.rc 1,(⟨lU,[112,108,117,115]⟩:G.Y)⟩,⟨.rc 3,q.formula⟩,⟨.int .i64,(1:Int)⟩]=some [⟨.rc 5,rul4⟩,⟨.int .i64,(0:Int)⟩]:=by rw[e5];exact h.mkr
  have t2':c 7 [⟨.rc 5,rul4⟩,⟨.sl (.rc 6),([(G.I.mk ⟨lU,[120]⟩ x),(G.I.mk ⟨lU,[121]⟩ y)]:List G.I)⟩]=some [⟨.bool,bif decide (x=y)then false else decide (r<0)⟩]:=t2;have t3':c 7 [⟨.rc 5,rul4⟩,⟨.sl (.rc 6),([(G.I.mk ⟨lU,[120]⟩ y),(G.I.mk ⟨lU,[121]⟩ x)]:List G.I)⟩]=some [⟨.bool,bif decide (y=x)then false else decide (-r<0)⟩]:=t3;simp only[h.wo,obL_en,e1,aHa,e2,h.us,aG9,e3,o1,i4,eC,mk',o2,t2',t3',eE,t4,t1,bP];show cnd false _ _=_;rw[aF];by_cases hxy:x=y
  ·rw[decide_eq_true hxy,decide_eq_true hxy.symm];rfl
  ·rw[decide_eq_false hxy,decide_eq_false (show¬y=x from fun e=>hxy e.symm),aF,cdf,cdf]
   have hr:r≠0:=fun e=>hxy (h0 e)
   by_cases hlt:r<0
   ·rw[decide_eq_true hlt,decide_eq_false (by omega: ¬ -r<0)];rfl
   ·rw[decide_eq_false hlt,decide_eq_true (by omega: -r<0)];rfl
theorem t3_n(L:Nat){E:List G.E}(hE:WOK E){n:Nat}(h:66≤n)(s:G.Z)(hs:dH s):TSR (CTp (L+7000) n 3 [⟨.sl (.rc 16),E⟩,⟨.int .i64,(3:Int)⟩,⟨.rc 0,s⟩]) 5625:=by
 obtain⟨m,rfl⟩: ∃m,n=m+1:=⟨n-1,by omega⟩
 rw[c3];exact Te_ok (yK L (by omega)) (by omega) (B:=1872) (by omega) (by omega) (va_n L (by omega)) (o1_n L (by omega)) (ar_n L hE (by omega)) (fun _=>t2_n L hE (by omega)) hs
theorem tw_ok{L n:Nat}(hL:100000≤L)(hn:100001≤n)(a b:G.T)(ha:tsz a≤6000)(hb:tsz b≤6000): ∃r:Int,(r=0→a=b)∧CTp (L+7000) n 9 [⟨.rc 3,b⟩,⟨.rc 3,a⟩]=some [⟨.int .i64,r⟩]∧
    CTp (L+7000) n 7 [⟨.rc 5,rul4⟩,⟨.sl (.rc 6),sC a b⟩]=some [⟨.bool,bif decide (a=b)then false else decide (r<0)⟩]∧
    CTp (L+7000) n 7 [⟨.rc 5,rul4⟩,⟨.sl (.rc 6),sC b a⟩]=some [⟨.bool,bif decide (b=a)then false else decide (-r<0)⟩]∧
    CTp (L+7000) n 8 [⟨.rc 3,a⟩,⟨.rc 3,b⟩]=some [⟨.bool,decide (a=b)⟩]:=by
 obtain⟨n,rfl⟩: ∃q,n=q+1:=⟨n-1,by omega⟩
 obtain⟨r,p1,p2,p3⟩:=cX (a:=b) (b:=a) (L:=L) (n:=n) (by omega) (by omega) (by omega) (by omega)
 obtain⟨q,g1,g2⟩:=cmp_ok (a:=b) (b:=a) (L:=L) (n:=n) (k:=n+1) (by omega) (by omega) (by omega) (by omega) (by omega)
 have hq:q=r:=by
  rw[p1]at g1;simp only[ojE,List.cons.injEq,and_true]at g1;injection g1 with _ g1;exact g1.symm
 subst hq;exact⟨q,fun e=>(p3 e).symm,g2,pmX ha hb hL (by omega) p1,pmX hb ha hL (by omega) p2,EqT_ok _ (by simp only[wfT];omega) _ _ _ (by omega) (by omega)⟩
end Go.TV
