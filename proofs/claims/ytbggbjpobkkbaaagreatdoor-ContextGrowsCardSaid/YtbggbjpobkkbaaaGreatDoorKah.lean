import Derived.Test.YtbggbjpobkkbaaaGreatDoorKz
import Derived.Test.YtbggbjpobkkbaaaGreatDoorKag
import Derived.Test.YtbggbjpobkkbaaaGreatDoorKw
import Derived.Test.YtbggbjpobkkbaaaGreatDoorKx
import Derived.Test.YtbggbjpobkkbaaaGreatDoorKp
import Derived.Test.YtbggbjpobkkbaaaGreatDoorKu
import Derived.Test.YtbggbjpobkkbaaaGreatDoorKt
set_option linter.unusedVariables false
set_option linter.unusedSimpArgs false
set_option linter.constructorNameAsVariable false
namespace Go.TV
open Go.AI Go.PI Go.Proofs
set_option maxRecDepth 20000
section
variable(L:Nat){E:List G.E}(hE:WOK E)
theorem uC{n:Nat}(h:60≤n):Lib (CTp (L+7000) n):=by
 obtain⟨m,rfl⟩: ∃m,n=m+60:=⟨n-60,by omega⟩
 exact lib_ok L m
theorem va_n{n:Nat}(h:61≤n)(s:G.Z)(hs:bP s):TSR (CTp (L+7000) n 13 [yR 0 s]) 6:=by
 obtain⟨m,rfl⟩: ∃m,n=m+1:=⟨n-1,by omega⟩
 rw[c13];exact Va_ok (uC L (by omega)) hs
theorem o0_n{n:Nat}(h:61≤n)(s:G.Z)(hs:bP s):OSR (CTp (L+7000) n 14 [yI (0:Int),yR 0 s]) 20:=by
 obtain⟨m,rfl⟩: ∃m,n=m+1:=⟨n-1,by omega⟩
 rw[c14];exact Ob0 (uC L (by omega)) hs
theorem o1_n{n:Nat}(h:62≤n)(s:G.Z)(hs:bP s):OSR (CTp (L+7000) n 14 [yI (1:Int),yR 0 s]) 200:=by
 obtain⟨m,rfl⟩: ∃m,n=m+1:=⟨n-1,by omega⟩
 rw[c14];exact Ob1 (uC L (by omega)) (by omega) (o0_n L (by omega)) hs
include hE
theorem ar_n{n:Nat}(h:4≤n)(f:G.Y):ArR (CTp (L+7000) n 53 [yS 15 E,yR 1 f]):=by
 obtain⟨m,rfl⟩: ∃m,n=m+4:=⟨n-4,by omega⟩
 exact Ar_ok hE f (by omega)
theorem t0_n{n:Nat}(h:63≤n)(s:G.Z)(hs:bP s):TSR (CTp (L+7000) n 17 [yS 15 E,yI (0:Int),yR 0 s]) 204:=by
 obtain⟨m,rfl⟩: ∃m,n=m+1:=⟨n-1,by omega⟩
 rw[c17];exact Te_ok (uC L (by omega)) (by omega) (B:=204) (by omega) (by omega) (va_n L (by omega)) (o1_n L (by omega)) (ar_n L hE (by omega)) (fun h=>by omega) hs
theorem t1_n{n:Nat}(h:64≤n)(s:G.Z)(hs:bP s):TSR (CTp (L+7000) n 17 [yS 15 E,yI (1:Int),yR 0 s]) 621:=by
 obtain⟨m,rfl⟩: ∃m,n=m+1:=⟨n-1,by omega⟩
 rw[c17];exact Te_ok (uC L (by omega)) (by omega) (B:=204) (by omega) (by omega) (va_n L (by omega)) (o1_n L (by omega)) (ar_n L hE (by omega)) (fun _=>t0_n L hE (by omega)) hs
theorem t2_n{n:Nat}(h:65≤n)(s:G.Z)(hs:bP s):TSR (CTp (L+7000) n 17 [yS 15 E,yI (2:Int),yR 0 s]) 1872:=by
 obtain⟨m,rfl⟩: ∃m,n=m+1:=⟨n-1,by omega⟩
 rw[c17];exact Te_ok (uC L (by omega)) (by omega) (B:=621) (by omega) (by omega) (va_n L (by omega)) (o1_n L (by omega)) (ar_n L hE (by omega)) (fun _=>t1_n L hE (by omega)) hs
theorem li_n{n:Nat}(h:66≤n)(s:G.Z)(hs:bP s):TSR (CTp (L+7000) n 4 [yS 15 E,yI (2:Int),yR 0 s]) 2523:=by
 obtain⟨m,rfl⟩: ∃m,n=m+1:=⟨n-1,by omega⟩
 rw[c4];exact Li_ok (uC L (by omega)) (va_n L (by omega)) (t2_n L hE (by omega)) (t1_n L hE (by omega)) hs
end
theorem smF_ok{E:List G.E}(h:smF E=true):WOK E:=by
 simp only[smF,smE,bjE,List.all_eq_true]at h;exact⟨Nat.le_of_ble_eq_true h.1,fun e he=>Nat.le_of_ble_eq_true (h.2 e he).1,fun e he f hf=>Nat.le_of_ble_eq_true ((h.2 e he).2 f hf)⟩
theorem obL_en{β:Type}{a:List G.E}{K:List G.E×Unit→Option β}:obL (D:=U0.D) [.sl (.rc 15)] (some [yS 15 a]) K=K (a,()):=rfl
end Go.TV
namespace Go.TV
open Go.AI Go.PI Go.Proofs
set_option maxRecDepth 20000
section
variable{c:TC0}(h:Lib c)
include h
def TmR(x:Rt)(B:Nat):Prop:= ∃t:G.T,x=some [⟨.rc 3,t⟩]∧tsz t≤B
set_option linter.unusedSectionVars false in
theorem Cx_loop{L:Nat}{E:List G.E}(hl: ∀s,bP s→TSR (c 4 [⟨.sl (.rc 15),E⟩,⟨.int .i64,(2:Int)⟩,⟨.rc 0,s⟩]) 2523)(hv: ∀s,bP s→TSR (c 13 [⟨.rc 0,s⟩]) 6)
    (ho: ∀s,bP s→OSR (c 14 [⟨.int .i64,(0:Int)⟩,⟨.rc 0,s⟩]) 20) (hN:TmR (c 16 [⟨.int .i64,(0:Int)⟩]) 24) {r:Nat} (hr:r≤5):
    ∀(j k m:Nat) (a:List G.T) (s:G.Z),r=k+j→eX a≤2524*k→j<m→bP s→ClR (W3x1 c L m (r:Int) E 2 (k:Int) a s) 12620:=by
 intro j;induction j with
 |zero=>
  intro k m a s h1 h4 h5 hs;obtain⟨m,rfl⟩: ∃m',m=m'+1:=⟨m-1,by omega⟩
  have e3:decide ((k:Int)<(r:Int))=false:=by simp;omega
  rw[W3x1,B3x1,e3,aI];exact⟨a,s,rfl,by omega,hs⟩
 |succ j ih=>
  intro k m a s h1 h4 h5 hs;obtain⟨m,rfl⟩: ∃m',m=m'+1:=⟨m-1,by omega⟩
  have e3:decide ((k:Int)<(r:Int))=true:=by simp;omega
  obtain⟨t,s',e,g1,g2⟩:=hl s hs;obtain⟨q,s3,e5,g3,g4,g5⟩:=h.nx s' 6 g2 (by omega)
  have fin: ∀(u:G.T) (s4:G.Z),tsz u≤2523→bP s4→ClR (J3x2 c L (W3x1 c L m) a (k:Int) (r:Int) E 2 s4 u) 12620:=fun u s4 k1 k2=>by
   rw[J3x2,B3x2];have hla:=mZ a;rw[show Nat.ble ((List.length a+List.length ([u]:List G.T))*176) 1073741824=true from Nat.ble_eq_true_of_le (by simp only[lcS,lnN];omega),aAL,gC (by omega)]
   exact ih (k+1) m (a++ [u]) s4 (by omega) (by rw[tsz'_app];omega) (by omega) k2
  rw[W3x1,B3x1,e3,aQ,e,gL];simp only[];rw[e5,gM];simp only[];cases decide (q=(0:Int))with
  |true=>
   obtain⟨v,s4,e6,k1,k2⟩:=hv s3 g5;rw[aQ,e6,gL];simp only[];rw[h.l,eS];exact fin _ _ (by simp only[oT,eX];omega) k2
  |false=>
   rw[aI];cases decide (q=(1:Int))with
   |true=>
    obtain⟨v,s4,e6,k1,k2⟩:=hv s3 g5;obtain⟨o,s5,e7,k3,k4⟩:=ho s4 k2;rw[aQ,e6,gL];simp only[];rw[e7,wF];simp only[];rw[h.k,eS];simp only[];rw[h.l,eS];exact fin _ _ (by simp only[oT,eX,tC_sz];omega) k4
   |false=>
    rw[aI];cases decide (q=(2:Int))with
    |true=>
     obtain⟨v,s4,e6,k1,k2⟩:=hv s3 g5;obtain⟨z,e7,k3⟩:=hN;rw[aQ,e7,eS];simp only[];rw[e6,gL];simp only[];rw[h.l,eS];exact fin _ _ (by simp only[oT,eX];omega) k2
    |false=>
     rw[aI];exact fin _ _ (by omega) g5
theorem Cx_ok{L:Nat}{E:List G.E}(hL:10≤L)(hl: ∀s,bP s→TSR (c 4 [⟨.sl (.rc 15),E⟩,⟨.int .i64,(2:Int)⟩,⟨.rc 0,s⟩]) 2523)(hv: ∀s,bP s→TSR (c 13 [⟨.rc 0,s⟩]) 6)
    (ho: ∀s,bP s→OSR (c 14 [⟨.int .i64,(0:Int)⟩,⟨.rc 0,s⟩]) 20) (hN:TmR (c 16 [⟨.int .i64,(0:Int)⟩]) 24) {s:G.Z} (hs:bP s):ClR (F3 c L E 5 2 s) 12620:=by
 obtain⟨r,s',e,g1,g2,g3⟩:=h.nx s 6 hs (by omega)
 rw[F3,B3x0,show IntKind.i64.wrap ((5:Int)+1)=6 from rfl,e,gM]
 obtain⟨m,rfl⟩: ∃m:Nat,r=(m:Int):=⟨r.toNat,by omega⟩
 exact Cx_loop h hl hv ho hN (by omega) m 0 L [] s' (by omega) (Nat.zero_le _) (by omega) g3
end
section
variable(L:Nat){E:List G.E}(hE:WOK E)
include hE
omit hE in
theorem n0_n{n:Nat}(h:62≤n):TmR (CTp (L+7000) n 16 [⟨.int .i64,(0:Int)⟩]) 24:=by
 obtain⟨m,rfl⟩: ∃m,n=m+1:=⟨n-1,by omega⟩
 have hl:=uC L (n:=m) (by omega)
 obtain⟨o,e,k⟩:=hl.i 3 (by omega) (by omega)
 have e':CTp (L+7000) m 44 [⟨.int .i64,(0:Int)⟩]=some [⟨.rc 2,o⟩]:=e;rw[c16,F16,B16x0,e',zV];simp only[];rw[hl.k,eS];exact⟨_,rfl,by rw[tC_sz];omega⟩
theorem cx_n{n:Nat}(h:70≤n)(s:G.Z)(hs:bP s):ClR (CTp (L+7000) n 3 [⟨.sl (.rc 15),E⟩,⟨.int .i64,(5:Int)⟩,⟨.int .i64,(2:Int)⟩,⟨.rc 0,s⟩]) 12620:=by
 obtain⟨m,rfl⟩: ∃m,n=m+1:=⟨n-1,by omega⟩
 rw[c3];exact Cx_ok (uC L (by omega)) (by omega) (li_n L hE (by omega)) (va_n L (by omega)) (o0_n L (by omega)) (n0_n L (by omega)) hs
end
end Go.TV
namespace Go.TV
open Go.AI Go.PI Go.Proofs
set_option maxRecDepth 20000
theorem BoR.of{b:Bool}{x:Rt}(h:x=some (bb b)):BoR x:=⟨b,h⟩
section
variable(L:Nat){B:Nat}(hB:B≤20000)(hL:30000≤L)
include hB hL
theorem eqT_n{n:Nat}(hn:20000≤n)(x:G.T)(hx:tsz x≤B)(y:G.T):CTp (L+7000) n 24 [⟨.rc 3,x⟩,⟨.rc 3,y⟩]=some [⟨.bool,decide (x=y)⟩]:=
 TEq_ok x (by simp only[wfT];omega) y (L+7000) n (by omega) (by omega)
theorem sim_n{n:Nat}(hn:20002≤n)(x:G.T)(hx:tsz x≤B):BoR (CTp (L+7000) n 99 [⟨.rc 3,x⟩]):=by
 obtain⟨n,rfl⟩: ∃m,n=m+61:=⟨n-61,by omega⟩
 have hv:=lT x;rw[show n+61=n+60+1 by omega,c99]
 refine sim_ok (B:=B) (fun o=>aB1) (fun o ho p=> .of (aHd o (by simp only[wfO];omega) p (L+7000) (n+60) (by omega) (by omega))) ⟨_,oT_ok⟩ ?_ (by omega)
 have h:ObR (cF L n 60 97 [⟨.int .i64,(0:Int)⟩]):=oi0 L n;rw[cF_ok]at h;obtain⟨o,e,_⟩:=h;exact⟨o,e⟩
theorem ba_n{n:Nat}(hn:20010≤n):BaA (CTp (L+7000) n) B where
 z:=by
  obtain⟨n,rfl⟩: ∃m,n=m+60:=⟨n-60,by omega⟩
  have h:ObR (cF L n 60 97 [⟨.int .i64,(0:Int)⟩]):=oi0 L n;rw[cF_ok]at h;obtain⟨o,e,_⟩:=h;exact⟨o,e⟩
 k o:=by obtain⟨n,rfl⟩: ∃m,n=m+2:=⟨n-2,by omega⟩;exact stc_ok
 e:=eqT_n L hB hL (by omega)
 s:=sim_n L hB hL (by omega)
 o o ho:=by obtain⟨n,rfl⟩: ∃m,n=m+2:=⟨n-2,by omega⟩;exact Of_ok (by omega)
 q x y:=by obtain⟨n,rfl⟩: ∃m,n=m+3:=⟨n-3,by omega⟩;exact⟨_,seq_ok⟩
 r f:=by obtain⟨n,rfl⟩: ∃m,n=m+2:=⟨n-2,by omega⟩;exact rcg_ok
theorem abo_n{n:Nat}(hn:20012≤n)(x:G.T)(hx:tsz x≤B)(u:G.T):ItR (CTp (L+7000) n 61 [⟨.rc 3,x⟩,⟨.rc 3,u⟩]):=by
 obtain⟨n,rfl⟩: ∃m,n=m+4:=⟨n-4,by omega⟩
 rw[c61];refine abo_ok (B:=B) (eqT_n L hB hL (by omega)) (fun x hx y=>?_) (fun x=>snot_ok) (fun x=>aHc) hx
 rw[c77];exact bas_ok (ba_n L hB hL (by omega)) hx
theorem ty_n{n:Nat}(hn:20020≤n){a:List G.T}{x:G.T}(ha:eX (a++ [x])≤B)(u:G.T)(hu:tsz u≤B): ∃s s':Int,CTp (L+7000) n 26 [⟨.sl (.rc 3),a⟩,⟨.rc 3,u⟩]=some [⟨.int .i64,s⟩]∧
    CTp (L+7000) n 26 [⟨.sl (.rc 3),a++ [x]⟩,⟨.rc 3,u⟩]=some [⟨.int .i64,s'⟩]∧Mo s s':=by
 obtain⟨n,rfl⟩: ∃m,n=m+61:=⟨n-61,by omega⟩
 have hv:=lT u;obtain⟨o,ho⟩:=Ty_own (c:=CTp (L+7000) (n+60)) (L:=L+6996) (u:=u) (Of_ok (by omega)) aHc (ArP_ok u.name (L+7000) (n+59)) (fun r hr hne=>by
  rw[←cF_ok];exact pr_all L n r hr hne)
 have key: ∀b:List G.T,eX b≤B→CTp (L+7000) (n+61) 26 [⟨.sl (.rc 3),b⟩,⟨.rc 3,u⟩]=some [⟨.int .i64,fol (CTp (L+7000) (n+60)) u o b⟩]:=fun b hb=>by
  have hl:=mZ b;rw[show n+61=n+60+1 by omega,c26,show L+7000=L+6996+4 by omega,ho b,rN,B26x1]
  exact Ty_loop (by omega) (fun x=>aE8) b 0 _ o rfl (by omega) fun y hy=>abo_n L hB hL (by omega) y (by have:=jB hy;omega) u
 have hx:eX a≤B:=by rw[tsz'_app]at ha;omega
 exact⟨_,_,key a hx,key _ ha,by rw[aFq];exact mo_abS _ _⟩
theorem dc_n{n:Nat}(hn:20100≤n){a:List G.T}{x:G.T}(ha:eX (a++ [x])≤B):DcA (CTp (L+7000) n) a (a++ [x]) B where
 sub t h:=List.mem_append_left _ h
 isn o:=by obtain⟨n,rfl⟩: ∃m,n=m+1:=⟨n-1,by omega⟩;exact aB1
 tru b:=by obtain⟨n,rfl⟩: ∃m,n=m+1:=⟨n-1,by omega⟩;exact tru_ok
 isA x s k:=by obtain⟨n,rfl⟩: ∃m,n=m+1:=⟨n-1,by omega⟩;exact aHc
 ad t:=by rw[tsz'_app]at ha;exact asP_ok (by omega) (by omega) (by omega)
 ad' t:=asP_ok (by omega) (by omega) (by omega)
 ng t:=by obtain⟨n,rfl⟩: ∃m,n=m+3:=⟨n-3,by omega⟩;exact aE8
 eq x y:=by obtain⟨n,rfl⟩: ∃m,n=m+3:=⟨n-3,by omega⟩;exact seq_ok
 te x hx y:=⟨_,eqT_n L hB hL (by omega) x hx y⟩
 rc f:=by obtain⟨n,rfl⟩: ∃m,n=m+2:=⟨n-2,by omega⟩;exact rcg_ok
 ty u hu:=ty_n L hB hL (by omega) ha u hu
theorem dcd_n{a:List G.T}{x:G.T}(ha:eX (a++ [x])≤B): ∀(n:Nat) (t:G.T),tsz t≤B→20200+tsz t≤n→Qd (CTp (L+7000) n 5 [⟨.sl (.rc 3),a⟩,⟨.rc 3,t⟩]) (CTp (L+7000) n 5 [⟨.sl (.rc 3),a++ [x]⟩,⟨.rc 3,t⟩]):=by
 intro n;induction n with
 |zero=>intro t _ h;omega
 |succ n ih=>
  intro t ht hn;rw[c5,c5];exact dcd0 (dc_n L hB hL (by omega) ha) ht fun p hp=>ih p (by omega) (by omega)
end
theorem gr_loop{c:TC0}{L:Nat}{a:List G.T}{t:G.T}(hb:a.length<1000000)(h: ∀(l:List G.T) (x:G.T) (r:List G.T),a=l++x::r→Qd (c 5 [⟨.sl (.rc 3),l⟩,⟨.rc 3,t⟩]) (c 5 [⟨.sl (.rc 3),l++ [x]⟩,⟨.rc 3,t⟩]))
    (h0:InR (c 5 [⟨.sl (.rc 3),a⟩,⟨.rc 3,t⟩])):
    ∀(j k m:Nat) (b:Int),a.length+1=k+j→j<m→(∀d:Int,c 5 [⟨.sl (.rc 3),a.take k⟩,⟨.rc 3,t⟩]=some [⟨.int .i64,d⟩]→k≤a.length→b=0∨d≠0)→W0x1 c L m a b (k:Int) t=some [⟨.bool,true⟩]:=by
 intro j;induction j with
 |zero=>
  intro k m b e h3 _;obtain⟨m,rfl⟩: ∃m',m=m'+1:=⟨m-1,by omega⟩
  have e3:decide ((k:Int)≤(a.length:Int))=false:=by simp;omega
  rw[W0x1,B0x1,e3,aI]
 |succ j ih=>
  intro k m b e h3 hd;obtain⟨m,rfl⟩: ∃m',m=m'+1:=⟨m-1,by omega⟩
  have e3:decide ((k:Int)≤(a.length:Int))=true:=by simp;omega
  have e4:slc a (0:Int) (k:Int)=some (a.take k):=by
   unfold slc;have:decide ((0:Int)≤(k:Int))=true:=by simp
   rw[this,e3];simp
  have hv: ∃d:Int,c 5 [⟨.sl (.rc 3),a.take k⟩,⟨.rc 3,t⟩]=some [⟨.int .i64,d⟩]∧(∀d':Int,c 5 [⟨.sl (.rc 3),a.take (k+1)⟩,⟨.rc 3,t⟩]=some [⟨.int .i64,d'⟩]→k+1≤a.length→d=0∨d'≠0):=by
   rcases Nat.lt_or_ge k a.length with hk|hk
   ·have e5:a=a.take k++a[k]::a.drop (k+1):=by rw[List.getElem_cons_drop,List.take_append_drop]
    obtain⟨d,d',g1,g2,g3,g4,g5⟩:=h (a.take k) a[k] (a.drop (k+1)) e5;refine⟨d,g1,fun d'' g6 _=>?_⟩
    have g7:=(congrArg (fun l:List G.T=>c 5 [⟨.sl (.rc 3),l⟩,⟨.rc 3,t⟩]) (List.take_append_getElem hk).symm).symm.trans g6
    have g8:=g2.symm.trans g7;have:d'=d'':=by cases g8;rfl
    subst this;by_cases e0:d'=0
    ·exact .inl (g5 e0)
    ·exact .inr e0
   ·obtain⟨d,g⟩:=h0;exact⟨d,(congrArg (fun l:List G.T=>c 5 [⟨.sl (.rc 3),l⟩,⟨.rc 3,t⟩]) (List.take_of_length_le hk)).trans g,fun d' _ g6=>by omega⟩
  obtain⟨d,g1,g2⟩:=hv;have hn:=ih (k+1) m d (by omega) (by omega) g2
  have hj: ∀q:Bool,(q=true→False)→J0x2 c L (W0x1 c L m) q d (k:Int) a t=some [⟨.bool,true⟩]:=fun q hq=>by
   rw[J0x2,B0x2];cases q with
   |true=>exact(hq rfl).elim
   |false=>rw[aI,gC (by omega)];exact hn
  obtain⟨l0,f1,f2⟩: ∃l0:List G.T,slc a (0:Int) (k:Int)=some l0∧c 5 [⟨.sl (.rc 3),l0⟩,⟨.rc 3,t⟩]=some [⟨.int .i64,d⟩]:=⟨_,e4,g1⟩;rw[W0x1,B0x1,e3,aQ,f1,eR,f2,kJ];refine cG (P:=fun x=>x=some [⟨.bool,true⟩]) (fun e=>hj _ fun e1=>?_) fun _=>hj false fun e=>(by cases e)
  have e2:=of_decide_eq_true e1;rcases hd d g1 (by omega)with h6|h6
  ·rw[h6]at e;simp at e
  ·exact h6 e2
theorem awk27_ok(L n:Nat):CTp L (n+1) 1 []=some [⟨.bool,true⟩]:=
 call_o (x:=ii1) (T:=tpI) (y:= .t) (by kernel_rfl) (by kernel_rfl) (by kernel_rfl) L n [] (by kernel_rfl)
theorem row12_of{c:TC0}{L:Nat}{a:List Int}(h1:c 1 []=some [⟨.bool,true⟩])(hw:a.length≤100→∃(E:List G.E) (cl:List G.T) (t:G.T) (s s2:G.Z),c 2 [⟨.int .u32,(0:Int)⟩]=some [⟨.sl (.rc 15),(E:List G.E)⟩]∧
    c 3 [⟨.sl (.rc 15),E⟩,⟨.int .i64,(5:Int)⟩,⟨.int .i64,(2:Int)⟩,⟨.rc 0,(⟨a,0⟩:G.Z)⟩]=some [⟨.sl (.rc 3),(cl:List G.T)⟩,⟨.rc 0,(s:G.Z)⟩]∧
    c 4 [⟨.sl (.rc 15),E⟩,⟨.int .i64,(2:Int)⟩,⟨.rc 0,s⟩]=some [⟨.rc 3,t⟩,⟨.rc 0,s2⟩]∧
    W0x1 c L L cl 0 0 t=some [⟨.bool,true⟩]):F0 c L a=some [⟨.bool,true⟩]:=by
 rw[F0,B0x0,h1,bT];simp only[bnT,aI];cases e:decide ((100:Int)<(a.length:Int))with
 |true=>rfl
 |false=>
  simp only[dfN]at e;obtain⟨E,cl,t,s,s2,k1,k2,k3,k4⟩:=hw (by omega)
  rw[aI,k1,obL_en];simp only[];rw[k2,obL_cs];simp only[];rw[k3,gL];exact k4
theorem row12_tv(a:List Int)(ha: ∀x∈a,0≤x∧x<256)(L M:Nat):CTp (L+207000) (M+200001) 0 [⟨.sl (.int .u8),a⟩]=some [⟨.bool,true⟩]:=by
 have e:L+207000=L+200000+7000:=by omega
 rw[show M+200001=M+200000+1 by omega,c0,e]
 generalize hl:L+200000=L1;refine row12_of ?_ fun h80=>?_
 ·exact awk27_ok (L1+7000) (M+199999)
 ·obtain⟨E,h2,h3⟩:=world_ok L1 (M+199841);obtain⟨cl,s,h4,h5,h6⟩:=cx_n L1 (smF_ok h3) (n:=M+200000) (by omega) ⟨a,0⟩ ⟨ha,Int.le_refl _,by show(0:Int)≤(a.length:Int);omega,h80⟩
  obtain⟨t,s2,h7,h8,_⟩:=li_n L1 (smF_ok h3) (n:=M+200000) (by omega) s h6
  refine⟨E,cl,t,s,s2,h2,h4,h7,?_⟩;have hlen:=mZ cl;have hq: ∀(l:List G.T) (x:G.T),eX (l++ [x])≤20000→Qd (CTp (L1+7000) (M+200000) 5 [⟨.sl (.rc 3),l⟩,⟨.rc 3,t⟩]) (CTp (L1+7000) (M+200000) 5 [⟨.sl (.rc 3),l++ [x]⟩,⟨.rc 3,t⟩]):=fun l x hx=>
   dcd_n L1 (B:=20000) (by omega) (by omega) hx _ t (by omega) (by omega)
  refine gr_loop (by omega) (fun l x r hr=>hq l x ?_) ?_ (cl.length+1) 0 (L1+7000) 0 (by omega) (by omega) fun _ _ _=> .inl rfl
  ·have:eX (l++x::r)=eX l+eX (x::r):=tsz'_ap2 l _;rw[←hr]at this;simp only[eX]at this;rw[tsz'_app];omega
  ·obtain⟨d,d',g1,_⟩:=hq cl t (by rw[tsz'_app];omega)
   exact⟨d,g1⟩
end Go.TV
namespace Go.TV
open Go.AI Go.PI Go.Proofs
set_option maxRecDepth 20000
def u8V(cs:List Int):List Value:=cs.map fun x=> .int .u8 x
def u8P(cs:List Int):PV:=cX 1 (cs.map fun x=> .v (.int .u8 x))
def p00:PSt:=⟨.nil,0,[],[]⟩
def nu0:Nu:=fun _=>none
def ga0:Ga:=fun _=>none
theorem mem0{cs:List Value}:Mem nu0 ga0 p00 (st1 3 cs 1) where
 le:=fun id x h=>by cases h
 lt:=fun id a h=>by cases h
 inj:=fun i j a h=>by cases h
 live:=fun id a h=>by cases h
 get:=fun id o h=>by
  unfold PSt.get at h;rw[show Nat.blt id p00.next=false from rfl]at h
  cases h
 free:=fun a ha=>by
  have h4:4≤a:=ha;rw[nC,if_neg (by omega)]
 ver:=fun g=>by
  show(Tr.get Tr.nil g).getD 0=0;rw[Tr.get_nil];rfl
theorem aFr: ∀cs:List Int,dZ (cs.map fun x=>PV.v (.int .u8 x))=cs.map fun x=>PV.v (.int .u8 x)
 |[]=>rfl
 |x::l=>by
  have ih:=aFr l;simp only[dZ]at ih⊢;rw[mpC,fmC,ih];rfl
theorem arg_of{W:World}{v:Value}{cs:List Int}(hv:(v= .slice none 0 0∧cs.length=0)∨∃a cap,v= .slice (some a) cs.length cap∧cs.length≤cap∧(0<cs.length→∃b off C t fr,a=⟨b,off,none⟩∧W.heap[b]?=some (Obj.cells C t fr)∧∀(i:Nat) (x:Value),(u8V cs)[i]?=some x→C[off+i]?=some x)):
    ∃(p:Option AI.Place) (u:Value),(∀q,p=some q→RowW W q (u8V cs) 1)∧R nu0 (st1 3 (u8V cs) 1) (u8P cs) u∧AI.VR (mu1 3 p) u v:=by
 rcases hv with⟨rfl,h0⟩|⟨a,cap,rfl,hc,hrow⟩
 ·have:cs=[]:=List.length_eq_zero_iff.1 h0;subst this;exact⟨none,.slice none 0 0,fun q hq=>(by cases hq),.emp0,.same _ rfl⟩
 ·by_cases hn:0<cs.length
  ·obtain⟨b,off,C,t,fr,rfl,h1,h2⟩:=hrow hn;refine⟨some ⟨b,off,off+cap*1,1⟩,.slice (some ⟨3,0,none⟩) cs.length (cs.length+1),?_,?_,?_⟩
   ·intro q hq;cases hq;refine⟨⟨C,t,fr,h1,h2⟩,?_,rfl⟩;intro x hx;obtain⟨k,_,rfl⟩:=List.mem_map.1 hx;rfl
   ·have hne:u8P cs= .sl 1 (cs.map fun x=> .v (.int .u8 x)):=by
     cases cs with
     |nil=>simp at hn
     |cons x l=>rfl
    rw[hne];have hl:cs.length=(cs.map fun x=>PV.v (.int .u8 x)).length:=by simp
    have hfl:=aFr cs;rw[hl];refine R.sl 1 _ 3 0 _ (u8V cs) (rdM 1) (nlR _) (fun e he=>?_) ⟨?_,fun k hk=>by cases hk⟩ rfl ?_ (fun i x u hx hu=>?_)
    ·obtain⟨k,_,rfl⟩:=List.mem_map.1 he;exact⟨rfl,rfl⟩
    ·exact PI.row_of_get (by rw[nC,if_pos rfl]) rfl
    ·simp[u8V]
    ·rw[hfl,List.getElem?_map,mjE]at hx;obtain⟨k,hk,rfl⟩:=hx;rw[Nat.zero_add,u8V,List.getElem?_map,hk]at hu;cases hu;exact .v _ rfl
   ·exact .slc 3 0 cs.length (cs.length+1) cap ⟨b,off,off+cap*1,1⟩ rfl (fun e=>by omega) hc (by simp)
  ·have:cs=[]:=List.length_eq_zero_iff.1 (by omega)
   subst this;exact⟨none,.slice (some ⟨0,0,some 0⟩) 0 0,fun q hq=>(by cases hq),.emp2 0 0 0 0,.emp a 0 cap (fun h=>by cases h)⟩
theorem law_pi{cs:List Int}(hb: ∀x∈cs,0≤x∧x<256): ∃own p',jO Tryz.prog orcI (zN Go.Rf.cdP insL) 207000 200001 3 [(u8P cs,false)] p00=some (.v (.bool true),own,p'):=by
 have h0:=row12_tv cs hb 0 0;have hT:=callT_ok (U:=U0) (T:=tpI) (P:=Tryz.prog) recOK (ttOK orcI (sigL insL)) (G:=tabL Go.Rf.cdP insL) (GP:=zN Go.Rf.cdP insL) (fun i s code rs h1 h2=>tabL_ok ka_ok i s code rs h1 h2) 207000 200001
 have hsig:tpI.sig 0=some ii0.sig:=(by kernel_rfl:sigL insL 0=some ii0.sig)
 have hvr:VR U0 (.sl (.int .u8)) cs (u8P cs):=uX (U:=U0) (.int .u8) cs rfl rfl;obtain⟨pv,own,p',h1,h2⟩:=hT 0 ii0.sig _ _ hsig h0 p00 (fun _=>none) [(u8P cs,false)] [(0,(.val ⟨.sl (.int .u8),cs⟩,[]))] ⟨[],[]⟩ {
  start:=rfl
  len:=rfl
  args:=fun i y hy=>by
   match i,hy with
   |0,hy=>cases hy;exact⟨hvr,aE _ _⟩
   |i+1,hy=>cases hy
  bx:=fun j b h=>by cases h
  dom:=fun _ _=>rfl
  lt:=fun j e id h=>by cases h
  inj:=fun k k' e e' id h=>by cases h
  wr:=fun id h=>by cases h}
 have hpv:pv= .v (.bool true):=of_bool h2.res.1;subst hpv;exact⟨own,p',h1⟩
theorem aFg{W:World}{v:Value}{cs:List Int}(hb: ∀x∈cs,0≤x∧x<256)(ht:Lib.TabIs Tryz.prog W pwN .u64 Lib.pow10Tab)(hz:3≤W.heap.size)
    (hv:(v= .slice none 0 0∧cs.length=0)∨∃a cap,v= .slice (some a) cs.length cap∧cs.length≤cap∧(0<cs.length→∃b off C t fr,a=⟨b,off,none⟩∧W.heap[b]?=some (Obj.cells C t fr)∧∀(i:Nat) (x:Value),(u8V cs)[i]?=some x→C[off+i]?=some x)):
    Calls Tryz.prog 3 #[v] W fun e w'=>e= .returned (.bool true)∧Kept W w':=by
 obtain⟨p,u,hp,hr,hvr⟩:=arg_of hv;obtain⟨own,p',hpi⟩:=law_pi hb;have hG:aGY Tryz.prog Go.Rf.cdP (zN Go.Rf.cdP insL):=aEN aFj kb_ok;obtain⟨u',σ',ν',γ',h1,h2,_⟩:=aGi (O:=orcI) hG 207000 200001 _ _ _ _ _ _ hpi nu0 ga0 (st1 3 (u8V cs) 1) #[u] mem0 ⟨rfl,fun i x w hx hw=>by
  match i,hx,hw with
  |0,hx,hw=>cases hx;cases hw;exact hr
  |i+1,hx,hw=>cases hx⟩ (fun i x w hx _=>by
  match i,hx with
  |0,hx=>cases hx
  |i+1,hx=>cases hx)
 have hu:u'= .bool true:=by cases h2;rfl
 subst hu;obtain⟨_,hc⟩:=aCr kf_all (fun w0 _=>Go.Rf.code_ok aFj w0) (orc_ok ht hz) 207000 200001 (W0.of W) rfl _ #[u] #[v] _ _ W (mu1 3 p) _ h1 (sim1 (by omega) hp (fun h=>by omega) hz) ⟨rfl,fun i x w hx hw=>by
  match i,hx,hw with
  |0,hx,hw=>cases hx;cases hw;exact hvr
  |i+1,hx,hw=>cases hx⟩
 refine hc.mono ?_;rintro e w' ⟨μ',r',rfl,hr',hZ,_,_⟩;have:r'= .bool true:=by cases hr';rfl
 subst this;exact⟨rfl,hZ.kept.toKept⟩
end Go.TV
