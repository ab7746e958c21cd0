import Derived.Test.YtjoliomfkdkjgaaGreatDoorKad
import Derived.Test.YtjoliomfkdkjgaaGreatDoorKak
import Derived.Test.YtjoliomfkdkjgaaGreatDoorKz
import Derived.Test.YtjoliomfkdkjgaaGreatDoorKw
import Derived.Test.YtjoliomfkdkjgaaGreatDoorKv
import Derived.Test.YtjoliomfkdkjgaaGreatDoorKy
import Derived.Test.YtjoliomfkdkjgaaGreatDoorKx
import Derived.Test.YtjoliomfkdkjgaaGreatDoorKp
import Derived.Test.YtjoliomfkdkjgaaGreatDoorKu
import Derived.Test.YtjoliomfkdkjgaaGreatDoorKt
set_option linter.unusedVariables false
set_option linter.unusedSimpArgs false
set_option linter.constructorNameAsVariable false
namespace Go.TV
open Go.AI Go.PI Go.Proofs
set_option maxRecDepth 20000
section
variable(L:Nat){E:List G.E}(hE:WOK E)
theorem qZ{n:Nat}(h:60≤n):Lib (CTp (L+7000) n):=by
 obtain⟨m,rfl⟩: ∃m,n=m+60:=⟨n-60,by omega⟩
 exact lib_ok L m
theorem va_n{n:Nat}(h:61≤n)(s:G.Z)(hs:bE s):TSR (CTp (L+7000) n 15 [yR 0 s]) 6:=by
 obtain⟨m,rfl⟩: ∃m,n=m+1:=⟨n-1,by omega⟩
 rw[c15];exact Va_ok (qZ L (by omega)) hs
theorem o0_n{n:Nat}(h:61≤n)(s:G.Z)(hs:bE s):OSR (CTp (L+7000) n 16 [yI (0:Int),yR 0 s]) 20:=by
 obtain⟨m,rfl⟩: ∃m,n=m+1:=⟨n-1,by omega⟩
 rw[c16];exact Ob0 (qZ L (by omega)) hs
theorem o1_n{n:Nat}(h:62≤n)(s:G.Z)(hs:bE s):OSR (CTp (L+7000) n 16 [yI (1:Int),yR 0 s]) 200:=by
 obtain⟨m,rfl⟩: ∃m,n=m+1:=⟨n-1,by omega⟩
 rw[c16];exact Ob1 (qZ L (by omega)) (by omega) (o0_n L (by omega)) hs
include hE
theorem ar_n{n:Nat}(h:4≤n)(f:G.Y):ArR (CTp (L+7000) n 58 [yS 15 E,yR 1 f]):=by
 obtain⟨m,rfl⟩: ∃m,n=m+4:=⟨n-4,by omega⟩
 exact Ar_ok hE f (by omega)
theorem t0_n{n:Nat}(h:63≤n)(s:G.Z)(hs:bE s):TSR (CTp (L+7000) n 20 [yS 15 E,yI (0:Int),yR 0 s]) 204:=by
 obtain⟨m,rfl⟩: ∃m,n=m+1:=⟨n-1,by omega⟩
 rw[c20];exact Te_ok (qZ L (by omega)) (by omega) (B:=204) (by omega) (by omega) (va_n L (by omega)) (o1_n L (by omega)) (ar_n L hE (by omega)) (fun h=>by omega) hs
theorem t1_n{n:Nat}(h:64≤n)(s:G.Z)(hs:bE s):TSR (CTp (L+7000) n 20 [yS 15 E,yI (1:Int),yR 0 s]) 621:=by
 obtain⟨m,rfl⟩: ∃m,n=m+1:=⟨n-1,by omega⟩
 rw[c20];exact Te_ok (qZ L (by omega)) (by omega) (B:=204) (by omega) (by omega) (va_n L (by omega)) (o1_n L (by omega)) (ar_n L hE (by omega)) (fun _=>t0_n L hE (by omega)) hs
theorem t2_n{n:Nat}(h:65≤n)(s:G.Z)(hs:bE s):TSR (CTp (L+7000) n 20 [yS 15 E,yI (2:Int),yR 0 s]) 1872:=by
 obtain⟨m,rfl⟩: ∃m,n=m+1:=⟨n-1,by omega⟩
 rw[c20];exact Te_ok (qZ L (by omega)) (by omega) (B:=621) (by omega) (by omega) (va_n L (by omega)) (o1_n L (by omega)) (ar_n L hE (by omega)) (fun _=>t1_n L hE (by omega)) hs
theorem li_n{n:Nat}(h:66≤n)(s:G.Z)(hs:bE s):TSR (CTp (L+7000) n 14 [yS 15 E,yI (2:Int),yR 0 s]) 2523:=by
 obtain⟨m,rfl⟩: ∃m,n=m+1:=⟨n-1,by omega⟩
 rw[c14];exact Li_ok (qZ L (by omega)) (va_n L (by omega)) (t2_n L hE (by omega)) (t1_n L hE (by omega)) hs
end
theorem smF_ok{E:List G.E}(h:smF E=true):WOK E:=by
 simp only[smF,smE,bjE,List.all_eq_true]at h;exact⟨Nat.le_of_ble_eq_true h.1,fun e he=>Nat.le_of_ble_eq_true (h.2 e he).1,fun e he f hf=>Nat.le_of_ble_eq_true ((h.2 e he).2 f hf)⟩
theorem obL_en{β:Type}{a:List G.E}{K:List G.E×Unit→Option β}:obL (D:=U0.D) [.sl (.rc 15)] (some [yS 15 a]) K=K (a,()):=rfl
end Go.TV
namespace Go.TV
open Go.AI Go.PI Go.Proofs
set_option maxRecDepth 20000
section
variable{c:TC0}(h:Lib c)
include h
def TmR(x:Rt)(B:Nat):Prop:= ∃t:G.T,x=some [⟨.rc 3,t⟩]∧tsz t≤B
set_option linter.unusedSectionVars false in
theorem Cx_loop{L:Nat}{E:List G.E}(hl: ∀s,bE s→TSR (c 14 [⟨.sl (.rc 15),E⟩,⟨.int .i64,(2:Int)⟩,⟨.rc 0,s⟩]) 2523)(hv: ∀s,bE s→TSR (c 15 [⟨.rc 0,s⟩]) 6)
    (ho: ∀s,bE s→OSR (c 16 [⟨.int .i64,(0:Int)⟩,⟨.rc 0,s⟩]) 20) (hN:TmR (c 18 [⟨.int .i64,(0:Int)⟩]) 24) {r:Nat} (hr:r≤5):
    ∀(j k m:Nat) (a:List G.T) (s:G.Z),r=k+j→dW a≤2524*k→j<m→bE s→ClR (W3x1 c L m (r:Int) E 2 (k:Int) a s) 12620:=by
 intro j;induction j with
 |zero=>
  intro k m a s h1 h4 h5 hs;obtain⟨m,rfl⟩: ∃m',m=m'+1:=⟨m-1,by omega⟩
  have e3:decide ((k:Int)<(r:Int))=false:=by simp;omega
  rw[W3x1,B3x1,e3,aC];exact⟨a,s,rfl,by omega,hs⟩
 |succ j ih=>
  intro k m a s h1 h4 h5 hs;obtain⟨m,rfl⟩: ∃m',m=m'+1:=⟨m-1,by omega⟩
  have e3:decide ((k:Int)<(r:Int))=true:=by simp;omega
  obtain⟨t,s',e,g1,g2⟩:=hl s hs;obtain⟨q,s3,e5,g3,g4,g5⟩:=h.nx s' 6 g2 (by omega)
  have fin: ∀(u:G.T) (s4:G.Z),tsz u≤2523→bE s4→ClR (J3x2 c L (W3x1 c L m) a (k:Int) (r:Int) E 2 s4 u) 12620:=fun u s4 k1 k2=>by
   rw[J3x2,B3x2];have hla:=lE a;rw[show Nat.ble ((List.length a+List.length ([u]:List G.T))*176) 1073741824=true from Nat.ble_eq_true_of_le (by simp only[lcS,lnN];omega),wF,dX (by omega)]
   exact ih (k+1) m (a++ [u]) s4 (by omega) (by rw[tsz'_app];omega) (by omega) k2
  rw[W3x1,B3x1,e3,aE,e,dU];simp only[];rw[e5,gG];simp only[];cases decide (q=(0:Int))with
  |true=>
   obtain⟨v,s4,e6,k1,k2⟩:=hv s3 g5;rw[aE,e6,dU];simp only[];rw[h.l,bW];exact fin _ _ (by simp only[gM,dW];omega) k2
  |false=>
   rw[aC];cases decide (q=(1:Int))with
   |true=>
    obtain⟨v,s4,e6,k1,k2⟩:=hv s3 g5;obtain⟨o,s5,e7,k3,k4⟩:=ho s4 k2;rw[aE,e6,dU];simp only[];rw[e7,yG];simp only[];rw[h.k,bW];simp only[];rw[h.l,bW];exact fin _ _ (by simp only[gM,dW,tC_sz];omega) k4
   |false=>
    rw[aC];cases decide (q=(2:Int))with
    |true=>
     obtain⟨v,s4,e6,k1,k2⟩:=hv s3 g5;obtain⟨z,e7,k3⟩:=hN;rw[aE,e7,bW];simp only[];rw[e6,dU];simp only[];rw[h.l,bW];exact fin _ _ (by simp only[gM,dW];omega) k2
    |false=>
     rw[aC];exact fin _ _ (by omega) g5
theorem Cx_ok{L:Nat}{E:List G.E}(hL:10≤L)(hl: ∀s,bE s→TSR (c 14 [⟨.sl (.rc 15),E⟩,⟨.int .i64,(2:Int)⟩,⟨.rc 0,s⟩]) 2523)(hv: ∀s,bE s→TSR (c 15 [⟨.rc 0,s⟩]) 6)
    (ho: ∀s,bE s→OSR (c 16 [⟨.int .i64,(0:Int)⟩,⟨.rc 0,s⟩]) 20) (hN:TmR (c 18 [⟨.int .i64,(0:Int)⟩]) 24) {s:G.Z} (hs:bE s):ClR (F3 c L E 5 2 s) 12620:=by
 obtain⟨r,s',e,g1,g2,g3⟩:=h.nx s 6 hs (by omega)
 rw[F3,B3x0,show IntKind.i64.wrap ((5:Int)+1)=6 from rfl,e,gG]
 obtain⟨m,rfl⟩: ∃m:Nat,r=(m:Int):=⟨r.toNat,by omega⟩
 exact Cx_loop h hl hv ho hN (by omega) m 0 L [] s' (by omega) (Nat.zero_le _) (by omega) g3
end
section
variable(L:Nat){E:List G.E}(hE:WOK E)
include hE
omit hE in
theorem n0_n{n:Nat}(h:62≤n):TmR (CTp (L+7000) n 18 [⟨.int .i64,(0:Int)⟩]) 24:=by
 obtain⟨m,rfl⟩: ∃m,n=m+1:=⟨n-1,by omega⟩
 have hl:=qZ L (n:=m) (by omega)
 obtain⟨o,e,k⟩:=hl.i 3 (by omega) (by omega)
 have e':CTp (L+7000) m 48 [⟨.int .i64,(0:Int)⟩]=some [⟨.rc 2,o⟩]:=e;rw[c18,F18,B18x0,e',aAX];simp only[];rw[hl.k,bW];exact⟨_,rfl,by rw[tC_sz];omega⟩
theorem cx_n{n:Nat}(h:70≤n)(s:G.Z)(hs:bE s):ClR (CTp (L+7000) n 3 [⟨.sl (.rc 15),E⟩,⟨.int .i64,(5:Int)⟩,⟨.int .i64,(2:Int)⟩,⟨.rc 0,s⟩]) 12620:=by
 obtain⟨m,rfl⟩: ∃m,n=m+1:=⟨n-1,by omega⟩
 rw[c3];exact Cx_ok (qZ L (by omega)) (by omega) (li_n L hE (by omega)) (va_n L (by omega)) (o0_n L (by omega)) (n0_n L (by omega)) hs
end
end Go.TV
namespace Go.TV
open Go.AI Go.PI Go.Proofs
noncomputable def addT(acc:List G.T)(t:G.T):List G.T:=if t∈acc then acc else acc++ [t]
mutual
noncomputable def sub(acc:List G.T):G.T→List G.T
 |⟨k,n,v,l⟩=>if k=3 then aFt (addT acc ⟨k,n,v,l⟩) l else addT acc ⟨k,n,v,l⟩
noncomputable def aFt(acc:List G.T):List G.T→List G.T
 |[]=>acc
 |x::l=>aFt (sub acc x) l
end
theorem aDO(acc:List G.T)(t:G.T):(addT acc t).length≤acc.length+1:=by
 unfold addT;split<;>simp
theorem aDP{acc:List G.T}{t:G.T}{B:Nat}(h: ∀y∈acc,tsz y≤B)(ht:tsz t≤B): ∀y∈addT acc t,tsz y≤B:=by
 unfold addT;split
 ·exact h
 ·intro y hy;rcases List.mem_append.1 hy with hy|hy
  ·exact h y hy
  ·simp at hy;subst hy;exact ht
theorem sub'_len{l:List G.T}(ih: ∀x∈l,∀acc,(sub acc x).length≤acc.length+tsz x): ∀acc,(aFt acc l).length≤acc.length+dW l:=by
 induction l with
 |nil=>intro acc;simp[aFt,dW]
 |cons x l ih2=>
  intro acc;simp only[aFt,dW];have h1:=ih2 (fun y hy=>ih y (mtE _ hy)) (sub acc x)
  have h2:=ih x (mhE ..) acc;omega
theorem aAG: ∀(t:G.T) (acc:List G.T),(sub acc t).length≤acc.length+tsz t:=by
 intro t;induction t using qJ with
 |h k n v l ih=>
  intro acc;simp only[sub,tsz];have h1:=aDO acc ⟨k,n,v,l⟩;split
  ·have:=sub'_len ih (addT acc ⟨k,n,v,l⟩);omega
  ·omega
theorem sub'_all{l:List G.T}{B:Nat}(ih: ∀x∈l,∀acc,(∀y∈acc,tsz y≤B)→tsz x≤B→∀y∈sub acc x,tsz y≤B):(∀x∈l,tsz x≤B)→∀acc,(∀y∈acc,tsz y≤B)→∀y∈aFt acc l,tsz y≤B:=by
 induction l with
 |nil=>intro _ acc h;exact h
 |cons x l ih2=>
  intro hl acc h;simp only[aFt];exact ih2 (fun y hy=>ih y (mtE _ hy)) (fun y hy=>hl y (mtE _ hy)) _ (ih x (mhE ..) acc h (hl x (mhE ..)))
theorem aAH{B:Nat}: ∀(t:G.T) (acc:List G.T),(∀y∈acc,tsz y≤B)→tsz t≤B→∀y∈sub acc t,tsz y≤B:=by
 intro t;induction t using qJ with
 |h k n v l ih=>
  intro acc h ht;simp only[sub];have h1:=aDP h ht;simp only[tsz]at ht;split
  ·exact sub'_all (fun x hx acc h1 h2=>ih x hx acc h1 h2) (fun x hx=>by have:=cY hx;omega) _ h1
  ·exact h1
theorem ble_ok{a:Nat}(h:a<6000000):Nat.ble ((a+1)*176) 1073741824=true:=by
 apply Nat.ble_eq_true_of_le;omega
theorem aFV{c:TC0}{L:Nat}{t:G.T}{acc:List G.T}(hb:acc.length<6000000): ∀(l:List G.T) (k m:Nat),acc.drop k=l→l.length+1<m→
    (∀x,x∈l→c 70 (tt2 x t)=some (bb (decide (x=t))))→sO c L m (k:Int) false acc t=aFf c L (if t∈l then acc else acc++ [t]) t:=by
 intro l;induction l with
 |nil=>
  intro k m h1 h3 _;obtain⟨m,rfl⟩: ∃m',m=m'+1:=⟨m-1,by simp at h3;omega⟩
  have e1:=bI h1;have e3:decide ((k:Int)<(acc.length:Int))=false:=by simp;omega
  rw[sO,aJU,e3,aC,aCa,aJT];simp only[aC,Bool.not_false,aE,lcS,lnN,Nat.zero_add,ble_ok hb,wF];simp
 |cons x l ih=>
  intro k m h1 h3 hc;obtain⟨m,rfl⟩: ∃m',m=m'+2:=⟨m-2,by simp at h3;omega⟩
  obtain⟨a1,a2,a3⟩:=bG h1;have e3:decide ((k:Int)<(acc.length:Int))=true:=by simp;omega
  have hxy:c 70 [yR 3 x,yR 3 t]=some [yB (decide (x=t))]:=hc x (mhE ..);rw[sO,aJU,e3,aE,aCa,aJT];simp only[Bool.not_false,aE];rw[aR,a1,dG,hxy,bC,dX (by omega)]
  by_cases e:x=t
  ·subst e;simp only[decide_true];rw[sO,aJU];have: ∀b:Bool,cnd b (aCa c L (sO c L m) (!true) ((k+1:Nat):Int) true acc x) (aCa c L (sO c L m) false ((k+1:Nat):Int) true acc x)=aFf c L acc x:=by
    intro b;cases b<;>simp[cnd,aCa,aJT]
   rw[this];simp
  ·have e': ¬t=x:=fun h=>e h.symm
   simp only[e,decide_false];rw[ih (k+1) (m+1) a3 (by simp at h3;omega) fun z hz=>hc z (mtE _ hz)]
   simp[e']
theorem aFU{c:TC0}{L B M:Nat}{t:G.T}(hb:t.args.length<1000000000): ∀(l acc:List G.T) (k m:Nat),t.args.drop k=l→l.length<m→(∀y∈acc,tsz y≤B)→(∀y∈l,tsz y≤B)→acc.length+dW l≤M→
    (∀x,x∈l→∀acc:List G.T,(∀y∈acc,tsz y≤B)→acc.length+tsz x≤M→c 54 (lt2 acc x)=some (tl1 (sub acc x)))→aB4 c L m (k:Int) acc t=some (tl1 (aFt acc l)):=by
 intro l;induction l with
 |nil=>
  intro acc k m h1 h3 _ _ _ _;obtain⟨m,rfl⟩: ∃m',m=m'+1:=⟨m-1,by simp at h3;omega⟩
  have e1:=bI h1;have e3:decide ((k:Int)<(t.args.length:Int))=false:=by simp;omega
  rw[aB4,B54x4,e3,aC];rfl
 |cons x l ih=>
  intro acc k m h1 h3 h4 h5 h6 hc;obtain⟨m,rfl⟩: ∃m',m=m'+1:=⟨m-1,by simp at h3;omega⟩
  obtain⟨a1,a2,a3⟩:=bG h1;simp only[dW]at h6;have e3:decide ((k:Int)<(t.args.length:Int))=true:=by simp;omega
  have hx:=h5 x (mhE ..);have hxy:c 54 [yS 3 acc,yR 3 x]=some [yS 3 (sub acc x)]:=hc x (mhE ..) acc h4 (by omega)
  rw[aB4,B54x4,e3,aE,aR,a1,dG,hxy,obL_l,dX (by omega)]
  exact ih (sub acc x) (k+1) m a3 (by simp at h3;omega) (aAH x acc h4 hx) (fun y hy=>h5 y (mtE _ hy)) (by have:=aAG x acc;omega) fun z hz=>hc z (mtE _ hz)
theorem sub_ok{B M:Nat}(hB:B<1000000000)(hM:M<6000000): ∀(t:G.T) (acc:List G.T) (L n:Nat),(∀y∈acc,tsz y≤B)→tsz t≤B→acc.length+tsz t≤M→B+M+2≤L→B+tsz t≤n→
    CTp L n 54 (lt2 acc t)=some (tl1 (sub acc t)):=by
 intro t;induction t using qJ with
 |h k nm v l ih=>
  intro acc L n h1 h2 h3 hL hn;have h2':=h2;simp only[tsz]at h2 h3 hn;have hlen:=lE l;obtain⟨n,rfl⟩: ∃n',n=n'+1:=⟨n-1,by omega⟩
  show CTp L (n+1) 54 [yS 3 _,yR 3 _]=_;rw[c54,F54,B54x0];have:=aFV (c:=CTp L n) (L:=L) (t:=⟨k,nm,v,l⟩) (acc:=acc) (by omega) acc 0 L rfl (by omega) fun x hx=>EqT_ok x (by have:=h1 x hx;simp only[wfT];omega) _ L n (by have:=h1 x hx;omega) (by have:=h1 x hx;omega)
  refine this.trans ?_;change aFf _ L (addT acc ⟨k,nm,v,l⟩) _=_;rw[aFf,B54x3,sub];have hl:=aDO acc ⟨k,nm,v,l⟩;by_cases e:k=3
  ·simp only[e,G.T.kind,decide_true,aE,if_true];subst e;exact aFU (B:=B) (M:=M) (t:=⟨3,nm,v,l⟩) (by show l.length<_;omega) l (addT acc ⟨3,nm,v,l⟩) 0 L rfl (by omega) (aDP h1 h2') (fun y hy=>by have:=cY hy;omega) (by omega)
    fun x hx acc2 q1 q2=>ih x hx acc2 L n q1 (by have:=cY hx;omega) q2 hL (by have:=cY hx;omega)
  ·simp only[e,G.T.kind,decide_false,aC,if_false];rfl
theorem Sub_loop{c:TC0}{L B M:Nat}{a:List G.T}(hb:a.length<1000000000): ∀(l acc:List G.T) (k m:Nat),a.drop k=l→l.length<m→(∀y∈acc,tsz y≤B)→(∀y∈l,tsz y≤B)→acc.length+dW l≤M→
    (∀x,x∈l→∀acc:List G.T,(∀y∈acc,tsz y≤B)→acc.length+tsz x≤M→c 54 (lt2 acc x)=some (tl1 (sub acc x)))→aB7 c L m a (k:Int) acc=some (tl1 (aFt acc l)):=by
 intro l;induction l with
 |nil=>
  intro acc k m h1 h3 _ _ _ _;obtain⟨m,rfl⟩: ∃m',m=m'+1:=⟨m-1,by simp at h3;omega⟩
  have e1:=bI h1;have e3:decide ((k:Int)<(a.length:Int))=false:=by simp;omega
  rw[aB7,B19x1,e3,aC];rfl
 |cons x l ih=>
  intro acc k m h1 h3 h4 h5 h6 hc;obtain⟨m,rfl⟩: ∃m',m=m'+1:=⟨m-1,by simp at h3;omega⟩
  obtain⟨a1,a2,a3⟩:=bG h1;simp only[dW]at h6;have e3:decide ((k:Int)<(a.length:Int))=true:=by simp;omega
  have hx:=h5 x (mhE ..);have hxy:c 54 [yS 3 acc,yR 3 x]=some [yS 3 (sub acc x)]:=hc x (mhE ..) acc h4 (by omega)
  rw[aB7,B19x1,e3,aE,aR,a1,dG,hxy,obL_l,dX (by omega)]
  exact ih (sub acc x) (k+1) m a3 (by simp at h3;omega) (aAH x acc h4 hx) (fun y hy=>h5 y (mtE _ hy)) (by have:=aAG x acc;omega) fun z hz=>hc z (mtE _ hz)
theorem Sub_ok{a:List G.T}{L n:Nat}(hw:dW a<6000000)(hL:2*dW a+2≤L)(hn:2*dW a<n):CTp L n 19 (tl1 a)=some (tl1 (aFt [] a)):=by
 have hlen:=lE a;obtain⟨n,rfl⟩: ∃n',n=n'+1:=⟨n-1,by omega⟩
 show CTp L (n+1) 19 [yS 3 _]=_;rw[c19,F19,B19x0];exact Sub_loop (B:=dW a) (M:=dW a) (by omega) a [] 0 L rfl (by omega) (fun y hy=>by cases hy) (fun y hy=>cY hy) (by simp) fun x hx acc q1 q2=>
  sub_ok (by omega) hw x acc L n q1 (cY hx) q2 (by omega) (by have:=cY hx;omega)
end Go.TV
namespace Go.TV
open Go.AI Go.PI Go.Proofs
set_option maxRecDepth 20000
section
variable{c:TC0}(h:Lib c)
include h
theorem Li1_ok{L:Nat}{E:List G.E}{A B:Nat}(hv: ∀s,bE s→TSR (c 15 [⟨.rc 0,s⟩]) 6)
    (h2: ∀s,bE s→TSR (c 20 [⟨.sl (.rc 15),E⟩,⟨.int .i64,(1:Int)⟩,⟨.rc 0,s⟩]) A) (h1: ∀s,bE s→TSR (c 20 [⟨.sl (.rc 15),E⟩,⟨.int .i64,(0:Int)⟩,⟨.rc 0,s⟩]) B) {s:G.Z} (hs:bE s):
    TSR (F14 c L E 1 s) (A+B+30):=by
 obtain⟨t,s2,e,g1,g2⟩:=h2 s hs;obtain⟨r,s3,e2,k1,k2,k3⟩:=h.nx s2 8 g2 (by omega)
 rw[F14,B14x0,e,dU,e2,gG];have key: ∀(a:Bool) (b:G.T),TSR (aFm c L a r E 1 s3 t b) (A+B+30):=fun a b=>by
  rw[aFm,B14x1];cases a with
  |true=>
   rw[aE,h.l,bW];exact .mk (by rw[gM];simp only[dW];omega) k3
  |false=>
   rw[aC];cases decide (r=(2:Int))with
   |true=>
    obtain⟨t2,s4,e,q1,q2⟩:=h1 s3 k3;rw[aE];show TSR (obL (D:=U0.D) [.rc 3,.rc 0] (c 20 [⟨.sl (.rc 15),E⟩,⟨.int .i64,(0:Int)⟩,⟨.rc 0,s3⟩]) _) _;rw[e,dU];simp only[];rw[h.l,bW];simp only[];rw[h.l,bW];exact .mk (by rw[gM];simp only[dW];rw[gM];simp only[dW];omega) q2
   |false=>
    rw[aC];cases decide (r=(3:Int))with
    |true=>
     obtain⟨t2,s4,e,q1,q2⟩:=hv s3 k3;rw[aE,e,dU];simp only[];rw[h.l,bW];simp only[];rw[h.l,bW];exact .mk (by rw[gM];simp only[dW];rw[gM];simp only[dW];omega) q2
    |false=>
     rw[aC];cases decide (r=(4:Int))with
     |true=>
      obtain⟨t2,s4,e,q1,q2⟩:=h1 s3 k3;rw[aE];show TSR (obL (D:=U0.D) [.rc 3,.rc 0] (c 20 [⟨.sl (.rc 15),E⟩,⟨.int .i64,(0:Int)⟩,⟨.rc 0,s3⟩]) _) _;rw[e,dU];simp only[];rw[h.l,bW];exact .mk (by rw[gM];simp only[dW];omega) q2
     |false=>
      rw[aC];cases decide (r=(5:Int))with
      |true=>
       obtain⟨t1,s4,e,q1,q2⟩:=hv s3 k3;rw[aE,e,dU];obtain⟨t2,s5,e,q3,q4⟩:=h1 s4 q2;show TSR (obL (D:=U0.D) [.rc 3,.rc 0] (c 20 [⟨.sl (.rc 15),E⟩,⟨.int .i64,(0:Int)⟩,⟨.rc 0,s4⟩]) _) _;rw[e,dU];simp only[];rw[h.l,bW];simp only[];rw[h.l,bW];exact .mk (by rw[gM];simp only[dW];rw[gM];simp only[dW];omega) q4
      |false=>exact .mk (by omega) k3
 cases decide (r=(0:Int))with
 |true=>exact key _ _
 |false=>exact key _ _
def PbR(x:Rt):Prop:= ∃(l:List G.T) (s:G.Z),x=some [⟨.sl (.rc 3),l⟩,⟨.rc 0,s⟩]∧∀t∈l,tsz t≤20000
theorem Pb_ok{L:Nat}{E:List G.E}{a b:List G.T}(hb:b.length<5000000)(hbs: ∀t∈b,tsz t≤20000)(hS:c 19 (tl1 a)=some (tl1 b))(hv: ∀s,bE s→TSR (c 15 [⟨.rc 0,s⟩]) 6)
    (h2: ∀s,bE s→TSR (c 20 [⟨.sl (.rc 15),E⟩,⟨.int .i64,(2:Int)⟩,⟨.rc 0,s⟩]) 1872) (h1: ∀s,bE s→TSR (c 14 [⟨.sl (.rc 15),E⟩,⟨.int .i64,(1:Int)⟩,⟨.rc 0,s⟩]) 2000)
    (hN:TmR (c 18 [⟨.int .i64,(0:Int)⟩]) 24) {s:G.Z} (hs:bE s):PbR (F4 c L E a s):=by
 obtain⟨v,s1,e1,k1,q1⟩:=hv s hs;obtain⟨t,s2,e2,k2,q2⟩:=h2 s1 q1;obtain⟨u,s3,e3,k3,q3⟩:=h1 s2 q2;obtain⟨z,e4,k4⟩:=hN;have hS':c 19 [⟨.sl (.rc 3),a⟩]=some [⟨.sl (.rc 3),b⟩]:=hS;rw[F4,B4x0,hS',obL_l];simp only[];rw[e1,dU];simp only[];rw[e2,dU];simp only[];rw[e3,dU];simp only[];rw[h.l,bW];simp only[];rw[h.l,bW];simp only[];rw[h.l,bW];simp only[];rw[h.l,bW];simp only[];rw[e4,bW];simp only[];rw[h.l,bW];simp only[];rw[show∀x1 x2 x3 x4 x5 x6 x7:G.T,Nat.ble ((List.length b+List.length ([x1,x2,x3,x4,x5,x6,x7]:List G.T))*176) 1073741824=true from fun _ _ _ _ _ _ _=>Nat.ble_eq_true_of_le (by simp only[lcS,lnN];omega),wF]
 refine⟨_,_,rfl,fun x hx=>?_⟩
 rcases List.mem_append.1 hx with hx|hx
 ·exact hbs x hx
 ·simp only[List.mem_cons,List.not_mem_nil,or_false]at hx;rcases hx with rfl|rfl|rfl|rfl|rfl|rfl|rfl
  all_goals (try simp only[gM,dW])
  all_goals omega
end
section
variable(L:Nat){E:List G.E}(hE:WOK E)
include hE
theorem l1_n{n:Nat}(h:66≤n)(s:G.Z)(hs:bE s):TSR (CTp (L+7000) n 14 [⟨.sl (.rc 15),E⟩,⟨.int .i64,(1:Int)⟩,⟨.rc 0,s⟩]) 2000:=by
 obtain⟨m,rfl⟩: ∃m,n=m+1:=⟨n-1,by omega⟩
 rw[c14];exact(Li1_ok (qZ L (by omega)) (va_n L (by omega)) (t1_n L hE (by omega)) (t0_n L hE (by omega)) hs).le (by omega)
theorem pb_n(hL:30000≤L){n:Nat}(h:30000≤n)(a:List G.T)(ha:dW a≤12620)(s:G.Z)(hs:bE s):PbR (CTp (L+7000) n 4 [⟨.sl (.rc 15),E⟩,⟨.sl (.rc 3),a⟩,⟨.rc 0,s⟩]):=by
 obtain⟨m,rfl⟩: ∃m,n=m+1:=⟨n-1,by omega⟩
 rw[c4];have hlen:(aFt [] a).length≤dW a:=by
  have:=sub'_len (l:=a) (fun x _ acc=>aAG x acc) []
  simpa using this
 exact Pb_ok (qZ L (by omega)) (b:=aFt [] a) (by omega) (sub'_all (fun x _ acc=>aAH x acc) (fun x hx=>by have:=cY hx;omega) [] (fun y hy=>by cases hy)) (Sub_ok (by omega) (by omega) (by omega)) (va_n L (by omega)) (t2_n L hE (by omega)) (l1_n L hE (by omega)) (n0_n L (by omega)) hs
end
end Go.TV
namespace Go.TV
open Go.AI Go.PI Go.Proofs
set_option maxRecDepth 20000
theorem oi0X(L M:Nat):cF L M 60 88 [⟨.int .i64,(0:Int)⟩]=some [⟨.rc 2,zOj⟩]:=by kernel_rfl
section
variable(L:Nat)(hL:30000≤L)
include hL
theorem eqP_n{n:Nat}(hn:20000≤n)(x:G.T)(hx:tsz x≤20000)(y:G.T):CTp (L+7000) n 60 [⟨.rc 3,x⟩,⟨.rc 3,y⟩]=some [⟨.bool,decide (x=y)⟩]:=
 TEq_ok x (by simp only[wfT];omega) y (L+7000) n (by omega) (by omega)
omit hL in
theorem int0_n{n:Nat}(hn:60≤n):CTp (L+7000) n 88 [⟨.int .i64,(0:Int)⟩]=some [⟨.rc 2,zOj⟩]:=by
 obtain⟨n,rfl⟩: ∃m,n=m+60:=⟨n-60,by omega⟩
 have h:=oi0X L n;rw[cF_ok]at h;exact h
theorem bax_n{n:Nat}(hn:20100≤n):BaX (CTp (L+7000) n) 20000 where
 z:=int0_n L (by omega)
 k:=by
  obtain⟨n,rfl⟩: ∃m,n=m+2:=⟨n-2,by omega⟩
  rw[c89,F89,B89x0,c117];rfl
 e:=eqP_n L hL (by omega)
 s x hx:=by
  obtain⟨n,rfl⟩: ∃m,n=m+3:=⟨n-3,by omega⟩
  have hv:=fB x;rw[show n+3=n+2+1 by omega,c90]
  exact simX_ok (B:=20000) (fun o=>aA5) (fun o ho p=>aJR o (by simp only[wfO];omega) p (L+7000) (n+2) (by omega) (by omega)) oT_ok (int0_n L (by omega)) (by omega)
 o o ho:=by obtain⟨n,rfl⟩: ∃m,n=m+2:=⟨n-2,by omega⟩;exact OfP_ok (by omega)
 q x y:=by obtain⟨n,rfl⟩: ∃m,n=m+3:=⟨n-3,by omega⟩;exact⟨_,seq_ok⟩
 r f:=by obtain⟨n,rfl⟩: ∃m,n=m+2:=⟨n-2,by omega⟩;exact rcgP_ok
theorem abx_n{n:Nat}(hn:20110≤n)(x:G.T)(hx:tsz x≤20000)(u:G.T):ItO (CTp (L+7000) n 24 [⟨.rc 3,x⟩,⟨.rc 3,u⟩]) (abM x u):=by
 obtain⟨n,rfl⟩: ∃m,n=m+4:=⟨n-4,by omega⟩
 rw[c24];refine aboX_ok (B:=20000) (eqP_n L hL (by omega)) (fun x hx y=>?_) (fun x=>snot_ok) (fun x=>IsP_ok) hx
 rw[c62];exact basX_ok (bax_n L hL (by omega)) hx
theorem rfx_n{n:Nat}(hn:20100≤n):RfX (CTp (L+7000) n) 20000 where
 e x hx y:=EqT_ok x (by simp only[wfT];omega) y (L+7000) n (by omega) (by omega)
 i x s k:=by obtain⟨n,rfl⟩: ∃m,n=m+2:=⟨n-2,by omega⟩;exact Is_ok
 n o:=by obtain⟨n,rfl⟩: ∃m,n=m+1:=⟨n-1,by omega⟩;exact nuR_ok
 s o w:=by obtain⟨n,rfl⟩: ∃m,n=m+1:=⟨n-1,by omega⟩;exact syR_ok
 o o ho h0:=by obtain⟨n,rfl⟩: ∃m,n=m+1:=⟨n-1,by omega⟩;exact OfR_ok (by omega) (by omega) h0
 r f h0:=by obtain⟨n,rfl⟩: ∃m,n=m+1:=⟨n-1,by omega⟩;exact rcgR_ok h0
 r2 f:=by obtain⟨n,rfl⟩: ∃m,n=m+1:=⟨n-1,by omega⟩;exact rcgR_any
theorem both_n{n:Nat}(hn:20300≤n){a:List G.T}(ha:dW a≤20000)(u:G.T)(hu:tsz u≤20000): ∃i:Int,CTp (L+7000) n 5 [⟨.sl (.rc 3),a⟩,⟨.rc 3,u⟩]=some [⟨.int .i64,i⟩]∧CTp (L+7000) n 6 [⟨.sl (.rc 3),a⟩,⟨.rc 3,u⟩]=some [⟨.int .i64,i⟩]:=by
 obtain⟨n,rfl⟩: ∃m,n=m+62:=⟨n-62,by omega⟩
 have hv:=fB u;have hl:=lE a;have hm: ∀x∈a,tsz x≤20000:=fun x hx=>by have:=cY hx;omega
 obtain⟨o,ho,h1,h2⟩:=Ty_ownX (c:=CTp (L+7000) (n+61)) (c':=CTp (L+7000) (n+60)) (L:=L+6996) (u:=u) (OfP_ok (n:=n+59) (by omega)) (fun hk=>OfR_ok (n:=n+59) (by omega) (by omega) (vO (by omega) hk)) IsP_ok (ArP_ok u.name (L+7000) (n+60)) (aEi u.name (L+7000) (n+58) (by omega)) (fun r hr hne=>by
  exact pr_both L (n+1) n r hr hne)
 refine⟨a.foldl (stP u) o,?_,?_⟩
 ·rw[show n+62=n+61+1 by omega,c5,show L+7000=L+6996+4 by omega,h1 a,J5x1,B5x1]
  exact TyP_loop (by omega) (fun x=>negP_ok) a 0 _ o rfl (by omega) fun x hx=>abx_n L hL (by omega) x (hm x hx) u
 ·rw[show n+62=n+61+1 by omega,c6,F6,B6x0,show n+61=n+60+1 by omega,c27]
  have h3:F27 (CTp (L+7000) (n+60)) (L+7000) u=some [⟨.int .i64,o⟩]:=h2;rw[h3,jE,←aHb a o ho (fun x hx=>by have:=hm x hx;omega)]
  refine TyR_loop (by omega) a 0 _ o rfl (by omega) (fun x hx=>?_) (fun x=>Is_ok) fun x hx y hy=>?_
  ·rw[c28];exact litR_ok (L:=L+6997) (rfx_n L hL (by omega)) (by omega) (hm x hx)
  ·have h4:=dV x;have h5:=cY hy;have h6:=hm x hx;rw[c30];exact woR_ok (L:=L+6997) (rfx_n L hL (by omega)) (by omega) (by omega)
end
theorem t11_loop{c:TC0}{L:Nat}{a l:List G.T}(h1: ∀u∈l,∃i:Int,c 5 [⟨.sl (.rc 3),a⟩,⟨.rc 3,u⟩]=some [⟨.int .i64,i⟩]∧c 6 [⟨.sl (.rc 3),a⟩,⟨.rc 3,u⟩]=some [⟨.int .i64,i⟩]):
    ∀(j k m:Nat),40=k+j→j<m→W0x1 c L m a l (k:Int)=some [⟨.bool,true⟩]:=by
 intro j;induction j with
 |zero=>
  intro k m e h;obtain⟨m,rfl⟩: ∃m',m=m'+1:=⟨m-1,by omega⟩
  have e4:decide ((k:Int)<40)=false:=by simp;omega
  rw[W0x1,B0x1,e4];cases decide ((k:Int)<(l.length:Int))with
  |true=>rw[aE];rfl
  |false=>rw[aC];rfl
 |succ j ih=>
  intro k m e h;obtain⟨m,rfl⟩: ∃m',m=m'+1:=⟨m-1,by omega⟩
  have e4:decide ((k:Int)<40)=true:=by simp;omega
  rw[W0x1,B0x1,e4];by_cases hk:k<l.length
  ·have e5:decide ((k:Int)<(l.length:Int))=true:=by simp;omega
   obtain⟨u,hu⟩: ∃u,l[k]?=some u:=⟨l[k],geG hk⟩;obtain⟨i,g1,g2⟩:=h1 u (List.mem_of_getElem? hu);rw[e5,aE,J0x2,B0x2,aE,aR,hu,dG,dG,g1,jE];simp only[];rw[g2,jE];simp only[decide_true,bnT,aC];rw[dX (by omega)]
   exact ih (k+1) m (by omega) (by omega)
  ·have e5:decide ((k:Int)<(l.length:Int))=false:=by simp;omega
   rw[e5,aC];rfl
theorem awk27_ok(L n:Nat):CTp L (n+1) 1 []=some [⟨.bool,true⟩]:=
 call_o (x:=ii1) (T:=tpI) (y:= .t) (by kernel_rfl) (by kernel_rfl) (by kernel_rfl) L n [] (by kernel_rfl)
theorem row11_of{c:TC0}{L:Nat}{a:List Int}(h1:c 1 []=some [⟨.bool,true⟩])(hw:a.length≤100→∃(E:List G.E) (cl l:List G.T) (s s2:G.Z),c 2 [⟨.int .u32,(0:Int)⟩]=some [⟨.sl (.rc 15),(E:List G.E)⟩]∧
    c 3 [⟨.sl (.rc 15),E⟩,⟨.int .i64,(5:Int)⟩,⟨.int .i64,(2:Int)⟩,⟨.rc 0,(⟨a,0⟩:G.Z)⟩]=some [⟨.sl (.rc 3),(cl:List G.T)⟩,⟨.rc 0,(s:G.Z)⟩]∧
    c 4 [⟨.sl (.rc 15),E⟩,⟨.sl (.rc 3),cl⟩,⟨.rc 0,s⟩]=some [⟨.sl (.rc 3),(l:List G.T)⟩,⟨.rc 0,(s2:G.Z)⟩]∧
    W0x1 c L L cl l 0=some [⟨.bool,true⟩]):F0 c L a=some [⟨.bool,true⟩]:=by
 rw[F0,B0x0,h1,bC];simp only[bnT,aC];cases e:decide ((100:Int)<(a.length:Int))with
 |true=>rfl
 |false=>
  simp only[dfN]at e;obtain⟨E,cl,l,s,s2,k1,k2,k3,k4⟩:=hw (by omega)
  rw[aC,k1,obL_en];simp only[];rw[k2,obL_cs];simp only[];rw[k3,obL_cs];exact k4
theorem row11_tv(a:List Int)(ha: ∀x∈a,0≤x∧x<256)(L M:Nat):CTp (L+207000) (M+200001) 0 [⟨.sl (.int .u8),a⟩]=some [⟨.bool,true⟩]:=by
 have e:L+207000=L+200000+7000:=by omega
 rw[show M+200001=M+200000+1 by omega,c0,e]
 generalize hl:L+200000=L1;refine row11_of ?_ fun h80=>?_
 ·exact awk27_ok (L1+7000) (M+199999)
 ·obtain⟨E,h2,h3⟩:=world_ok L1 (M+199841);obtain⟨cl,s,h4,h5,h6⟩:=cx_n L1 (smF_ok h3) (n:=M+200000) (by omega) ⟨a,0⟩ ⟨ha,Int.le_refl _,by show(0:Int)≤(a.length:Int);omega,h80⟩
  obtain⟨l,s2,h7,h8⟩:=pb_n L1 (smF_ok h3) (by omega) (n:=M+200000) (by omega) cl h5 s h6
  exact⟨E,cl,l,s,s2,h2,h4,h7,t11_loop (fun u hu=>both_n L1 (by omega) (by omega) (by omega) u (h8 u hu)) 40 0 (L1+7000) rfl (by omega)⟩
end Go.TV
namespace Go.TV
open Go.AI Go.PI Go.Proofs
set_option maxRecDepth 20000
def u8V(cs:List Int):List Value:=cs.map fun x=> .int .u8 x
def u8P(cs:List Int):PV:=dC 1 (cs.map fun x=> .v (.int .u8 x))
def p00:PSt:=⟨.nil,0,[],[]⟩
def nu0:Nu:=fun _=>none
def ga0:Ga:=fun _=>none
theorem mem0{cs:List Value}:Mem nu0 ga0 p00 (st1 3 cs 1) where
 le:=fun id x h=>by cases h
 lt:=fun id a h=>by cases h
 inj:=fun i j a h=>by cases h
 live:=fun id a h=>by cases h
 get:=fun id o h=>by
  unfold PSt.get at h;rw[show Nat.blt id p00.next=false from rfl]at h
  cases h
 free:=fun a ha=>by
  have h4:4≤a:=ha;rw[nP,if_neg (by omega)]
 ver:=fun g=>by
  show(Tr.get Tr.nil g).getD 0=0;rw[Tr.get_nil];rfl
theorem aHc: ∀cs:List Int,eJ (cs.map fun x=>PV.v (.int .u8 x))=cs.map fun x=>PV.v (.int .u8 x)
 |[]=>rfl
 |x::l=>by
  have ih:=aHc l;simp only[eJ]at ih⊢;rw[mpC,fmC,ih];rfl
theorem arg_of{W:World}{v:Value}{cs:List Int}(hv:(v= .slice none 0 0∧cs.length=0)∨∃a cap,v= .slice (some a) cs.length cap∧cs.length≤cap∧(0<cs.length→∃b off C t fr,a=⟨b,off,none⟩∧W.heap[b]?=some (Obj.cells C t fr)∧∀(i:Nat) (x:Value),(u8V cs)[i]?=some x→C[off+i]?=some x)):
    ∃(p:Option AI.Place) (u:Value),(∀q,p=some q→RowW W q (u8V cs) 1)∧R nu0 (st1 3 (u8V cs) 1) (u8P cs) u∧AI.VR (mu1 3 p) u v:=by
 rcases hv with⟨rfl,h0⟩|⟨a,cap,rfl,hc,hrow⟩
 ·have:cs=[]:=List.length_eq_zero_iff.1 h0;subst this;exact⟨none,.slice none 0 0,fun q hq=>(by cases hq),.emp0,.same _ rfl⟩
 ·by_cases hn:0<cs.length
  ·obtain⟨b,off,C,t,fr,rfl,h1,h2⟩:=hrow hn;refine⟨some ⟨b,off,off+cap*1,1⟩,.slice (some ⟨3,0,none⟩) cs.length (cs.length+1),?_,?_,?_⟩
   ·intro q hq;cases hq;refine⟨⟨C,t,fr,h1,h2⟩,?_,rfl⟩;intro x hx;obtain⟨k,_,rfl⟩:=List.mem_map.1 hx;rfl
   ·have hne:u8P cs= .sl 1 (cs.map fun x=> .v (.int .u8 x)):=by
     cases cs with
     |nil=>simp at hn
     |cons x l=>rfl
    rw[hne];have hl:cs.length=(cs.map fun x=>PV.v (.int .u8 x)).length:=by simp
    have hfl:=aHc cs;rw[hl];refine R.sl 1 _ 3 0 _ (u8V cs) (rdM 1) (nlR _) (fun e he=>?_) ⟨?_,fun k hk=>by cases hk⟩ rfl ?_ (fun i x u hx hu=>?_)
    ·obtain⟨k,_,rfl⟩:=List.mem_map.1 he;exact⟨rfl,rfl⟩
    ·exact PI.row_of_get (by rw[nP,if_pos rfl]) rfl
    ·simp[u8V]
    ·rw[hfl,List.getElem?_map,mjE]at hx;obtain⟨k,hk,rfl⟩:=hx;rw[Nat.zero_add,u8V,List.getElem?_map,hk]at hu;cases hu;exact .v _ rfl
   ·exact .slc 3 0 cs.length (cs.length+1) cap ⟨b,off,off+cap*1,1⟩ rfl (fun e=>by omega) hc (by simp)
  ·have:cs=[]:=List.length_eq_zero_iff.1 (by omega)
   subst this;exact⟨none,.slice (some ⟨0,0,some 0⟩) 0 0,fun q hq=>(by cases hq),.emp2 0 0 0 0,.emp a 0 cap (fun h=>by cases h)⟩
theorem law_pi{cs:List Int}(hb: ∀x∈cs,0≤x∧x<256): ∃own p',jY Tryz.prog orcI (aAO Go.Rf.cdP insL) 207000 200001 3 [(u8P cs,false)] p00=some (.v (.bool true),own,p'):=by
 have h0:=row11_tv cs hb 0 0;have hT:=callT_ok (U:=U0) (T:=tpI) (P:=Tryz.prog) recOK (ttOK orcI (sigL insL)) (G:=tabL Go.Rf.cdP insL) (GP:=aAO Go.Rf.cdP insL) (fun i s code rs h1 h2=>tabL_ok ka_ok i s code rs h1 h2) 207000 200001
 have hsig:tpI.sig 0=some ii0.sig:=(by kernel_rfl:sigL insL 0=some ii0.sig)
 have hvr:VR U0 (.sl (.int .u8)) cs (u8P cs):=wS (U:=U0) (.int .u8) cs rfl rfl;obtain⟨pv,own,p',h1,h2⟩:=hT 0 ii0.sig _ _ hsig h0 p00 (fun _=>none) [(u8P cs,false)] [(0,(.val ⟨.sl (.int .u8),cs⟩,[]))] ⟨[],[]⟩ {
  start:=rfl
  len:=rfl
  args:=fun i y hy=>by
   match i,hy with
   |0,hy=>cases hy;exact⟨hvr,aG _ _⟩
   |i+1,hy=>cases hy
  bx:=fun j b h=>by cases h
  dom:=fun _ _=>rfl
  lt:=fun j e id h=>by cases h
  inj:=fun k k' e e' id h=>by cases h
  wr:=fun id h=>by cases h}
 have hpv:pv= .v (.bool true):=of_bool h2.res.1;subst hpv;exact⟨own,p',h1⟩
theorem aG1{W:World}{v:Value}{cs:List Int}(hb: ∀x∈cs,0≤x∧x<256)(ht:Lib.TabIs Tryz.prog W pwN .u64 Lib.pow10Tab)(hz:3≤W.heap.size)
    (hv:(v= .slice none 0 0∧cs.length=0)∨∃a cap,v= .slice (some a) cs.length cap∧cs.length≤cap∧(0<cs.length→∃b off C t fr,a=⟨b,off,none⟩∧W.heap[b]?=some (Obj.cells C t fr)∧∀(i:Nat) (x:Value),(u8V cs)[i]?=some x→C[off+i]?=some x)):
    Calls Tryz.prog 3 #[v] W fun e w'=>e= .returned (.bool true)∧Kept W w':=by
 obtain⟨p,u,hp,hr,hvr⟩:=arg_of hv;obtain⟨own,p',hpi⟩:=law_pi hb;have hG:aJq Tryz.prog Go.Rf.cdP (aAO Go.Rf.cdP insL):=aGx aG4 kb_ok;obtain⟨u',σ',ν',γ',h1,h2,_⟩:=aIz (O:=orcI) hG 207000 200001 _ _ _ _ _ _ hpi nu0 ga0 (st1 3 (u8V cs) 1) #[u] mem0 ⟨rfl,fun i x w hx hw=>by
  match i,hx,hw with
  |0,hx,hw=>cases hx;cases hw;exact hr
  |i+1,hx,hw=>cases hx⟩ (fun i x w hx _=>by
  match i,hx with
  |0,hx=>cases hx
  |i+1,hx=>cases hx)
 have hu:u'= .bool true:=by cases h2;rfl
 subst hu;obtain⟨_,hc⟩:=aDB kf_all (fun w0 _=>Go.Rf.code_ok aG4 w0) (orc_ok ht hz) 207000 200001 (W0.of W) rfl _ #[u] #[v] _ _ W (mu1 3 p) _ h1 (sim1 (by omega) hp (fun h=>by omega) hz) ⟨rfl,fun i x w hx hw=>by
  match i,hx,hw with
  |0,hx,hw=>cases hx;cases hw;exact hvr
  |i+1,hx,hw=>cases hx⟩
 refine hc.mono ?_;rintro e w' ⟨μ',r',rfl,hr',hZ,_,_⟩;have:r'= .bool true:=by cases hr';rfl
 subst this;exact⟨rfl,hZ.kept.toKept⟩
end Go.TV
