import Derived.Test.YtgddcoodncbkoaaGreatDoorKx
import Derived.Test.YtgddcoodncbkoaaGreatDoorKt
import Derived.Test.YtgddcoodncbkoaaGreatDoorKu
import Derived.Test.YtgddcoodncbkoaaGreatDoorKv
import Derived.Test.YtgddcoodncbkoaaGreatDoorKw
import Derived.Test.YtgddcoodncbkoaaGreatDoorKp
import Derived.Test.YtgddcoodncbkoaaGreatDoorKo
import Derived.Test.YtgddcoodncbkoaaGreatDoorKn
import Derived.Test.YtgddcoodncbkoaaGreatDoorKq
import Derived.Test.YtgddcoodncbkoaaGreatDoorKs
import Derived.Test.YtgddcoodncbkoaaGreatDoorKr
set_option linter.unusedVariables false
set_option linter.unusedSimpArgs false
set_option linter.constructorNameAsVariable false
set_option linter.defProp false
namespace Go.TV
open Go.AI Go.PI Go.Proofs
set_option maxRecDepth 20000
def T0:List UInt8:=match B95x0 Kn with|some (⟨.str,t⟩::_)=>t|_=>[]
def li0:Its×List UInt8:=lexI 4000 T0
def T0_eq:aCY li0.1 li0.2=T0:=by kernel_rfl
def li_ok:okL li0.1 li0.2=true:=by kernel_rfl
def toks_eq:tks 0 li0.1++ [⟨0,(T0.length:Int),[],[],[]⟩]=toksL:=by kernel_rfl
def T0_len:T0.length<6001:=Nat.le_of_ble_eq_true (by kernel_rfl)
def li_len:li0.1.length<7000:=Nat.le_of_ble_eq_true (by kernel_rfl)
def isN_c{w:List UInt8}(h:isN w=true):w=[48]∨w=[49]∨w=[45,49]:=by
 unfold isN at h;split at h
 ·exact .inl rfl
 ·exact .inr (.inl rfl)
 ·exact .inr (.inr rfl)
 ·cases h
def num_ok(L M:Nat){w:List UInt8}(h:isN w=true):NumW (CTp (L+7000) (M+30)) w:=by
 rw[<-cW_ok];rcases isN_c h with rfl|rfl|rfl<;>exact⟨by kernel_rfl,by kernel_rfl,by kernel_rfl,by kernel_rfl,by kernel_rfl,by kernel_rfl⟩
def tok_ok(L M:Nat):CTp (L+7000) (M+34) 121 [yT T0]=some [yS 19 toksL,yR 17 ⟨0,0⟩]:=by
 have h1:=T0_len;have h2:=li_len;have h:=Tok_ok (L:=L+7000) (n:=M+30) (l:=li0.1) (tl:=li0.2) (λw hw=>num_ok L (M+2) hw) (by rw[T0_eq];omega) (by rw[T0_eq];omega) (by omega) li_ok
 rw[T0_eq]at h;exact h.trans (congrArg (λx:List G.K=>some [(yS 19 x:TV U0.D),yR 17 (⟨0,0⟩:G.X)]) toks_eq)
def obL_pk{W:Type}{a:List G.A}{K:List G.A×Unit->Option W}:obL (D:=U0.D) [.sl (.rc 9)] (some [yS 9 a]) K=K (a,()):=rfl
def obL_oe{W:Type}{a:List G.O}{b:G.X}{K:List G.O×G.X×Unit->Option W}:obL (D:=U0.D) [.sl (.rc 2),.rc 17] (some [yS 2 a,yR 17 b]) K=K (a,b,()):=rfl
def obL_te{W:Type}{a:List G.K}{b:G.X}{K:List G.K×G.X×Unit->Option W}:obL (D:=U0.D) [.sl (.rc 19),.rc 17] (some [yS 19 a,yR 17 b]) K=K (a,b,()):=rfl
def ini_ok(L n:Nat):CTp L (n+1) 94 []=some [yS 9 pkI]:=by
 rw[c94];rfl
def txt_ok(L n:Nat):CTp L (n+1) 95 []=some [yT T0]:=by
 rw[c95];kernel_rfl
def red_of{c:TC0}{L:Nat}{a0:List G.A}{a1 a2:List UInt8}{t:List G.K}{r:Rt}(h1:c 121 [yT a2]=some [yS 19 t,yR 17 ⟨0,0⟩])
    (h2:aED c L L [] ⟨a0,a1,t,0⟩ ⟨0,0⟩=r):F96 c L a0 a1 a2=r:=by
 rw[F96,B96x0,h1,obL_te];simp only[decide_true,bnT,aC];exact h2
def red_ok(L M:Nat):CTp (L+7000) (M+99) 96 [yS 9 pkI,yT vL,yT T0]=some [yS 2 oAll,yR 17 ⟨0,0⟩]:=by
 have ht:CTp (L+7000) (M+98) 121 [yT T0]=some [yS 19 toksL,yR 17 ⟨0,0⟩]:=tok_ok L (M+64);have h:=pcA L (M+38) (L+6971) ⟨0,0⟩;have e:L+6971+29=L+7000:=by omega
 rw[e,cW_ok,show M+38+60=M+98 by omega,psI]at h
 rw[show M+99=M+98+1 by omega,c96]
 exact red_of ht h
def defs_of{c:TC0}{L:Nat}{a0:List G.A}{a2:List UInt8}{o:List G.O}(h1:c 94 []=some [yS 9 a0])(h2:c 95 []=some [yT a2])
    (h3:c 96 [yS 9 a0,yT [108,105,115,112],yT a2]=some [yS 2 o,yR 17 ⟨0,0⟩]):F54 c L=some [yS 2 o]:=by
 rw[F54,B54x0,h1,obL_pk,h2,obL_s,h3,obL_oe]
def aLh(L M:Nat):CTp (L+7000) (M+100) 54 []=some [yS 2 oAll]:=by
 rw[show M+100=M+99+1 by omega,c54]
 exact defs_of (ini_ok _ (M+98)) (txt_ok _ (M+98)) (red_ok L M)
end Go.TV
namespace Go.TV
open Go.AI Go.PI Go.Proofs
set_option maxRecDepth 20000
def p_all(L M:Nat)(X:Nat->T3): ∀(k:Nat) (o:G.O),oAll[k]?=some o->pE L M k X o=true:=by
 intro k o h
 match k,h with
 |0,h=>cases h;exact p0E L M X
 |1,h=>cases h;exact p1E L M X
 |2,h=>cases h;exact p2E L M X
 |3,h=>cases h;exact p3E L M X
 |4,h=>cases h;exact p4E L M X
 |5,h=>cases h;exact p5E L M X
 |6,h=>cases h;exact p6E L M X
 |7,h=>cases h;exact p7E L M X
 |8,h=>cases h;exact p8E L M X
 |9,h=>cases h;exact p9E L M X
 |10,h=>cases h;exact p10E L M X
 |11,h=>cases h;exact p11E L M X
 |12,h=>cases h;exact p12E L M X
 |13,h=>cases h;exact p13E L M X
 |14,h=>cases h;exact p14E L M X
 |15,h=>cases h;exact p15E L M X
 |16,h=>cases h;exact p16E L M X
 |17,h=>cases h;exact p17E L M X
 |18,h=>cases h;exact p18E L M X
 |19,h=>cases h;exact p19E L M X
 |20,h=>cases h;exact p20E L M X
 |21,h=>cases h;exact p21E L M X
 |22,h=>cases h;exact p22E L M X
 |23,h=>cases h;exact p23E L M X
 |24,h=>cases h;exact p24E L M X
 |25,h=>cases h;exact p25E L M X
 |26,h=>cases h;exact p26E L M X
 |27,h=>cases h;exact p27E L M X
 |k+28,h=>cases h
end Go.TV
namespace Go.TV
open Go.AI Go.PI Go.Proofs
def obL_lr{W:Type}{b:List G.R}{K:List G.R×Unit->Option W}:obL (D:=U0.D) [.sl (.rc 18)] (some [yS 18 b]) K=K (b,()):=rfl
def rowsL:List G.R:=match aON (λ_ _=>none)with
 |some l=>(match eM (D:=U0.D) [.sl (.rc 18)] l with|some r=>r.1|none=>[])
 |none=>[]
def rows_ok{L n:Nat}:CTp L (n+1) 118 []=some [yS 18 rowsL]:=by
 rw[c118];rfl
def rows_len:rowsL.length<1000:=by decide+kernel
def qY(s:List UInt8):List G.R->Option Int
 |[]=>none
 |r::l=>if r.name=s then some r.arity else qY s l
def arity(s:G.Y):Option Int:=if s.package=eB then qY s.name rowsL else none
def oI(o:Option Int):TVs:=match o with
 |some k=>[yI k,yB true]
 |none=>[yI (0:Int),yB false]
def Ar_loop{c:TC0}{L:Nat}{t:G.Y}{a:List G.R}(hb:a.length<1000000000): ∀(l:List G.R) (k m:Nat),a.drop k=l->l.length<m->
    aEE c L m a (k:Int) t=some (oI (qY t.name l)):=by
 intro l;induction l with
 |nil=>
  intro k m h1 h3;obtain⟨m,rfl⟩:=sK m 1 (by simp at h3;omega)
  have e1:=aH h1;have e3:decide ((k:Int)<(a.length:Int))=false:=by simp;omega
  rw[aEE,B92x1,e3,aC];rfl
 |cons x l ih=>
  intro k m h1 h3;obtain⟨m,rfl⟩:=sK m 1 (by simp at h3;omega)
  obtain⟨a1,a2,a3⟩:=aI h1;have e3:decide ((k:Int)<(a.length:Int))=true:=by simp;omega
  rw[aEE,B92x1,e3,aG,aD,a1,aS,aX (by omega),qY]
  by_cases e:x.name=t.name
  ·simp only[e,decide_true,aG,aS,if_true,oI]
  ·simp only[e,decide_false,aC,if_false];exact ih (k+1) m a3 (by simp at h3;omega)
def ArR_ok(s:G.Y)(L n:Nat)(hL:1000<=L):CTp L (n+2) 92 [yR 1 s]=some (oI (arity s)):=by
 have hl:=rows_len;rw[c92,F92,B92x0];by_cases e:s.package=eB
 ·have e':decide (s.package=([108,105,115,112]:List UInt8))=true:=decide_eq_true e;have ea:arity s=qY s.name rowsL:=by simp[arity,e]
  rw[e',ea,rows_ok,obL_lr];exact Ar_loop (a:=rowsL) (by omega) rowsL 0 L rfl (by omega)
 ·have e':decide (s.package=([108,105,115,112]:List UInt8))=false:=decide_eq_false e;have ea:arity s=none:=by simp[arity,e]
  rw[e',ea];rfl
end Go.TV
namespace Go.TV
open Go.AI Go.PI Go.Proofs
def aFn:rowsL=[⟨[105,102],3⟩,⟨[101,113,117,97,108],2⟩,⟨[99,111,110,115],2⟩,⟨[99,97,114],1⟩,⟨[99,100,114],1⟩,⟨[99,111,110,115,112],1⟩,⟨[115,121,109,98,111,108,112],1⟩,⟨[115,116,114,105,110,103,112],1⟩,⟨[114,97,116,105,111,110,97,108,112],1⟩,⟨[105,110,116,101,103,101,114,112],1⟩,⟨[98,105,110,97,114,121,45,43],2⟩,⟨[98,105,110,97,114,121,45,42],2⟩,⟨[117,110,97,114,121,45,45],1⟩,⟨[117,110,97,114,121,45,47],1⟩,⟨[60],2⟩,⟨[110,117,109,101,114,97,116,111,114],1⟩,⟨[100,101,110,111,109,105,110,97,116,111,114],1⟩,⟨[102,108,111,111,114],1⟩,⟨[115,121,109,98,111,108,45,110,97,109,101],1⟩,⟨[115,121,109,98,111,108,45,112,97,99,107,97,103,101,45,110,97,109,101],1⟩,⟨[105,110,116,101,114,110],2⟩,⟨[115,116,114,105,110,103,45,97,112,112,101,110,100],2⟩,⟨[115,116,114,105,110,103,45,108,101,110,103,116,104],1⟩,⟨[115,116,114,105,110,103,45,98,121,116,101],2⟩,⟨[98,121,116,101,45,115,116,114,105,110,103],1⟩]:=rfl
def uH{x:List UInt8}: ∀{l:List G.R},(∀r∈l,¬r.name=x)->qY x l=none
 |[],_=>rfl
 |r::l,h=>by rw[qY,if_neg (h r (mhE ..)),uH λy hy=>h y (mtE _ hy)]
def ArP_ok(s:G.Y)(L n:Nat):CTp L (n+1) 110 [yR 1 s]=some (oI (arity s)):=by
 rw[c110,F110,aOU];by_cases e:s.package=eB
 ·have e':decide (s.package=([108,105,115,112]:List UInt8))=true:=decide_eq_true e;have ea:arity s=qY s.name rowsL:=by simp[arity,e]
  rw[e',ea];simp only[bnT,aC];generalize s.name=x;simp only[aOd,aOc,aOT,aOS];by_cases hm: ∃r∈rowsL,r.name=x
  ·obtain⟨r,hr,rfl⟩:=hm;rw[aFn]at hr;simp only[List.mem_cons,List.not_mem_nil,or_false]at hr;rcases hr with rfl|rfl|rfl|rfl|rfl|rfl|rfl|rfl|rfl|rfl|rfl|rfl|rfl|rfl|rfl|rfl|rfl|rfl|rfl|rfl|rfl|rfl|rfl|rfl|rfl
   all_goals rfl
  ·have hn: ∀r∈rowsL,¬r.name=x:=λr hr h=>hm ⟨r,hr,h⟩
   rw[uH hn];rw[aFn]at hn;simp only[List.forall_mem_cons,G.R.name]at hn;obtain⟨h0,h1,h2,h3,h4,h5,h6,h7,h8,h9,h10,h11,h12,h13,h14,h15,h16,h17,h18,h19,h20,h21,h22,h23,h24,-⟩:=hn;simp only[Ne.symm h0,Ne.symm h1,Ne.symm h2,Ne.symm h3,Ne.symm h4,Ne.symm h5,Ne.symm h6,Ne.symm h7,Ne.symm h8,Ne.symm h9,Ne.symm h10,Ne.symm h11,Ne.symm h12,Ne.symm h13,Ne.symm h14,Ne.symm h15,Ne.symm h16,Ne.symm h17,Ne.symm h18,Ne.symm h19,Ne.symm h20,Ne.symm h21,Ne.symm h22,Ne.symm h23,Ne.symm h24,decide_false,aC,oI]
 ·have e':decide (s.package=([108,105,115,112]:List UInt8))=false:=decide_eq_false e;have ea:arity s=none:=by simp[arity,e]
  rw[e',ea];rfl
end Go.TV
namespace Go.TV
open Go.AI Go.PI Go.Proofs
mutual
noncomputable def occ(s:G.T):G.T->Bool
 |⟨k,n,v,l⟩=>decide (s=⟨k,n,v,l⟩)||(decide (k=3)&&occ' s l)
noncomputable def occ'(s:G.T):List G.T->Bool
 |[]=>false
 |x::l=>occ s x||occ' s l
end
end Go.TV
namespace Go.TV
open Go.AI Go.PI Go.Proofs
noncomputable def vE(acc:List G.T)(t:G.T):List G.T:=if t∈acc then acc else acc++ [t]
mutual
noncomputable def sub(acc:List G.T):G.T->List G.T
 |⟨k,n,v,l⟩=>if k=3 then aCV (vE acc ⟨k,n,v,l⟩) l else vE acc ⟨k,n,v,l⟩
noncomputable def aCV(acc:List G.T):List G.T->List G.T
 |[]=>acc
 |x::l=>aCV (sub acc x) l
end
def aAU(acc:List G.T)(t:G.T):(vE acc t).length<=acc.length+1:=by
 unfold vE;split<;>simp
def aGH{acc:List G.T}{t:G.T}{B:Nat}(h: ∀y∈acc,tsz y<=B)(ht:tsz t<=B): ∀y∈vE acc t,tsz y<=B:=by
 unfold vE;split
 ·exact h
 ·intro y hy;rcases List.mem_append.1 hy with hy|hy
  ·exact h y hy
  ·simp at hy;subst hy;exact ht
def sub'_len{l:List G.T}(ih: ∀x∈l,∀acc,(sub acc x).length<=acc.length+tsz x): ∀acc,(aCV acc l).length<=acc.length+bM l:=by
 induction l with
 |nil=>intro acc;simp[aCV,bM]
 |cons x l ih2=>
  intro acc;simp only[aCV,bM];have h1:=ih2 (λy hy=>ih y (mtE _ hy)) (sub acc x)
  have h2:=ih x (mhE ..) acc;omega
def aJo: ∀(t:G.T) (acc:List G.T),(sub acc t).length<=acc.length+tsz t:=by
 intro t;induction t using cX with
 |h k n v l ih=>
  intro acc;simp only[sub,tsz];have h1:=aAU acc ⟨k,n,v,l⟩;split
  ·have:=sub'_len ih (vE acc ⟨k,n,v,l⟩);omega
  ·omega
def sub'_all{l:List G.T}{B:Nat}(ih: ∀x∈l,∀acc,(∀y∈acc,tsz y<=B)->tsz x<=B->∀y∈sub acc x,tsz y<=B):(∀x∈l,tsz x<=B)->∀acc,(∀y∈acc,tsz y<=B)->∀y∈aCV acc l,tsz y<=B:=by
 induction l with
 |nil=>intro _ acc h;exact h
 |cons x l ih2=>
  intro hl acc h;simp only[aCV];exact ih2 (λy hy=>ih y (mtE _ hy)) (λy hy=>hl y (mtE _ hy)) _ (ih x (mhE ..) acc h (hl x (mhE ..)))
def aJp{B:Nat}: ∀(t:G.T) (acc:List G.T),(∀y∈acc,tsz y<=B)->tsz t<=B->∀y∈sub acc t,tsz y<=B:=by
 intro t;induction t using cX with
 |h k n v l ih=>
  intro acc h ht;simp only[sub];have h1:=aGH h ht;simp only[tsz]at ht;split
  ·exact sub'_all (λx hx acc h1 h2=>ih x hx acc h1 h2) (λx hx=>by have:=aP hx;omega) _ h1
  ·exact h1
def ble_ok{a:Nat}(h:a<6000000):Nat.ble ((a+1)*176) 1073741824=true:=by
 apply Nat.ble_eq_true_of_le;omega
def aJn{c:TC0}{L:Nat}{t:G.T}{acc:List G.T}(hb:acc.length<6000000): ∀(l:List G.T) (k m:Nat),acc.drop k=l->l.length+1<m->
    (∀x,x∈l->c 43 (tt2 x t)=some (bb (decide (x=t))))->vU c L m (k:Int) false acc t=aIO c L (if t∈l then acc else acc++ [t]) t:=by
 intro l;induction l with
 |nil=>
  intro k m h1 h3 _;obtain⟨m,rfl⟩:=sK m 1 (by simp at h3;omega)
  have e1:=aH h1;have e3:decide ((k:Int)<(acc.length:Int))=false:=by simp;omega
  rw[vU,aOh,e3,aC,aE0,aOg];simp only[aC,Bool.not_false,aG,lcS,lnN,Nat.zero_add,ble_ok hb,eC];simp
 |cons x l ih=>
  intro k m h1 h3 hc;obtain⟨m,rfl⟩:=sK m 2 (by simp at h3;omega)
  obtain⟨a1,a2,a3⟩:=aI h1;have e3:decide ((k:Int)<(acc.length:Int))=true:=by simp;omega
  have fx:c 43 [yR 3 x,yR 3 t]=some [yB (decide (x=t))]:=hc x (mhE ..);rw[vU,aOh,e3,aG,aE0,aOg];simp only[Bool.not_false,aG];rw[aD,a1,aS,fx,aN,aX (by omega)]
  by_cases e:x=t
  ·subst e;simp only[decide_true];rw[vU,aOh];have: ∀b:Bool,cnd b (aE0 c L (vU c L m) (!true) ((k+1:Nat):Int) true acc x) (aE0 c L (vU c L m) false ((k+1:Nat):Int) true acc x)=aIO c L acc x:=by
    intro b;cases b<;>simp[cnd,aE0,aOg]
   rw[this];simp
  ·have e': ¬t=x:=λh=>e h.symm
   simp only[e,decide_false];rw[ih (k+1) (m+1) a3 (by simp at h3;omega) λz hz=>hc z (mtE _ hz)]
   simp[e']
def aJm{c:TC0}{L B M:Nat}{t:G.T}(hb:t.args.length<1000000000): ∀(l acc:List G.T) (k m:Nat),t.args.drop k=l->l.length<m->(∀y∈acc,tsz y<=B)->(∀y∈l,tsz y<=B)->acc.length+bM l<=M->
    (∀x,x∈l->∀acc:List G.T,(∀y∈acc,tsz y<=B)->acc.length+tsz x<=M->c 85 (lt2 acc x)=some (tl1 (sub acc x)))->aEJ c L m (k:Int) acc t=some (tl1 (aCV acc l)):=by
 intro l;induction l with
 |nil=>
  intro acc k m h1 h3 _ _ _ _;obtain⟨m,rfl⟩:=sK m 1 (by simp at h3;omega)
  have e1:=aH h1;have e3:decide ((k:Int)<(t.args.length:Int))=false:=by simp;omega
  rw[aEJ,B85x4,e3,aC];rfl
 |cons x l ih=>
  intro acc k m h1 h3 h4 h5 h6 hc;obtain⟨m,rfl⟩:=sK m 1 (by simp at h3;omega)
  obtain⟨a1,a2,a3⟩:=aI h1;simp only[bM]at h6;have e3:decide ((k:Int)<(t.args.length:Int))=true:=by simp;omega
  have hx:=h5 x (mhE ..);have fx:c 85 [yS 3 acc,yR 3 x]=some [yS 3 (sub acc x)]:=hc x (mhE ..) acc h4 (by omega)
  rw[aEJ,B85x4,e3,aG,aD,a1,aS,fx,oB,aX (by omega)]
  exact ih (sub acc x) (k+1) m a3 (by simp at h3;omega) (aJp x acc h4 hx) (λy hy=>h5 y (mtE _ hy)) (by have:=aJo x acc;omega) λz hz=>hc z (mtE _ hz)
def sub_ok{B M:Nat}(hB:B<1000000000)(hM:M<6000000): ∀(t:G.T) (acc:List G.T) (L n:Nat),(∀y∈acc,tsz y<=B)->tsz t<=B->acc.length+tsz t<=M->B+M+2<=L->B+tsz t<=n->
    CTp L n 85 (lt2 acc t)=some (tl1 (sub acc t)):=by
 intro t;induction t using cX with
 |h k nm v l ih=>
  intro acc L n h1 h2 h3 hL hn;have h2':=h2;simp only[tsz]at h2 h3 hn;have hlen:=bF l;obtain⟨n,rfl⟩:=sK n 1 (by omega)
  show CTp L (n+1) 85 [yS 3 _,yR 3 _]=_;rw[c85,F85,B85x0];have:=aJn (c:=CTp L n) (L:=L) (t:=⟨k,nm,v,l⟩) (acc:=acc) (by omega) acc 0 L rfl (by omega) λx hx=>vA x (by have:=h1 x hx;simp only[wfT];omega) _ L n (by have:=h1 x hx;omega) (by have:=h1 x hx;omega)
  refine this.trans ?_;change aIO _ L (vE acc ⟨k,nm,v,l⟩) _=_;rw[aIO,B85x3,sub];have hl:=aAU acc ⟨k,nm,v,l⟩;by_cases e:k=3
  ·simp only[e,G.T.kind,decide_true,aG,if_true];subst e;exact aJm (B:=B) (M:=M) (t:=⟨3,nm,v,l⟩) (by show l.length<_;omega) l (vE acc ⟨3,nm,v,l⟩) 0 L rfl (by omega) (aGH h1 h2') (λy hy=>by have:=aP hy;omega) (by omega)
    λx hx acc2 q1 q2=>ih x hx acc2 L n q1 (by have:=aP hx;omega) q2 hL (by have:=aP hx;omega)
  ·simp only[e,G.T.kind,decide_false,aC,if_false];rfl
def Sub_loop{c:TC0}{L B M:Nat}{a:List G.T}(hb:a.length<1000000000): ∀(l acc:List G.T) (k m:Nat),a.drop k=l->l.length<m->(∀y∈acc,tsz y<=B)->(∀y∈l,tsz y<=B)->acc.length+bM l<=M->
    (∀x,x∈l->∀acc:List G.T,(∀y∈acc,tsz y<=B)->acc.length+tsz x<=M->c 85 (lt2 acc x)=some (tl1 (sub acc x)))->aEU c L m a (k:Int) acc=some (tl1 (aCV acc l)):=by
 intro l;induction l with
 |nil=>
  intro acc k m h1 h3 _ _ _ _;obtain⟨m,rfl⟩:=sK m 1 (by simp at h3;omega)
  have e1:=aH h1;have e3:decide ((k:Int)<(a.length:Int))=false:=by simp;omega
  rw[aEU,B36x1,e3,aC];rfl
 |cons x l ih=>
  intro acc k m h1 h3 h4 h5 h6 hc;obtain⟨m,rfl⟩:=sK m 1 (by simp at h3;omega)
  obtain⟨a1,a2,a3⟩:=aI h1;simp only[bM]at h6;have e3:decide ((k:Int)<(a.length:Int))=true:=by simp;omega
  have hx:=h5 x (mhE ..);have fx:c 85 [yS 3 acc,yR 3 x]=some [yS 3 (sub acc x)]:=hc x (mhE ..) acc h4 (by omega)
  rw[aEU,B36x1,e3,aG,aD,a1,aS,fx,oB,aX (by omega)]
  exact ih (sub acc x) (k+1) m a3 (by simp at h3;omega) (aJp x acc h4 hx) (λy hy=>h5 y (mtE _ hy)) (by have:=aJo x acc;omega) λz hz=>hc z (mtE _ hz)
def Sub_ok{a:List G.T}{L n:Nat}(hw:bM a<6000000)(hL:2*bM a+2<=L)(hn:2*bM a<n):CTp L n 36 (tl1 a)=some (tl1 (aCV [] a)):=by
 have hlen:=bF a;obtain⟨n,rfl⟩:=sK n 1 (by omega)
 show CTp L (n+1) 36 [yS 3 _]=_;rw[c36,F36,B36x0];exact Sub_loop (B:=bM a) (M:=bM a) (by omega) a [] 0 L rfl (by omega) (λy hy=>by cases hy) (λy hy=>aP hy) (by simp) λx hx acc q1 q2=>
  sub_ok (by omega) hw x acc L n q1 (aP hx) q2 (by omega) (by have:=aP hx;omega)
end Go.TV
namespace Go.TV
open Go.AI Go.PI Go.Proofs
def notB:List UInt8:=[110,111,116]
def eqB:List UInt8:=[101,113,117,97,108]
end Go.TV
namespace Go.TV
open Go.AI Go.PI Go.Proofs
def neg(x:G.T):G.T:=match x.args with
 |[p]=>if isA x notB 1 then p else x
 |_=>x
noncomputable def eqb(t y:G.T):Bool:=match y.args with
 |[p,q]=>isA y eqB 2&&(occ t p&&occ t q)
 |_=>false
noncomputable def both(t x:G.T):Bool:=eqb t (neg x)
end Go.TV
namespace Go.TV
open Go.AI Go.PI Go.Proofs
def dG{W:Type}{b:List G.Y}{K:List G.Y×Unit->Option W}:obL (D:=U0.D) [.sl (.rc 1)] (some [yS 1 b]) K=K (b,()):=rfl
def sC(out:List G.Y)(s:G.Y):List G.Y:=if s∈out then out else out++ [s]
def eX:List G.Y->List G.Y->List G.Y
 |out,[]=>out
 |out,s::r=>eX (sC out s) r
mutual
def sE:G.T->List G.Y
 |⟨k,nm,_,l⟩=>if k=1 then [nm]else if k=3 then bD [] l else []
def bD(out:List G.Y):List G.T->List G.Y
 |[]=>out
 |x::l=>bD (eX out (sE x)) l
end
def ls1(a:List G.Y):TVs:=[yS 1 a]
def args_app{t:G.T}{L n:Nat}(h:t.kind=3):CTp L (n+1) 82 [yR 3 t]=some (tl1 t.args):=args_ok.trans (by rw[if_pos h])
def args_no{t:G.T}{L n:Nat}(h: ¬t.kind=3):CTp L (n+1) 82 [yR 3 t]=some (tl1 []):=args_ok.trans (by rw[if_neg h])
def Am_loop{c:TC0}{L:Nat}{t:G.Y}{a:List G.Y}(hb:a.length<1000000000): ∀(l:List G.Y) (k m:Nat),a.drop k=l->l.length<m->
    aEL c L m a (k:Int) t=some (bb (decide (t∈l))):=by
 intro l;induction l with
 |nil=>
  intro k m h1 h3;obtain⟨m,rfl⟩:=sK m 1 (by simp at h3;omega)
  have e1:=aH h1;have e3:decide ((k:Int)<(a.length:Int))=false:=by simp;omega
  rw[aEL,B83x1,e3,aC];simp[bb]
 |cons x l ih=>
  intro k m h1 h3;obtain⟨m,rfl⟩:=sK m 1 (by simp at h3;omega)
  obtain⟨a1,a2,a3⟩:=aI h1;have e3:decide ((k:Int)<(a.length:Int))=true:=by simp;omega
  rw[aEL,B83x1,e3,aG,aD,a1,aS,aX (by omega)]
  by_cases e:x=t
  ·subst e;simp[cnd,bb]
  ·have e': ¬t=x:=λh=>e h.symm
   simp only[e,decide_false,aC];rw[ih (k+1) m a3 (by simp at h3;omega)]
   simp[e']
def Am_ok{a:List G.Y}{t:G.Y}{L n:Nat}(hb:a.length<1000000000)(hL:a.length<L):CTp L (n+1) 83 [yS 1 a,yR 1 t]=some [yB (decide (t∈a))]:=by
 rw[c83];exact Am_loop hb a 0 L rfl hL
def aGJ(out:List G.Y)(s:G.Y):(sC out s).length<=out.length+1:=by
 unfold sC;split<;>simp
def oP: ∀(r out:List G.Y),(eX out r).length<=out.length+r.length
 |[],out=>by simp[eX]
 |s::r,out=>by
  have h1:=oP r (sC out s);have h2:=aGJ out s;simp only[eX,lcS];omega
def zJ{l:List G.T}(ih: ∀x∈l,(sE x).length<=tsz x): ∀out,(bD out l).length<=out.length+bM l:=by
 induction l with
 |nil=>intro out;simp[bD,bM]
 |cons x l ih2=>
  intro out;simp only[bD,bM];have h1:=ih2 (λy hy=>ih y (mtE _ hy)) (eX out (sE x))
  have h2:=ih x (mhE ..);have h3:=oP (sE x) out;omega
def rU: ∀(t:G.T),(sE t).length<=tsz t:=by
 intro t;induction t using cX with
 |h k n v l ih=>
  simp only[sE,tsz];split
  ·simp;omega
  ·split
   ·have:=zJ ih [];simp at this;omega
   ·simp
def ble32{a:Nat}(h:a<30000000):Nat.ble ((a+1)*32) 1073741824=true:=by
 apply Nat.ble_eq_true_of_le;omega
def Va_in{L n:Nat}{n1:List G.T->Int->List G.Y->Rt}{a:List G.T}{k4:Int}{p:List G.Y}(hp:p.length<30000000): ∀(l out:List G.Y) (k m:Nat),p.drop k=l->l.length<m->out.length+l.length<30000000->out.length+l.length<L->
    aCx (CTp L (n+1)) L n1 m p (k:Int) k4 a out=n1 a (IntKind.i64.wrap (k4+1)) (eX out l):=by
 intro l;induction l with
 |nil=>
  intro out k m h1 h3 _ _;obtain⟨m,rfl⟩:=sK m 1 (by simp at h3;omega)
  have e1:=aH h1;have e3:decide ((k:Int)<(p.length:Int))=false:=by simp;omega
  rw[aCx,B33x3,e3,aC];rfl
 |cons x l ih=>
  intro out k m h1 h3 h4 h5;obtain⟨m,rfl⟩:=sK m 1 (by simp at h3;omega)
  obtain⟨a1,a2,a3⟩:=aI h1;simp only[lcS]at h4 h5;have e3:decide ((k:Int)<(p.length:Int))=true:=by simp;omega
  rw[aCx,B33x3,e3,aG,aD,a1,aS,Am_ok (by omega) (by omega),aN,eX]
  by_cases e:x∈out
  ·have ea:sC out x=out:=by simp[sC,e]
   simp only[e,decide_true,bnT,aC,J33x4,B33x4];rw[aX (by omega),ih out (k+1) m a3 (by simp at h3;omega) (by omega) (by omega),ea]
  ·have ea:sC out x=out++ [x]:=by simp[sC,e]
   simp only[e,decide_false,Bool.not_false,aG,J33x4,B33x4,aS,lcS,lnN,Nat.zero_add,ble32 (show out.length<30000000 by omega),eC]
   rw[aX (by omega),ih (out++ [x]) (k+1) m a3 (by simp at h3;omega) (by simp;omega) (by simp;omega),ea]
def aNG{L n:Nat}{a:List G.T}(hb:a.length<1000000000): ∀(l:List G.T) (out:List G.Y) (k m:Nat),a.drop k=l->l.length<m->out.length+bM l<30000000->out.length+bM l<L->
    (∀x,x∈l->x.kind=3->CTp L (n+1) 33 [yS 3 x.args]=some (ls1 (bD [] x.args)))->
    (∀x,x∈l->CTp L (n+1) 33 [yS 3 ([]:List G.T)]=some (ls1 []))->vV (CTp L (n+1)) L m a (k:Int) out=some (ls1 (bD out l)):=by
 intro l;induction l with
 |nil=>
  intro out k m h1 h3 _ _ _ _;obtain⟨m,rfl⟩:=sK m 1 (by simp at h3;omega)
  have e1:=aH h1;have e3:decide ((k:Int)<(a.length:Int))=false:=by simp;omega
  rw[vV,aOj,e3,aC];rfl
 |cons x l ih=>
  intro out k m h1 h3 h4 h5 hc hz;obtain⟨m,rfl⟩:=sK m 1 (by simp at h3;omega)
  obtain⟨a1,a2,a3⟩:=aI h1;simp only[bM]at h4 h5;have hv:=rU x;have e3:decide ((k:Int)<(a.length:Int))=true:=by simp;omega
  have key:aCx (CTp L (n+1)) L (vV (CTp L (n+1)) L m) L (sE x) 0 (k:Int) a out=some (ls1 (bD out (x::l))):=by
   have h0:=Va_in (L:=L) (n:=n) (n1:=vV (CTp L (n+1)) L m) (a:=a) (k4:=(k:Int)) (p:=sE x) (by omega) (sE x) out 0 L rfl (by omega) (by omega) (by omega)
   refine h0.trans ?_;have hl:=oP (sE x) out;rw[aX (by omega),bD]
   exact ih (eX out (sE x)) (k+1) m a3 (by simp at h3;omega) (by omega) (by omega) (λy hy=>hc y (mtE _ hy)) (λy hy=>hz y (mtE _ hy))
  rw[vV,aOj,e3,aG,aD,a1,aS];simp only[aS,J33x2,B33x2];cases x with|mk kk nm v al=>
  by_cases e1:kk=1
  ·have:sE ⟨kk,nm,v,al⟩=[nm]:=by simp[sE,e1]
   rw[this]at key;simp only[G.T.kind,G.T.name,e1,decide_true,aG];rw[<-e1];exact key
  ·have h58: ∃q:List G.T,CTp L (n+1) 82 [yR 3 ⟨kk,nm,v,al⟩]=some [yS 3 q]/\CTp L (n+1) 33 [yS 3 q]=some [yS 1 (sE ⟨kk,nm,v,al⟩)]:=by
    by_cases e2:kk=3
    ·refine⟨al,args_app (t:=⟨kk,nm,v,al⟩) e2,?_⟩;have:sE ⟨kk,nm,v,al⟩=bD [] al:=by simp[sE,e2]
     rw[this];exact hc ⟨kk,nm,v,al⟩ (mhE ..) e2
    ·refine⟨[],args_no (t:=⟨kk,nm,v,al⟩) e2,?_⟩;have:sE ⟨kk,nm,v,al⟩=[]:=by simp[sE,e1,e2]
     rw[this];exact hz ⟨kk,nm,v,al⟩ (mhE ..)
   obtain⟨q,q1,q2⟩:=h58;have e1':decide ((G.T.mk kk nm v al).kind=1)=false:=by simp[G.T.kind,e1]
   rw[e1',aC,q1,oB,q2,dG];exact key
end Go.TV
namespace Go.TV
open Go.AI Go.PI Go.Proofs
def Va_nil{L n:Nat}(hL:0<L):CTp L (n+1) 33 [yS 3 ([]:List G.T)]=some (ls1 []):=by
 obtain⟨L,rfl⟩:=sK L 1 (by omega)
 rw[c33,F33,B33x0,vV,aOj];have e3:decide ((0:Int)<(([]:List G.T).length:Int))=false:=by simp
 rw[e3,aC];rfl
def VaT_ok: ∀(t:G.T),tsz t<30000000->∀(L n:Nat),tsz t<L->tsz t<=n->CTp L n 33 [yS 3 t.args]=some (ls1 (bD [] t.args)):=by
 intro t;induction t using cX with
 |h k nm v l ih=>
  intro hw L n hL hn;simp only[tsz]at hw hL hn;have hlen:=bF l;obtain⟨n,rfl⟩:=sK n 2 (by omega)
  show CTp L (n+1+1) 33 [yS 3 l]=some (ls1 (bD [] l));rw[c33];exact aNG (n:=n) (by omega) l [] 0 L rfl (by omega) (by simp;omega) (by simp;omega)
   (λx hx _=>ih x hx (by have:=aP hx;omega) L (n+1) (by have:=aP hx;omega) (by have:=aP hx;omega))
   (λx hx=>Va_nil (by omega))
def VaL_ok(l:List G.T)(hw:bM l<30000000)(L n:Nat)(hL:bM l<L)(hn:bM l+2<=n):CTp L n 33 [yS 3 l]=some (ls1 (bD [] l)):=by
 have hlen:=bF l;obtain⟨n,rfl⟩:=sK n 2 (by omega)
 rw[c33];exact aNG (n:=n) (by omega) l [] 0 L rfl (by omega) (by simp;omega) (by simp;omega)
  (λx hx _=>VaT_ok x (by have:=aP hx;omega) L (n+1) (by have:=aP hx;omega) (by have:=aP hx;omega))
  (λx hx=>Va_nil (by omega))
end Go.TV
namespace Go.TV
open Go.AI Go.PI Go.Proofs
def mX{s:List UInt8}{L n:Nat}:CTp L (n+1) 37 [yT s]=some [yR 1 (⟨eB,s⟩:G.Y)]:=by
 rw[c37];rfl
def Is_ok{t:G.T}{s:List UInt8}{k:Int}{L n:Nat}:CTp L (n+2) 34 (tsi t s k)=some (bb (isA t s k)):=by
 show CTp L (n+1+1) 34 [yR 3 _,yT _,yI _]=_;rw[c34,F34,B34x0,mX,fZ];simp only[J34x1,B34x1,isA];by_cases e1:t.kind=3
 ·by_cases e2:t.name=⟨eB,s⟩
  ·simp[e1,e2,cnd,bb]
  ·simp[e1,e2,cnd,bb]
 ·simp[e1,cnd,bb]
end Go.TV
namespace Go.TV
open Go.AI Go.PI Go.Proofs
set_option maxRecDepth 20000
def ct_loop{c:TC0}{L:Nat}{t:G.Y}{a:List G.Y}(hb:a.length<1000000000): ∀(l:List G.Y) (k m:Nat),a.drop k=l->l.length<m->
    aEO c L m (a.length:Int) a (k:Int) t=some (bb (decide (t∈l))):=by
 intro l;induction l with
 |nil=>
  intro k m h1 h3;obtain⟨m,rfl⟩:=sK m 1 (by simp at h3;omega)
  have e1:=aH h1;have e3:decide ((k:Int)<(a.length:Int))=false:=by simp;omega
  rw[aEO,B72x1,e3,aC];simp[bb]
 |cons x l ih=>
  intro k m h1 h3;obtain⟨m,rfl⟩:=sK m 1 (by simp at h3;omega)
  obtain⟨a1,a2,a3⟩:=aI h1;have e3:decide ((k:Int)<(a.length:Int))=true:=by simp;omega
  rw[aEO,B72x1,e3,aG,aD,a1,aS,aX (by omega)]
  by_cases e:x=t
  ·subst e;simp[cnd,bb]
  ·have e': ¬t=x:=λh=>e h.symm
   simp only[e,decide_false,aC];rw[ih (k+1) m a3 (by simp at h3;omega)]
   simp[e']
def ct_ok{a:List G.Y}{t:G.Y}{L n:Nat}(hb:a.length<1000000000)(hL:a.length<L):CTp L (n+1) 72 [yS 1 a,yR 1 t]=some [yB (decide (t∈a))]:=by
 rw[c72];exact ct_loop hb a 0 L rfl hL
def hs_loop{c:TC0}{L:Nat}{t:G.Y}{a:List G.Y}(hb:a.length<1000000000): ∀(l:List G.Y) (k m:Nat),a.drop k=l->l.length<m->
    aEI c L m a (k:Int) t=some (bb (decide (t∈l))):=by
 intro l;induction l with
 |nil=>
  intro k m h1 h3;obtain⟨m,rfl⟩:=sK m 1 (by simp at h3;omega)
  have e1:=aH h1;have e3:decide ((k:Int)<(a.length:Int))=false:=by simp;omega
  rw[aEI,B87x1,e3,aC];simp[bb]
 |cons x l ih=>
  intro k m h1 h3;obtain⟨m,rfl⟩:=sK m 1 (by simp at h3;omega)
  obtain⟨a1,a2,a3⟩:=aI h1;have e3:decide ((k:Int)<(a.length:Int))=true:=by simp;omega
  rw[aEI,B87x1,e3,aG,aD,a1,aS,aX (by omega)]
  by_cases e:x=t
  ·subst e;simp[cnd,bb]
  ·have e': ¬t=x:=λh=>e h.symm
   simp only[e,decide_false,aC];rw[ih (k+1) m a3 (by simp at h3;omega)]
   simp[e']
def hs_ok{a:List G.Y}{t:G.Y}{L n:Nat}(hb:a.length<1000000000)(hL:a.length<L):CTp L (n+1) 87 [yS 1 a,yR 1 t]=some [yB (decide (t∈a))]:=by
 rw[c87];exact hs_loop hb a 0 L rfl hL
def wit(a b:List G.Y):Bool:=a.all λs=>decide (s∈b)
def aE7{x:G.Y}{l b:List G.Y}:wit (x::l) b=(decide (x∈b)&&wit l b):=rfl
def aI9{a b d:List G.Y}(h: ∀s,s∈b↔s∈d):wit a b=wit a d:=by
 unfold wit;congr;funext s;exact decide_eq_decide.2 (h s)
def wC{a b d:List G.Y}(h: ∀s,s∈a↔s∈d):wit a b=wit d b:=by
 unfold wit;rw[Bool.eq_iff_iff,List.all_eq_true,List.all_eq_true];exact⟨λq s hs=>q s ((h s).2 hs),λq s hs=>q s ((h s).1 hs)⟩
def wP_loop{c:TC0}{L:Nat}{a b:List G.Y}(hb:a.length<1000000000)(hc: ∀s:G.Y,c 72 [yS 1 b,yR 1 s]=some [yB (decide (s∈b))]): ∀(l:List G.Y) (k m:Nat),a.drop k=l->l.length<m->
    aEQ c L m (a.length:Int) a b (k:Int)=some [yB (wit l b)]:=by
 intro l;induction l with
 |nil=>
  intro k m h1 h3;obtain⟨m,rfl⟩:=sK m 1 (by simp at h3;omega)
  have e1:=aH h1;have e3:decide ((k:Int)<(a.length:Int))=false:=by simp;omega
  rw[aEQ,B69x1,e3,aC];rfl
 |cons x l ih=>
  intro k m h1 h3;obtain⟨m,rfl⟩:=sK m 1 (by simp at h3;omega)
  obtain⟨a1,a2,a3⟩:=aI h1;have e3:decide ((k:Int)<(a.length:Int))=true:=by simp;omega
  rw[aEQ,B69x1,e3,aG,aD,a1,aS,hc,aN,aX (by omega),ih (k+1) m a3 (by simp at h3;omega),aE7]
  cases decide (x∈b)<;>rfl
def wP_ok{a b:List G.Y}{L n:Nat}(h1:a.length<1000000000)(h2:a.length<L)(h3:b.length<1000000000)(h4:b.length<L):CTp L (n+2) 69 [yS 1 a,yS 1 b]=some [yB (wit a b)]:=by
 rw[c69];exact wP_loop h1 (λs=>ct_ok h3 h4) a 0 L rfl h2
def wR_loop{c:TC0}{L:Nat}{a b:List G.Y}(hb:a.length<1000000000)(hc: ∀s:G.Y,c 87 [yS 1 b,yR 1 s]=some [yB (decide (s∈b))]): ∀(l:List G.Y) (k m:Nat),a.drop k=l->l.length<m->
    aET c L m b a (k:Int)=some [yB (wit l b)]:=by
 intro l;induction l with
 |nil=>
  intro k m h1 h3;obtain⟨m,rfl⟩:=sK m 1 (by simp at h3;omega)
  have e1:=aH h1;have e3:decide ((k:Int)<(a.length:Int))=false:=by simp;omega
  rw[aET,B41x1,e3,aC];rfl
 |cons x l ih=>
  intro k m h1 h3;obtain⟨m,rfl⟩:=sK m 1 (by simp at h3;omega)
  obtain⟨a1,a2,a3⟩:=aI h1;have e3:decide ((k:Int)<(a.length:Int))=true:=by simp;omega
  rw[aET,B41x1,e3,aG,aD,a1,aS,hc,aN,aX (by omega),ih (k+1) m a3 (by simp at h3;omega),aE7]
  cases decide (x∈b)<;>rfl
def wR_ok{a b:List G.Y}{L n:Nat}(h1:a.length<1000000000)(h2:a.length<L)(h3:b.length<1000000000)(h4:b.length<L):CTp L (n+2) 41 [yS 1 a,yS 1 b]=some [yB (wit a b)]:=by
 rw[c41];exact wR_loop h1 (λs=>hs_ok h3 h4) a 0 L rfl h2
def prm(s:G.Y):Bool:=(arity s).isSome
def pln(s:G.Y):Bool:=prm s||decide (s=⟨eB,notB⟩)
def aDk(o:Option Int): ∃i:Int,oI o=[yI i,yB o.isSome]:=by
 cases o with
 |none=>exact⟨_,rfl⟩
 |some k=>exact⟨_,rfl⟩
def pmP_ok(s:G.Y)(L n:Nat):CTp L (n+2) 76 [yR 1 s]=some [yB (prm s)]:=by
 obtain⟨i,h⟩:=aDk (arity s);rw[c76,F76,B76x0,ArP_ok,h];rfl
def pmR_ok(s:G.Y)(L n:Nat)(hL:1000<=L):CTp L (n+3) 46 [yR 1 s]=some [yB (prm s)]:=by
 obtain⟨i,h⟩:=aDk (arity s);rw[c46,F46,B46x0,ArR_ok s L n hL,h];rfl
def aBx{s:List UInt8}{L n:Nat}:CTp L (n+1) 51 [yT s]=some [yR 1 (⟨eB,s⟩:G.Y)]:=by
 rw[c51];rfl
def dfP_ok(s:G.Y)(L n:Nat):CTp L (n+3) 74 [yR 1 s]=some [yB (!pln s)]:=by
 rw[c74,F74,B74x0,pmP_ok,aN];unfold pln;cases prm s with
 |true=>rfl
 |false=>
  rw[Bool.not_false,aG,aBx,fZ];rfl
def plnR_ok(s:G.Y)(L n:Nat)(hL:1000<=L):CTp L (n+3) 44 [yR 1 s]=some [yB (pln s)]:=by
 obtain⟨i,h⟩:=aDk (arity s);rw[c44,F44,B44x0,ArR_ok s L n hL,h];show cnd (arity s).isSome _ _=_;unfold pln prm;cases(arity s).isSome with
 |true=>rfl
 |false=>
  rw[aC,mX,fZ];rfl
def aKY{t:G.T}{s:List UInt8}{k:Int}{L n:Nat}:CTp L (n+2) 63 [yR 3 t,yT s,yI k]=some [yB (isA t s k)]:=by
 rw[c63,F63,B63x0];unfold isA;cases decide (t.kind=3)with
 |false=>rfl
 |true=>
  rw[aG,aBx,fZ];show cnd (decide (t.name=⟨eB,s⟩)) _ _=_;cases decide (t.name=⟨eB,s⟩)<;>rfl
end Go.TV
namespace Go.TV
open Go.AI Go.PI Go.Proofs
set_option maxRecDepth 20000
def si_loop{c:TC0}{L:Nat}{t:G.Y}{a:List G.Y}(hb:a.length<1000000000): ∀(l:List G.Y) (k m:Nat),a.drop k=l->l.length<m->
    ∃r:Int,uO c L m (a.length:Int) a (k:Int) t=some [yI r]/\decide (0<=r)=decide (t∈l):=by
 intro l;induction l with
 |nil=>
  intro k m h1 h3;obtain⟨m,rfl⟩:=sK m 1 (by simp at h3;omega)
  have e1:=aH h1;have e3:decide ((k:Int)<(a.length:Int))=false:=by simp;omega
  rw[uO,aHz,e3,aC];exact⟨-1,rfl,by simp⟩
 |cons x l ih=>
  intro k m h1 h3;obtain⟨m,rfl⟩:=sK m 1 (by simp at h3;omega)
  obtain⟨a1,a2,a3⟩:=aI h1;have e3:decide ((k:Int)<(a.length:Int))=true:=by simp;omega
  rw[uO,aHz,e3,aG,aD,a1,aS,aX (by omega)]
  by_cases e:t=x
  ·rw[decide_eq_true e,aG];exact⟨k,rfl,by subst e;simp⟩
  ·rw[decide_eq_false e,aC];obtain⟨r,h5,h6⟩:=ih (k+1) m a3 (by simp at h3;omega)
   exact⟨r,h5,by rw[h6];simp[e]⟩
def sc_ok{a:List G.Y}{t:G.Y}{L n:Nat}(hb:a.length<1000000000)(hL:a.length<L):CTp L (n+2) 189 [yS 1 a,yR 1 t]=some [yB (decide (t∈a))]:=by
 obtain⟨r,h1,h2⟩:=si_loop (c:=CTp L n) (L:=L) (t:=t) hb a 0 L rfl hL;have h3:CTp L (n+1) 199 [yS 1 a,yR 1 t]=some [yI r]:=by
  rw[c199];exact h1
 rw[<-h2,c189,F189,aOn,h3];rfl
mutual
def colT(out:List G.Y):G.T->List G.Y
 |⟨k,nm,_,l⟩=>if k=3 then aMu (if k=1 then sC out nm else out) l else if k=1 then sC out nm else out
def aMu(out:List G.Y):List G.T->List G.Y
 |[]=>out
 |x::l=>aMu (colT out x) l
end
def mem_addS{x s:G.Y}{out:List G.Y}:x∈sC out s↔x∈out∨x=s:=by
 unfold sC;split
 ·rename_i h;exact⟨.inl,λh'=>h'.elim id λe=>e▸h⟩
 ·simp
def sW{x:G.Y}: ∀{r out:List G.Y},x∈eX out r↔x∈out∨x∈r
 |[],out=>by simp[eX]
 |s::r,out=>by rw[eX,sW,mem_addS,List.mem_cons];exact or_assoc
def yZ(s:G.Y): ∀(r out:List G.Y),eX out (r++ [s])=sC (eX out r) s
 |[],out=>rfl
 |x::r,out=>by rw[cnA,eX,yZ s r,eX]
def aIw(out a:List G.Y)(s:G.Y):eX out (sC a s)=sC (eX out a) s:=by
 by_cases h:s∈a
 ·rw[sC,if_pos h,sC,if_pos (sW.2 (.inr h))]
 ·rw[sC,if_neg h,yZ]
def uM(out:List G.Y): ∀(b a:List G.Y),eX out (eX a b)=eX (eX out a) b
 |[],a=>rfl
 |s::b,a=>by rw[eX,uM out b,aIw,eX]
def aE9(out:List G.Y): ∀(l:List G.T) (acc:List G.Y),eX out (bD acc l)=bD (eX out acc) l
 |[],acc=>by rw[bD,bD]
 |x::l,acc=>by rw[bD,aE9 out l,uM,bD]
def aMt{l:List G.T}(h: ∀x∈l,∀out,colT out x=eX out (sE x)): ∀out,aMu out l=bD out l:=by
 induction l with
 |nil=>intro out;rw[aMu,bD]
 |cons x l ih=>intro out;rw[aMu,bD,h x (mhE ..),ih λy hy=>h y (mtE _ hy)]
def aMs: ∀(t:G.T) (out:List G.Y),colT out t=eX out (sE t):=by
 intro t;induction t using cX with
 |h k nm v l ih=>
  intro out;rw[colT,sE];by_cases h3:k=3
  ·have h1: ¬k=1:=by omega
   rw[if_pos h3,if_neg h1,if_neg h1,if_pos h3,aMt ih,aE9];rfl
  ·rw[if_neg h3];by_cases h1:k=1
   ·rw[if_pos h1,if_pos h1];rfl
   ·rw[if_neg h1,if_neg h1,if_neg h3];rfl
def colL_eq(l:List G.T)(out:List G.Y):aMu out l=bD out l:=aMt (λx _=>aMs x) out
def aGt(t:G.T)(out:List G.Y):(colT out t).length<=out.length+tsz t:=by
 rw[aMs];have h1:=oP (sE t) out;have h2:=rU t;omega
def jG{x:G.Y}: ∀{l:List G.T} {out:List G.Y},x∈bD out l↔x∈out∨∃t∈l,x∈sE t
 |[],out=>by simp[bD]
 |t::l,out=>by
  rw[bD,jG,sW,or_assoc];simp
def vt3(out:List G.Y):TVs:=[yB true,yI (1:Int),yS 1 out]
def aDj{W:Type}{b:Bool}{i:Int}{l:List G.Y}{K:Bool×Int×List G.Y×Unit->Option W}:obL (D:=U0.D) [.bool,.int .i64,.sl (.rc 1)] (some [yB b,yI i,yS 1 l]) K=K (b,i,l,()):=rfl
def c1_ok{t:G.T}{out:List G.Y}{L n:Nat}(h:out.length<30000000)(hL:out.length<L):CTp L (n+3) 161 [yR 3 t,yI (1:Int),yS 1 out]=some (vt3 (if t.kind=1 then sC out t.name else out)):=by
 rw[c161,F161,aOD];by_cases hk:t.kind=1
 ·rw[decide_eq_true hk,aG,sc_ok (by omega) hL,aN,if_pos hk]
  simp only[aN6,aOC,aN5,aOB];by_cases hm:t.name∈out
  ·rw[decide_eq_true hm,sC,if_pos hm];rfl
  ·rw[decide_eq_false hm,Bool.not_false,aG,sC,if_neg hm];show chk (Nat.ble ((out.length+1)*32) 1073741824) _=_;rw[ble32 h,eC];rfl
 ·rw[decide_eq_false hk,aC,if_neg hk];rfl
def wk_loop{L n:Nat}{a:List G.T}(hb:a.length<1000000000): ∀(l:List G.T) (k m:Nat) (out:List G.Y),a.drop k=l->l.length<m->out.length+bM l<30000000->out.length+bM l<L->
    (∀x∈l,∀out:List G.Y,out.length+tsz x<30000000->out.length+tsz x<L->CTp L n 132 [yR 3 x,yI (1:Int),yS 1 out]=some (vt3 (colT out x)))->
    uT (CTp L n) L m (a.length:Int) a (k:Int) (1:Int) out=some (vt3 (aMu out l)):=by
 intro l;induction l with
 |nil=>
  intro k m out h1 h3 _ _ _;obtain⟨m,rfl⟩:=sK m 1 (by simp at h3;omega)
  have e1:=aH h1;have e3:decide ((k:Int)<(a.length:Int))=false:=by simp;omega
  rw[uT,aHG,e3,aC];rfl
 |cons x l ih=>
  intro k m out h1 h3 h4 h5 hc;obtain⟨m,rfl⟩:=sK m 1 (by simp at h3;omega)
  obtain⟨a1,a2,a3⟩:=aI h1;simp only[bM]at h4 h5;have hl:=aGt x out;have e3:decide ((k:Int)<(a.length:Int))=true:=by simp;omega
  have hx:=hc x (mhE ..) out (by omega) (by omega)
  rw[vt3]at hx;rw[uT,aHG,e3,aG,aD,a1,aS,hx,aDj,aX (by omega)]
  simp only[bnT];rw[aC,aMu];exact ih (k+1) m (colT out x) a3 (by simp at h3;omega) (by omega) (by omega) (λy hy=>hc y (mtE _ hy))
def wk_ok: ∀(t:G.T) (L n:Nat) (out:List G.Y),out.length+tsz t<30000000->out.length+tsz t<L->tsz t+3<=n->CTp L n 132 [yR 3 t,yI (1:Int),yS 1 out]=some (vt3 (colT out t)):=by
 intro t;induction t using cX with
 |h k nm v l ih=>
  intro L n out hw hL hn;have hlen:=bF l;have htz:tsz ⟨k,nm,v,l⟩=tsz ⟨k,nm,v,l⟩:=rfl;simp only[tsz]at hw hL hn;obtain⟨n,rfl⟩:=sK n 4 (by omega)
  have h1:=c1_ok (t:=⟨k,nm,v,l⟩) (out:=out) (L:=L) (n:=n) (by omega) (by omega)
  rw[vt3]at h1;rw[c132,F132,aOJ,h1,aDj];simp only[bnT];rw[aC,colT];have hl1:(if(G.T.mk k nm v l).kind=1 then sC out (G.T.mk k nm v l).name else out).length<=out.length+1:=by
   split
   ·exact aGJ out nm
   ·omega
  by_cases h3:k=3
  ·rw[show decide ((G.T.mk k nm v l).kind=3)=true from decide_eq_true h3,aG,if_pos h3]
   refine wk_loop (a:=l) (by omega) l 0 L _ rfl (by omega) (by omega) (by omega) λx hx out' g1 g2=>ih x hx L (n+3) out' g1 g2 (by have:=aP hx;omega)
  ·rw[show decide ((G.T.mk k nm v l).kind=3)=false from decide_eq_false h3,aC,if_neg h3];rfl
def cl_loop{L n:Nat}{a:List G.T}(hb:a.length<1000000000): ∀(l:List G.T) (k m:Nat) (out:List G.Y),a.drop k=l->l.length<m->out.length+bM l<30000000->out.length+bM l<L->bM l+3<=n->
    uZ (CTp L n) L m (a.length:Int) a (k:Int) (1:Int) out=some [yS 1 (aMu out l)]:=by
 intro l;induction l with
 |nil=>
  intro k m out h1 h3 _ _ _;obtain⟨m,rfl⟩:=sK m 1 (by simp at h3;omega)
  have e1:=aH h1;have e3:decide ((k:Int)<(a.length:Int))=false:=by simp;omega
  rw[uZ,aHQ,e3,aC];rfl
 |cons x l ih=>
  intro k m out h1 h3 h4 h5 h6;obtain⟨m,rfl⟩:=sK m 1 (by simp at h3;omega)
  obtain⟨a1,a2,a3⟩:=aI h1;simp only[bM]at h4 h5 h6;have hl:=aGt x out;have e3:decide ((k:Int)<(a.length:Int))=true:=by simp;omega
  have hx:=wk_ok x L n out (by omega) (by omega) (by omega)
  rw[vt3]at hx;rw[uZ,aHQ,e3,aG,aD,a1,aS,hx,aDj,aX (by omega),aMu]
  exact ih (k+1) m (colT out x) a3 (by simp at h3;omega) (by omega) (by omega) (by omega)
def vP_ok(l:List G.T)(hw:bM l<30000000)(L n:Nat)(hL:bM l<L)(hn:bM l+5<=n):CTp L n 68 [yS 3 l]=some [yS 1 (bD [] l)]:=by
 have hlen:=bF l;obtain⟨n,rfl⟩:=sK n 2 (by omega)
 have h:=cl_loop (L:=L) (n:=n) (a:=l) (by omega) l 0 L [] rfl (by omega) (by simp;omega) (by simp;omega) (by omega)
 have h2:CTp L (n+1) 106 [yS 3 l,yI (1:Int)]=some [yS 1 (aMu [] l)]:=by
  rw[c106];exact h
 rw[c68,F68,B68x0,h2,dG,colL_eq]
end Go.TV
namespace Go.TV
open Go.AI Go.PI Go.Proofs
set_option maxRecDepth 20000
def ozO:G.O:=⟨0,[],[],⟨[],[]⟩,[],[]⟩
def ozT:G.T:=⟨0,⟨[],[]⟩,ozO,[]⟩
def ob_z{v:G.O}(h:osz v<1000000000)(e:v.kind=0):v=ozO:=by
 have h2:=okO_of h;cases v with|mk k n d s t l=>
 have e:k=0:=e;subst e;have:okO 0 n d s t l=true:=h2;simp only[okO,show decide ((0:Int)=0)=true from rfl,show decide ((0:Int)=1)=false from rfl,show decide ((0:Int)=2)=false from rfl,show decide ((0:Int)=3)=false from rfl,show decide ((0:Int)=4)=false from rfl,Bool.true_and,Bool.false_and,Bool.or_false,bjE,djE,List.isEmpty_iff]at this
 obtain⟨⟨⟨⟨⟨_,a1⟩,a2⟩,a3⟩,a4⟩,a5⟩:=this;subst a1;subst a2;subst a3;subst a4;subst a5;rfl
def ob_y{v:G.O}(h:osz v<1000000000)(e:v.kind=2):v=⟨2,[],[],v.sym,[],[]⟩:=by
 have h2:=okO_of h;cases v with|mk k n d s t l=>
 have e:k=2:=e;subst e;have:okO 2 n d s t l=true:=h2;simp only[okO,show decide ((2:Int)=0)=false from rfl,show decide ((2:Int)=1)=false from rfl,show decide ((2:Int)=2)=true from rfl,show decide ((2:Int)=3)=false from rfl,show decide ((2:Int)=4)=false from rfl,Bool.true_and,Bool.false_and,Bool.or_false,Bool.false_or,bjE,djE,List.isEmpty_iff]at this
 obtain⟨⟨⟨⟨_,a1⟩,a2⟩,a3⟩,a4⟩:=this;subst a1;subst a2;subst a3;subst a4;rfl
def trm3{t:G.T}(h:tsz t<1000000000):(t=⟨1,t.name,ozO,[]⟩)∨(t=⟨2,⟨[],[]⟩,t.value,[]⟩/\osz t.value<1000000000/\t.value.kind≠0)∨(t=⟨3,t.name,ozO,t.args⟩):=by
 have h1:=okTm_of h;cases t with|mk k n v l=>
 simp only[tsz]at h;simp only[okTm,Bool.or_eq_true,bjE,djE,List.isEmpty_iff,Bool.not_eq_true',dfN]at h1;rcases h1 with(⟨⟨a1,a3⟩,a4⟩|⟨⟨⟨a1,a2⟩,a3⟩,a4⟩)|⟨a1,a4⟩
 ·left;have hv:=ob_z (v:=v) (by omega) a3;subst a1;subst hv;subst a4;rfl
 ·right;left;subst a1;subst a2;subst a3;exact⟨rfl,by show osz v<_;omega,a4⟩
 ·right;right;have hv:=ob_z (v:=v) (by omega) a4;subst a1;subst hv;rfl
def var_eq{t:G.T}(h:tsz t<1000000000)(hk:t.kind=1):t=⟨1,t.name,ozO,[]⟩:=by
 rcases trm3 h with e|⟨e,_⟩|e
 ·exact e
 ·rw[e]at hk;cases hk
 ·rw[e]at hk;cases hk
def fJ{t:G.T}:bM t.args+4<=tsz t:=by
 cases t with|mk k n v l=>show bM l+4<=_;simp only[tsz];omega
def kE{t x:G.T}(h:x∈t.args):tsz x+4<=tsz t:=by
 have:=aP h;have:=fJ (t:=t);omega
def tsz'_ap{l r:List G.T}:bM (l++r)=bM l+bM r:=by
 induction l with
 |nil=>simp[bM]
 |cons x l ih=>simp only[cnA,bM,ih];omega
def eD{t:G.T}{k:Nat}(h:k<t.args.length): ∃x,t.args[k]?=some x/\tsz x+4<=tsz t:=⟨_,geG h,kE (List.getElem_mem h)⟩
def oNil:G.O:=⟨2,[],[],⟨eB,[110,105,108]⟩,[],[]⟩
def nlT:G.T:=⟨2,⟨[],[]⟩,oNil,[]⟩
def iNl{L n:Nat}{o:G.O}:CTp L (n+1) 131 [yR 2 o]=some [yB (decide (o.kind=2)&&decide (o.sym=⟨eB,[110,105,108]⟩))]:=by
 rw[c131,F131,aOK];cases decide (o.kind=2)<;>rfl
def nlP_ok{t:G.T}(h:tsz t<1000000000){L n:Nat}:CTp L (n+2) 103 [yR 3 t]=some [yB (decide (t=nlT))]:=by
 have e0:decide (t=nlT)=(decide (t.kind=2)&&(decide (t.value.kind=2)&&decide (t.value.sym=⟨eB,[110,105,108]⟩))):=by
  rw[Bool.eq_iff_iff];simp only[bjE,djE];constructor
  ·rintro rfl;exact⟨rfl,rfl,rfl⟩
  ·rintro⟨h1,h2,h3⟩;rcases trm3 h with e|⟨e,e2,_⟩|e
   ·rw[e]at h1;cases h1
   ·rw[e,ob_y e2 h2,h3];rfl
   ·rw[e]at h1;cases h1
 rw[e0,c103,F103,aOZ];cases decide (t.kind=2)with
 |false=>rfl
 |true=>rw[aG,iNl,aN];rfl
def nlO_ok{L n:Nat}:CTp L (n+2) 60 []=some [yR 2 oNil]:=by
 rw[c60,F60,B60x0,mX,fZ];simp only[];rw[c86];rfl
def aFZ{W:Type}{b:G.O}{K:G.O×Unit->Option W}:obL (D:=U0.D) [.rc 2] (some [yR 2 b]) K=K (b,()):=rfl
def aKX{t:G.T}{s:List UInt8}{k:Int}{L n:Nat}:CTp L (n+2) 34 [yR 3 t,yT s,yI k]=some [yB (isA t s k)]:=Is_ok
def nlt_ok{L n:Nat}:CTp L (n+3) 38 []=some [yR 3 nlT]:=by
 rw[c38,F38,B38x0,nlO_ok,aFZ];show obL [.rc 3] (CTp L (n+2) 40 [yR 2 oNil]) _=_;rw[c40];rfl
def rI{W:Type}{b:G.T}{K:G.T×Unit->Option W}:obL (D:=U0.D) [.rc 3] (some [yR 3 b]) K=K (b,()):=rfl
def nlR_ok{t:G.T}{L n:Nat}(h:tsz t<1000000000)(hL:tsz t<=L)(hn:tsz t+4<=n):CTp L n 117 [yR 3 t]=some [yB (decide (t=nlT))]:=by
 obtain⟨n,rfl⟩:=sK n 4 (by omega)
 have h1:CTp L (n+3) 43 [yR 3 t,yR 3 nlT]=some [yB (decide (t=nlT))]:=vA t h nlT L (n+3) hL (by omega)
 rw[c117,F117,aOO,nlt_ok,rI];show obL [.bool] (CTp L (n+3) 43 [yR 3 t,yR 3 nlT]) _=_;rw[h1];rfl
def lV{a:Nat}(h:a<6000000):Nat.ble (a*176) 1073741824=true:=by
 apply Nat.ble_eq_true_of_le;omega
def lU{t:G.T}{s:List UInt8}{k:Nat}(h:isA t s (k:Int)=true):t.kind=3/\t.name=⟨eB,s⟩/\t.args.length=k:=by
 simp only[isA,bjE,djE]at h;exact⟨h.1.1,h.1.2,by omega⟩
def cj_ok: ∀(t:G.T) (L n:Nat),tsz t<6000000->tsz t+4<=L->tsz t+6<=n->∃l:List G.T,CTp L n 64 [yR 3 t]=some [yS 3 l]/\CTp L n 81 [yR 3 t]=some [yS 3 l]/\bM l<=tsz t+1:=by
 intro t;induction t using cX with
 |h k nm v l ih=>
  intro L n hw hL hn;obtain⟨n,rfl⟩:=sK n 6 (by omega)
  generalize ht:G.T.mk k nm v l=t at*;have hl:t.args=l:=by subst ht;rfl
  have fh: ∃q:List G.T,some [(yS 3 [t]:TV U0.D)]=some [yS 3 q]/\some [(yS 3 [t]:TV U0.D)]=some [yS 3 q]/\bM q<=tsz t+1:=⟨[t],rfl,rfl,by simp[bM]⟩
  rw[c64,F64,B64x0,aKY,aN,c81,F81,B81x0,aKX,aN];show∃q:List G.T,cnd (isA t [105,102] 3) _ _=_/\cnd (isA t [105,102] 3) _ _=_/\_;cases hi:isA t [105,102] 3 with
  |false=>exact fh
  |true=>
   obtain⟨_,_,h3⟩:=lU (k:=3) hi;obtain⟨a,ea,sa⟩:=eD (t:=t) (k:=0) (by omega)
   obtain⟨b,eb,sb⟩:=eD (t:=t) (k:=1) (by omega)
   obtain⟨d,ed,sd⟩:=eD (t:=t) (k:=2) (by omega)
   have ia:idx t.args (0:Int)=some a:=(aD t.args 0).trans ea;have ib:idx t.args (1:Int)=some b:=(aD t.args 1).trans eb;have id:idx t.args (2:Int)=some d:=(aD t.args 2).trans ed;rw[aG,aG,id,aS,aS,nlP_ok (by omega),aN,nlR_ok (by omega) (by omega) (by omega),aN]
   simp only[J64x1,B64x1,J81x1,B81x1];cases decide (d=nlT)with
   |false=>exact fh
   |true=>
    have ma:a∈l:=by rw[<-hl];exact List.mem_of_getElem? ea
    have mb:b∈l:=by rw[<-hl];exact List.mem_of_getElem? eb
    obtain⟨p,p1,p2,p3⟩:=ih a ma L (n+5) (by omega) (by omega) (by omega)
    obtain⟨q,q1,q2,q3⟩:=ih b mb L (n+5) (by omega) (by omega) (by omega)
    have hab:tsz a+tsz b+6<=tsz t:=by
     have h5:=fJ (t:=t);obtain⟨x,y,z,e⟩: ∃x y z,t.args=[x,y,z]:=by
      cases h6:t.args with
      |nil=>rw[h6]at h3;cases h3
      |cons x r=>cases r with
       |nil=>rw[h6]at h3;cases h3
       |cons y r=>cases r with
        |nil=>rw[h6]at h3;cases h3
        |cons z r=>cases r with
         |nil=>exact⟨x,y,z,rfl⟩
         |cons w r=>rw[h6]at h3;simp at h3
     rw[e]at ea eb h5;simp only[gcZ,gcS,ojE]at ea eb;subst ea;subst eb;simp only[bM]at h5;omega
    have hp:=bF p;have hq:=bF q;rw[aG,aG,ia,aS,ib,aS,p1,oB,q1,oB,aS,aS,p2,oB,q2,oB];have hb:Nat.ble ((p.length+q.length)*176) 1073741824=true:=lV (by omega)
    simp only[];rw[hb,eC];exact⟨p++q,rfl,rfl,by rw[tsz'_ap];omega⟩
end Go.TV
namespace Go.TV
open Go.AI Go.PI Go.Proofs
set_option maxRecDepth 20000
def aFa{t:G.T}{a b:G.T}(h:t.args.length=2)(ea:t.args[0]?=some a)(eb:t.args[1]?=some b):t.args=[a,b]/\tsz a+tsz b+6<=tsz t:=by
 have h5:=fJ (t:=t);obtain⟨x,y,e⟩: ∃x y,t.args=[x,y]:=by
  cases h6:t.args with
  |nil=>rw[h6]at h;cases h
  |cons x r=>cases r with
   |nil=>rw[h6]at h;cases h
   |cons y r=>cases r with
    |nil=>exact⟨x,y,rfl⟩
    |cons z r=>rw[h6]at h;simp at h
 rw[e]at ea eb h5;simp only[gcZ,gcS,ojE]at ea eb;subst ea;subst eb;simp only[bM]at h5;exact⟨e,by omega⟩
def pt_loop{L n:Nat}: ∀(t:G.T) (m:Nat) (acc:List G.T),tsz t<m->bM acc+tsz t<6000000->bM acc+tsz t+4<=L->bM acc+tsz t+6<=n->
    ∃(h:List G.T) (d:G.T),aIB (CTp L n) L m acc t ozT=some [yS 3 h,yR 3 d]/\aIA (CTp L n) L m acc t ozT=some [yS 3 h,yR 3 d]/\bM h+tsz d<=bM acc+tsz t:=by
 intro t;induction t using cX with
 |h k nm v l ih=>
  intro m acc hm hw hL hn;obtain⟨m,rfl⟩:=sK m 1 (by omega)
  obtain⟨n,rfl⟩:=sK n 2 (by omega)
  generalize ht:G.T.mk k nm v l=t at*;have hl:t.args=l:=by subst ht;rfl
  rw[aIB,B23x1,aKY,aN,aIA,B32x1,aKX,aN];show∃(h:List G.T) (d:G.T),cnd (isA t [105,109,112,108,105,101,115] 2) _ _=_/\cnd (isA t [105,109,112,108,105,101,115] 2) _ _=_/\_;cases hi:isA t [105,109,112,108,105,101,115] 2 with
  |false=>exact⟨acc,t,rfl,rfl,nlR _⟩
  |true=>
   obtain⟨_,_,h3⟩:=lU (k:=2) hi;obtain⟨a,ea,sa⟩:=eD (t:=t) (k:=0) (by omega)
   obtain⟨b,eb,sb⟩:=eD (t:=t) (k:=1) (by omega)
   obtain⟨_,hab⟩:=aFa h3 ea eb;have ia:idx t.args (0:Int)=some a:=(aD t.args 0).trans ea;have ib:idx t.args (1:Int)=some b:=(aD t.args 1).trans eb;have mb:b∈l:=by rw[<-hl];exact List.mem_of_getElem? eb
   obtain⟨p,p1,p2,p3⟩:=cj_ok a L (n+2) (by omega) (by omega) (by omega)
   have h1:=bF acc;have h2:=bF p;have hb:Nat.ble ((acc.length+p.length)*176) 1073741824=true:=lV (by omega)
   rw[aG,aG,ia,aS,aS,p1,oB,p2,oB];simp only[];rw[hb,eC,eC,ib,aS,aS];obtain⟨h,d,g1,g2,g3⟩:=ih b mb m (acc++p) (by omega) (by rw[tsz'_ap];omega) (by rw[tsz'_ap];omega) (by rw[tsz'_ap];omega)
   exact⟨h,d,g1,g2,by rw[tsz'_ap]at g3;omega⟩
def pt_ok(t:G.T)(L n:Nat)(hw:tsz t<6000000)(hL:tsz t+4<=L)(hn:tsz t+7<=n):
    ∃(h:List G.T) (d:G.T),CTp L n 23 [yR 3 t]=some [yS 3 h,yR 3 d]/\CTp L n 32 [yR 3 t]=some [yS 3 h,yR 3 d]/\bM h+tsz d<=tsz t:=by
 obtain⟨n,rfl⟩:=sK n 1 (by omega)
 obtain⟨h,d,g1,g2,g3⟩:=pt_loop (L:=L) (n:=n) t L [] (by omega) (by simp only[bM];omega) (by simp only[bM];omega) (by simp only[bM];omega)
 refine⟨h,d,?_,?_,by simp only[bM]at g3;omega⟩
 ·rw[c23];exact g1
 ·rw[c32];exact g2
mutual
def sbT:G.T->List G.T
 |⟨k,nm,v,l⟩=>⟨k,nm,v,l⟩::(if k=3 then sbL l else [])
def sbL:List G.T->List G.T
 |[]=>[]
 |x::l=>sbT x++sbL l
end
def aJE{l:List G.T}(h: ∀x∈l,(sbT x).length<=tsz x):(sbL l).length<=bM l:=by
 induction l with
 |nil=>simp[sbL]
 |cons x l ih=>
  have h1:=ih λy hy=>h y (mtE _ hy)
  have h2:=h x (mhE ..);simp only[sbL,lnA,bM];omega
def zQ: ∀t:G.T,(sbT t).length<=tsz t:=by
 intro t;induction t using cX with
 |h k nm v l ih=>
  have h:=aJE ih;simp only[sbT,lcS,tsz];split
  ·omega
  ·simp only[lnN];omega
def sbL_sz{B:Nat}{l:List G.T}(h: ∀x∈l,∀u∈sbT x,tsz u<=B): ∀u∈sbL l,tsz u<=B:=by
 induction l with
 |nil=>intro u hu;simp[sbL]at hu
 |cons x l ih=>
  intro u hu;rw[sbL,List.mem_append]at hu;exact hu.elim (h x (mhE ..) u) (ih (λy hy=>h y (mtE _ hy)) u)
def aJD: ∀t:G.T,∀u∈sbT t,tsz u<=tsz t:=by
 intro t;induction t using cX with
 |h k nm v l ih=>
  intro u hu;rw[sbT,List.mem_cons]at hu;rcases hu with rfl|hu
  ·exact nlR _
  ·by_cases h3:k=3
   ·rw[if_pos h3]at hu;refine sbL_sz (B:=tsz ⟨k,nm,v,l⟩) (λx hx u hu=>?_) u hu
    have h1:=ih x hx u hu;have h2:=kE (t:=⟨k,nm,v,l⟩) hx;omega
   ·rw[if_neg h3]at hu;cases hu
def sbt_loop{L n:Nat}{a:List G.T}(hb:a.length<1000000000): ∀(l:List G.T) (k m:Nat) (acc:List G.T),a.drop k=l->l.length<m->acc.length+bM l<6000000->
    (∀x∈l,CTp L n 75 [yR 3 x]=some [yS 3 (sbT x)])->
    aEN (CTp L n) L m (a.length:Int) a (k:Int) acc=some [yS 3 (acc++sbL l)]:=by
 intro l;induction l with
 |nil=>
  intro k m acc h1 h3 _ _;obtain⟨m,rfl⟩:=sK m 1 (by simp at h3;omega)
  have e1:=aH h1;have e3:decide ((k:Int)<(a.length:Int))=false:=by simp;omega
  rw[aEN,B75x1,e3,aC,sbL,apN];rfl
 |cons x l ih=>
  intro k m acc h1 h3 h4 hc;obtain⟨m,rfl⟩:=sK m 1 (by simp at h3;omega)
  obtain⟨a1,a2,a3⟩:=aI h1;simp only[bM]at h4;have hx:=zQ x;have e3:decide ((k:Int)<(a.length:Int))=true:=by simp;omega
  have hb2:Nat.ble ((acc.length+(sbT x).length)*176) 1073741824=true:=lV (by omega)
  rw[aEN,B75x1,e3,aG,aD,a1,aS,hc x (mhE ..),oB];simp only[];rw[hb2,eC,aX (by omega),ih (k+1) m (acc++sbT x) a3 (by simp at h3;omega) (by rw[lnA];omega) (λy hy=>hc y (mtE _ hy)),sbL,apA]
def sbP_ok: ∀(t:G.T) (L n:Nat),tsz t<6000000->tsz t<=L->tsz t<=n->CTp L n 75 [yR 3 t]=some [yS 3 (sbT t)]:=by
 intro t;induction t using cX with
 |h k nm v l ih=>
  intro L n hw hL hn;have hlen:=bF l;have h0:=fJ (t:=⟨k,nm,v,l⟩);have h0:bM l+4<=tsz ⟨k,nm,v,l⟩:=h0;obtain⟨n,rfl⟩:=sK n 1 (by omega)
  rw[c75,F75,B75x0,sbT];by_cases h3:k=3
  ·rw[show decide ((G.T.mk k nm v l).kind=3)=true from decide_eq_true h3,aG,if_pos h3]
   exact sbt_loop (a:=l) (by omega) l 0 L _ rfl (by omega) (by simp only[lcS,lnN];omega) λx hx=>ih x hx L n (by have:=aP hx;omega) (by have:=aP hx;omega) (by have:=aP hx;omega)
  ·rw[show decide ((G.T.mk k nm v l).kind=3)=false from decide_eq_false h3,aC,if_neg h3];rfl
noncomputable def cS:List G.T->List G.T->List G.T
 |acc,[]=>acc
 |acc,x::l=>cS (vE acc x) l
def aAT: ∀(a acc b:List G.T),cS acc (a++b)=cS (cS acc a) b
 |[],acc,b=>rfl
 |x::a,acc,b=>by rw[cnA,cS,aAT a,cS]
def sub'_eq{l:List G.T}(h: ∀x∈l,∀acc,sub acc x=cS acc (sbT x)): ∀acc,aCV acc l=cS acc (sbL l):=by
 induction l with
 |nil=>intro acc;rw[aCV,sbL,cS]
 |cons x l ih=>intro acc;rw[aCV,sbL,aAT,h x (mhE ..),ih λy hy=>h y (mtE _ hy)]
def sub_eq: ∀(t:G.T) (acc:List G.T),sub acc t=cS acc (sbT t):=by
 intro t;induction t using cX with
 |h k nm v l ih=>
  intro acc;rw[sub,sbT,cS];by_cases h3:k=3
  ·rw[if_pos h3,if_pos h3,sub'_eq ih]
  ·rw[if_neg h3,if_neg h3];rfl
def sub'_all'(l:List G.T)(acc:List G.T):aCV acc l=cS acc (sbL l):=sub'_eq (λx _=>sub_eq x) acc
def mem_addT{x s:G.T}{out:List G.T}:x∈vE out s↔x∈out∨x=s:=by
 unfold vE;split
 ·rename_i h;exact⟨.inl,λh'=>h'.elim id λe=>e▸h⟩
 ·simp
def rA(P:G.T->Bool): ∀(l acc:List G.T),cS (acc.filter P) (l.filter P)=(cS acc l).filter P
 |[],acc=>rfl
 |x::l,acc=>by
  rw[cS,<-rA P l];cases hp:P x with
  |true=>
   rw[List.filter_cons_of_pos hp,cS];congr 1;unfold vE;by_cases h:x∈acc
   ·rw[if_pos h,if_pos (List.mem_filter.2 ⟨h,hp⟩)]
   ·rw[if_neg h,if_neg (λh'=>h (List.mem_filter.1 h').1),List.filter_append,List.filter_cons_of_pos hp,List.filter_nil]
  |false=>
   rw[List.filter_cons_of_neg (by simp[hp])]
   congr 1;unfold vE;by_cases h:x∈acc
   ·rw[if_pos h]
   ·rw[if_neg h,List.filter_append,List.filter_cons_of_neg (by simp[hp]),List.filter_nil,apN]
def uL: ∀(l acc:List G.T),∃r,cS acc l=acc++r
 |[],acc=>⟨[],by rw[cS,apN]⟩
 |x::l,acc=>by
  obtain⟨r,h⟩:=uL l (vE acc x);rw[cS,h];unfold vE;split
  ·exact⟨r,rfl⟩
  ·exact⟨[x]++r,by rw[apA]⟩
def qJ(P:G.T->Bool)(d:G.T): ∀(l A:List G.T),A.find? P=none->(cS (d::A) l).tail.find? P=l.find? λu=>P u&& !decide (u=d)
 |[],A,h=>h
 |x::l,A,h=>by
  rw[cS];by_cases hx:x∈d::A
  ·rw[vE,if_pos hx,qJ P d l A h];symm;apply List.find?_cons_of_neg;rcases List.mem_cons.1 hx with rfl|hx
   ·simp
   ·have:=List.find?_eq_none.1 h x hx;simp[this]
  ·rw[vE,if_neg hx,cnA];have hd: ¬x=d:=λe=>hx (e▸mhE ..)
   cases hp:P x with
   |true=>
    obtain⟨r,hr⟩:=uL l (d::(A++ [x]));have h2:(x::l).find? (λu=>P u&& !decide (u=d))=some x:=List.find?_cons_of_pos (by simp[hp,hd])
    rw[h2,hr,cnA,List.tail_cons,List.find?_append,List.find?_append,h];simp[hp]
   |false=>
    rw[qJ P d l (A++ [x]) (by rw[List.find?_append,h];simp[hp]),List.find?_cons_of_neg (by simp[hp])]
end Go.TV
namespace Go.TV
open Go.AI Go.PI Go.Proofs
set_option maxRecDepth 20000
def lkp:List G.I->G.Y->Option G.T
 |[],_=>none
 |a::l,v=>if a.var=v then some a.term else lkp l v
def lkR:Option G.T->TVs
 |some t=>[yR 3 t,yB true]
 |none=>[yR 3 ozT,yB false]
def lkP_loop{c:TC0}{L:Nat}{v:G.Y}{a:List G.I}(hb:a.length<1000000000): ∀(l:List G.I) (k m:Nat),a.drop k=l->l.length<m->
    uQ c L m (a.length:Int) a (k:Int) v ozT=some (lkR (lkp l v)):=by
 intro l;induction l with
 |nil=>
  intro k m h1 h3;obtain⟨m,rfl⟩:=sK m 1 (by simp at h3;omega)
  have e1:=aH h1;have e3:decide ((k:Int)<(a.length:Int))=false:=by simp;omega
  rw[uQ,aHB,e3,aC];rfl
 |cons x l ih=>
  intro k m h1 h3;obtain⟨m,rfl⟩:=sK m 1 (by simp at h3;omega)
  obtain⟨a1,a2,a3⟩:=aI h1;have e3:decide ((k:Int)<(a.length:Int))=true:=by simp;omega
  rw[uQ,aHB,e3,aG,aD,a1,aS,aX (by omega),lkp]
  by_cases e:x.var=v
  ·rw[decide_eq_true e,aG,if_pos e];rfl
  ·rw[decide_eq_false e,aC,if_neg e,ih (k+1) m a3 (by simp at h3;omega)]
def lkP_ok{a:List G.I}{v:G.Y}{L n:Nat}(hb:a.length<1000000000)(hL:a.length<L):CTp L (n+1) 162 [yS 7 a,yR 1 v]=some (lkR (lkp a v)):=by
 rw[c162];exact lkP_loop hb a 0 L rfl hL
def lkA_loop{c:TC0}{L:Nat}{v:G.Y}{a:List G.I}(hb:a.length<1000000000): ∀(l:List G.I) (k m:Nat),a.drop k=l->l.length<m->
    uV c L m a (k:Int) v ozT=some (lkR (lkp l v)):=by
 intro l;induction l with
 |nil=>
  intro k m h1 h3;obtain⟨m,rfl⟩:=sK m 1 (by simp at h3;omega)
  have e1:=aH h1;have e3:decide ((k:Int)<(a.length:Int))=false:=by simp;omega
  rw[uV,aHJ,e3,aC];rfl
 |cons x l ih=>
  intro k m h1 h3;obtain⟨m,rfl⟩:=sK m 1 (by simp at h3;omega)
  obtain⟨a1,a2,a3⟩:=aI h1;have e3:decide ((k:Int)<(a.length:Int))=true:=by simp;omega
  rw[uV,aHJ,e3,aG,aD,a1,aS,aS,aX (by omega),lkp]
  by_cases e:x.var=v
  ·rw[decide_eq_true e,aG,if_pos e];rfl
  ·rw[decide_eq_false e,aC,if_neg e,ih (k+1) m a3 (by simp at h3;omega)]
def lkA_ok{a:List G.I}{v:G.Y}{L n:Nat}(hb:a.length<1000000000)(hL:a.length<L):CTp L (n+1) 119 [yS 7 a,yR 1 v]=some (lkR (lkp a v)):=by
 rw[c119];exact lkA_loop hb a 0 L rfl hL
mutual
noncomputable def mtT:G.T->G.T->List G.I->Option (List G.I)
 |⟨k,nm,v,l⟩,b,s=>if k=1 then(match lkp s nm with|some u=>if u=b then some s else none|none=>some (s++ [⟨nm,b⟩]))else if k=3 then(if b.kind=3/\nm=b.name/\l.length=b.args.length then mtL l b.args s else none)else if⟨k,nm,v,l⟩=b then some s else none
noncomputable def mtL:List G.T->List G.T->List G.I->Option (List G.I)
 |[],_,s=>some s
 |_::_,[],_=>none
 |x::l,y::r,s=>match mtT x y s with|some s'=>mtL l r s'|none=>none
end
def asB(B:Nat)(s:List G.I):Prop:= ∀x∈s,tsz x.term<=B
def aKN{B:Nat}{v:G.Y}{u:G.T}: ∀{s:List G.I},asB B s->lkp s v=some u->tsz u<=B
 |a::l,h,e=>by
  rw[lkp]at e;split at e
  ·cases e;exact h a (mhE ..)
  ·exact aKN (λx hx=>h x (mtE _ hx)) e
def mtL_bd{B:Nat}{l:List G.T}(h: ∀x∈l,∀y s s',mtT x y s=some s'->tsz y<=B->asB B s->asB B s'/\s'.length<=s.length+tsz x): ∀r s s',mtL l r s=some s'->(∀y∈r,tsz y<=B)->asB B s->asB B s'/\s'.length<=s.length+bM l:=by
 induction l with
 |nil=>intro r s s' e _ hs;rw[mtL]at e;cases e;exact⟨hs,by omega⟩
 |cons x l ih=>
  intro r s s' e hr hs;cases r with
  |nil=>rw[mtL]at e;cases e
  |cons y r=>
   rw[mtL]at e;cases e1:mtT x y s with
   |none=>rw[e1]at e;cases e
   |some s1=>
    rw[e1]at e;obtain⟨g1,g2⟩:=h x (mhE ..) y s s1 e1 (hr y (mhE ..)) hs;obtain⟨g3,g4⟩:=ih (λz hz=>h z (mtE _ hz)) r s1 s' e (λz hz=>hr z (mtE _ hz)) g1
    exact⟨g3,by simp only[bM];omega⟩
def aBu{B:Nat}: ∀(x y:G.T) (s s':List G.I),mtT x y s=some s'->tsz y<=B->asB B s->asB B s'/\s'.length<=s.length+tsz x:=by
 intro t;induction t using cX with
 |h k nm v l ih=>
  intro y s s' e hy hs;rw[mtT]at e;split at e
  ·split at e
   ·split at e
    ·cases e;exact⟨hs,by omega⟩
    ·cases e
   ·cases e;refine⟨λx hx=>?_,by simp only[lnA,lcS,lnN,tsz];omega⟩
    rcases List.mem_append.1 hx with hx|hx
    ·exact hs x hx
    ·rw[List.mem_singleton]at hx;subst hx;exact hy
  ·split at e
   ·split at e
    ·obtain⟨g1,g2⟩:=mtL_bd ih _ _ _ e (λz hz=>by have:=kE hz;omega) hs
     exact⟨g1,by simp only[tsz];omega⟩
    ·cases e
   ·split at e
    ·cases e;exact⟨hs,by omega⟩
    ·cases e
def MtR(r:Rt)(o:Option (List G.I)):Prop:=match o with
 |some s=>r=some [yS 7 s,yB true]
 |none=> ∃s:List G.I,r=some [yS 7 s,yB false]
def gL{W:Type}{a:List G.I}{b:Bool}{K:List G.I×Bool×Unit->Option W}:obL (D:=U0.D) [.sl (.rc 7),.bool] (some [yS 7 a,yB b]) K=K (a,b,()):=rfl
def aFY{W:Type}{a:G.T}{b:Bool}{K:G.T×Bool×Unit->Option W}:obL (D:=U0.D) [.rc 3,.bool] (some [yR 3 a,yB b]) K=K (a,b,()):=rfl
def ble208{a:Nat}(h:a<5000000):Nat.ble ((a+1)*208) 1073741824=true:=by
 apply Nat.ble_eq_true_of_le;omega
def jQ{r:Rt}{o:Option (List G.I)}(h:MtR r o):(∃s,o=some s/\r=some [yS 7 s,yB true])∨(o=none/\∃s:List G.I,r=some [yS 7 s,yB false]):=by
 cases o with
 |none=>exact .inr ⟨rfl,h⟩
 |some s=>exact .inl ⟨s,rfl,h⟩
def mp_loop{L n B M:Nat}{a:List G.T}{b:G.T}(hb:a.length<1000000000): ∀(l r:List G.T) (k m:Nat) (s:List G.I),a.drop k=l->b.args.drop k=r->l.length=r.length->l.length<m->asB B s->(∀y∈r,tsz y<=B)->s.length+bM l<M->
    (∀x∈l,∀y s,tsz y<=B->asB B s->s.length+tsz x<M->MtR (CTp L n 134 [yR 3 x,yR 3 y,yS 7 s]) (mtT x y s))->
    MtR (uS (CTp L n) L m (a.length:Int) a (k:Int) s b) (mtL l r s):=by
 intro l;induction l with
 |nil=>
  intro r k m s h1 _ _ h3 _ _ _ _;obtain⟨m,rfl⟩:=sK m 1 (by simp at h3;omega)
  have e1:=aH h1;have e3:decide ((k:Int)<(a.length:Int))=false:=by simp;omega
  rw[uS,aHE,e3,aC,mtL];rfl
 |cons x l ih=>
  intro r k m s h1 h2 ln h3 hs hr h4 hc;cases r with
  |nil=>cases ln
  |cons y r=>
   obtain⟨m,rfl⟩:=sK m 1 (by simp at h3;omega)
   obtain⟨a1,a2,a3⟩:=aI h1;obtain⟨b1,b2,b3⟩:=aI h2;simp only[bM]at h4;have e3:decide ((k:Int)<(a.length:Int))=true:=by simp;omega
   have hy:=hr y (mhE ..);have hx:=hc x (mhE ..) y s hy hs (by omega)
   rw[uS,aHE,e3,aG,aD,a1,aS,aD,b1,aS,aX (by omega),mtL]
   rcases jQ hx with⟨s1,e1,e2⟩|⟨e1,s1,e2⟩
   ·rw[e1,e2,gL];simp only[];rw[aG];obtain⟨g1,g2⟩:=aBu x y s s1 e1 hy hs;exact ih r (k+1) m s1 a3 b3 (by simpa using ln) (by simp at h3;omega) g1 (λz hz=>hr z (mtE _ hz)) (by omega) (λz hz=>hc z (mtE _ hz))
   ·rw[e1,e2,gL];exact⟨_,rfl⟩
def dec_ne{a b:G.T}(h:a.kind≠b.kind):decide (a=b)=false:=decide_eq_false λe=>h (by rw[e])
def mp_ok{B M:Nat}(hB:B<5000000)(hM:M<=5000000): ∀(t b:G.T) (s:List G.I) (L n:Nat),tsz t<=B->tsz b<=B->asB B s->s.length+tsz t<M->M<=L->B<L->tsz t+B+2<=n->
    MtR (CTp L n 134 [yR 3 t,yR 3 b,yS 7 s]) (mtT t b s):=by
 intro t;induction t using cX with
 |h k nm v l ih=>
  intro b s L n ht hb hs hl hL hBL hn;have h0:bM l+4<=tsz ⟨k,nm,v,l⟩:=fJ (t:=⟨k,nm,v,l⟩);have hlen:=bF l;obtain⟨n,rfl⟩:=sK n 1 (by omega)
  have hq: ∀u:G.T,tsz u<=B->∀w:G.T,CTp L n 70 [yR 3 u,yR 3 w]=some [yB (decide (u=w))]:=λu hu w=>aHw u (by simp only[wfT];omega) w L n (by omega) (by omega)
  rw[c134,F134,aOI,mtT];by_cases h1:k=1
  ·obtain⟨n,rfl⟩:=sK n 1 (by omega)
   rw[show decide ((G.T.mk k nm v l).kind=1)=true from decide_eq_true h1,aG,if_pos h1,lkP_ok (by omega) (by omega)]
   show MtR (obL [.rc 3,.bool] (some (lkR (lkp s nm))) _) _;cases hk:lkp s nm with
   |none=>
    rw[lkR,aFY];simp only[Bool.not_false];rw[aG];show MtR (chk (Nat.ble ((s.length+1)*208) 1073741824) _) _;rw[ble208 (by omega),eC];rfl
   |some u=>
    rw[lkR,aFY];simp only[bnT];rw[aC,hq u (aKN hs hk) b,aN];by_cases e:u=b
    ·rw[if_pos e,decide_eq_true e];rfl
    ·rw[if_neg e,decide_eq_false e];exact⟨_,rfl⟩
  ·rw[show decide ((G.T.mk k nm v l).kind=1)=false from decide_eq_false h1,aC,if_neg h1]
   by_cases h3:k=3
   ·rw[show decide ((G.T.mk k nm v l).kind=3)=true from decide_eq_true h3,bnT,aC,if_pos h3]
    simp only[aHy,aHF,aN9,aOH];by_cases g1:b.kind=3
    ·rw[decide_eq_true g1,bnT,aC];by_cases g2:nm=b.name
     ·rw[show decide ((G.T.mk k nm v l).name=b.name)=true from decide_eq_true g2,bnT,aC]
      by_cases g3:l.length=b.args.length
      ·rw[show decide (((G.T.mk k nm v l).args.length:Int)=(b.args.length:Int))=true from decide_eq_true (by show(l.length:Int)=_;omega),bnT,aC,if_pos ⟨g1,g2,g3⟩]
       exact mp_loop (a:=l) (B:=B) (M:=M) (by omega) l b.args 0 L s rfl rfl g3 (by omega) hs (λy hy=>by have:=kE hy;omega) (by omega) λx hx y s' hy fy dj=>ih x hx y s' L n (by have:=aP hx;omega) hy fy dj hL hBL (by have:=aP hx;omega)
      ·rw[show decide (((G.T.mk k nm v l).args.length:Int)=(b.args.length:Int))=false from decide_eq_false (by show¬(l.length:Int)=_;omega),Bool.not_false,aG,if_neg (λh=>g3 h.2.2)]
       exact⟨_,rfl⟩
     ·rw[show decide ((G.T.mk k nm v l).name=b.name)=false from decide_eq_false g2,Bool.not_false,aG,aG,if_neg (λh=>g2 h.2.1)]
      exact⟨_,rfl⟩
    ·rw[decide_eq_false g1,Bool.not_false,aG,hq _ ht b,aN,dec_ne (by show¬k=b.kind;omega),if_neg (λh=>g1 h.1)]
     exact⟨_,rfl⟩
   ·rw[show decide ((G.T.mk k nm v l).kind=3)=false from decide_eq_false h3,Bool.not_false,aG,if_neg h3]
    simp only[aHy,aHF];rw[aG,hq _ ht b,aN];by_cases e:G.T.mk k nm v l=b
    ·rw[if_pos e,decide_eq_true e];rfl
    ·rw[if_neg e,decide_eq_false e];exact⟨_,rfl⟩
def chk_t'{W:Type}{b:Bool}{A:Option W}(h:b=true):chk b A=A:=by rw[h];rfl
def mr_loop{L n B M:Nat}{a b:List G.T}(hb:b.length<1000000000): ∀(l r:List G.T) (k m:Nat) (s:List G.I),a.drop k=l->b.drop k=r->l.length=r.length->l.length<m->asB B s->(∀y∈r,tsz y<=B)->s.length+bM l<M->
    (∀x∈l,∀y s,tsz y<=B->asB B s->s.length+tsz x<M->MtR (CTp L n 93 [yR 3 x,yR 3 y,yS 7 s]) (mtT x y s))->
    MtR (rB (CTp L n) L m a b (k:Int) s) (mtL l r s):=by
 intro l;induction l with
 |nil=>
  intro r k m s h1 h2 ln h3 _ _ _ _;obtain⟨m,rfl⟩:=sK m 1 (by simp at h3;omega)
  cases r with
  |cons y r=>cases ln
  |nil=>
   have e1:=aH h2;have e3:decide ((k:Int)<(b.length:Int))=false:=by simp;omega
   rw[rB,aHI,e3,aC,mtL];rfl
 |cons x l ih=>
  intro r k m s h1 h2 ln h3 hs hr h4 hc;cases r with
  |nil=>cases ln
  |cons y r=>
   obtain⟨m,rfl⟩:=sK m 1 (by simp at h3;omega)
   obtain⟨a1,a2,a3⟩:=aI h1;obtain⟨b1,b2,b3⟩:=aI h2;simp only[bM]at h4;have e3:decide ((k:Int)<(b.length:Int))=true:=by simp;omega
   have hy:=hr y (mhE ..);have hx:=hc x (mhE ..) y s hy hs (by omega)
   rw[rB,aHI,e3,aG,aD,a1,aS,aD,b1,aS,aX (by omega),mtL]
   rcases jQ hx with⟨s1,e1,e2⟩|⟨e1,s1,e2⟩
   ·rw[e1,e2,gL];simp only[bnT];rw[aC];obtain⟨g1,g2⟩:=aBu x y s s1 e1 hy hs;exact ih r (k+1) m s1 a3 b3 (by simpa using ln) (by simp at h3;omega) g1 (λz hz=>hr z (mtE _ hz)) (by omega) (λz hz=>hc z (mtE _ hz))
   ·rw[e1,e2,gL];exact⟨_,rfl⟩
def mr_ok{B M:Nat}(hB:B<5000000)(hM:M<=5000000): ∀(t b:G.T) (s:List G.I) (L n:Nat),tsz t<=B->tsz b<=B->asB B s->s.length+tsz t<M->M<=L->B<L->2*tsz t+B+2<=n->
    MtR (CTp L n 93 [yR 3 t,yR 3 b,yS 7 s]) (mtT t b s):=by
 intro t;induction t using cX with
 |h k nm v l ih=>
  intro b s L n ht hb hs hl hL hBL hn;have h0:bM l+4<=tsz ⟨k,nm,v,l⟩:=fJ (t:=⟨k,nm,v,l⟩);have hlen:=bF l;have h3':=trm3 (t:=⟨k,nm,v,l⟩) (by omega)
  obtain⟨n,rfl⟩:=sK n 2 (by omega)
  have hq: ∀u:G.T,tsz u<=B->∀w:G.T,CTp L (n+1) 43 [yR 3 u,yR 3 w]=some [yB (decide (u=w))]:=λu hu w=>vA u (by simp only[wfT];omega) w L (n+1) (by omega) (by omega)
  rw[c93,F93,B93x0,mtT];by_cases h1:k=1
  ·rw[show decide ((G.T.mk k nm v l).kind=1)=true from decide_eq_true h1,aG,if_pos h1,lkA_ok (by omega) (by omega)]
   show MtR (obL [.rc 3,.bool] (some (lkR (lkp s nm))) _) _;cases hk:lkp s nm with
   |none=>
    rw[lkR,aFY];simp only[];rw[aC];simp only[J93x1,B93x1];rw[aC,aC,aX (by omega),chk_t']
    ·show MtR (chk (decide ((0:Int)=0)) (chk (Nat.ble ((0+s.length)*208) 1073741824) (chk (Nat.ble ((s.length+1)*208) 1073741824) _))) _;rw[ble208 (by omega),show Nat.ble ((0+s.length)*208) 1073741824=true from Nat.ble_eq_true_of_le (by omega),show decide ((0:Int)=0)=true from rfl,eC,eC,eC];rfl
    ·simp only[bjE,djE];omega
   |some u=>
    rw[lkR,aFY];simp only[];rw[aG,hq u (aKN hs hk) b,aN];simp only[J93x1,B93x1];by_cases e:u=b
    ·rw[if_pos e,decide_eq_true e];rfl
    ·rw[if_neg e,decide_eq_false e];exact⟨_,rfl⟩
  ·rw[show decide ((G.T.mk k nm v l).kind=1)=false from decide_eq_false h1,aC,if_neg h1]
   by_cases h3:k=3
   ·rw[show decide ((G.T.mk k nm v l).kind=2)=false from decide_eq_false (by show¬k=2;omega),aC,if_pos h3]
    simp only[J93x2,B93x2];by_cases g1:b.kind=3
    ·rw[decide_eq_true g1,bnT,aC];by_cases g2:nm=b.name
     ·rw[show decide (b.name=(G.T.mk k nm v l).name)=true from decide_eq_true g2.symm,bnT,aC,c120,F120,aOM]
      by_cases g3:l.length=b.args.length
      ·rw[show decide (((G.T.mk k nm v l).args.length:Int)=(b.args.length:Int))=true from decide_eq_true (by show(l.length:Int)=_;omega),bnT,aC,if_pos ⟨g1,g2,g3⟩]
       have h9:=mr_loop (a:=l) (b:=b.args) (L:=L) (n:=n) (B:=B) (M:=M) (by omega) l b.args 0 L s rfl rfl g3 (by omega) hs (λy hy=>by have:=kE hy;omega) (by omega) λx hx y s' hy fy dj=>ih x hx y s' L n (by have:=aP hx;omega) hy fy dj hL hBL (by have:=aP hx;omega)
       show MtR (obL [.sl (.rc 7),.bool] (rB (CTp L n) L L l b.args ((0:Nat):Int) s) _) _;rcases jQ h9 with⟨s1,e1,e2⟩|⟨e1,s1,e2⟩
       ·rw[e1,e2,gL];rfl
       ·rw[e1,e2,gL];exact⟨_,rfl⟩
      ·rw[show decide (((G.T.mk k nm v l).args.length:Int)=(b.args.length:Int))=false from decide_eq_false (by show¬(l.length:Int)=_;omega),Bool.not_false,aG,if_neg (λh=>g3 h.2.2),gL]
       exact⟨_,rfl⟩
     ·rw[show decide (b.name=(G.T.mk k nm v l).name)=false from decide_eq_false λe=>g2 e.symm,Bool.not_false,aG,if_neg (λh=>g2 h.2.1)]
      exact⟨_,rfl⟩
    ·rw[decide_eq_false g1,Bool.not_false,aG,aG,if_neg (λh=>g1 h.1)]
     exact⟨_,rfl⟩
   ·have h2:k=2:=by
     rcases h3' with e|⟨e,_⟩|e
     ·injection e with e;exact absurd e h1
     ·injection e
     ·injection e with e;exact absurd e h3
    rw[show decide ((G.T.mk k nm v l).kind=2)=true from decide_eq_true h2,aG,if_neg h3,hq _ ht b,aN]
    by_cases e:G.T.mk k nm v l=b
    ·rw[if_pos e,decide_eq_true e];rfl
    ·rw[if_neg e,decide_eq_false e];exact⟨_,rfl⟩
def MP_ok{B:Nat}(hB:B<2000000)(t b:G.T)(L n:Nat)(ht:tsz t<=B)(hb:tsz b<=B)(hL:2*B+10<=L)(hn:2*B+8<=n):
    MtR (CTp L n 71 [yR 3 t,yR 3 b,yS 7 ([]:List G.I)]) (mtT t b []):=by
 obtain⟨n,rfl⟩:=sK n 3 (by omega)
 obtain⟨L,rfl⟩:=sK L 2 (by omega)
 have h:=mp_ok (B:=B) (M:=B+1) (by omega) (by omega) t b [] (L+2) (n+1) ht hb (λx hx=>by cases hx) (by simp only[lnN];omega) (by omega) (by omega) (by omega)
 have h1:MtR (CTp (L+2) (n+2) 109 [yS 3 ([t]:List G.T),yS 3 ([b]:List G.T),yS 7 ([]:List G.I)]) (mtT t b []):=by
  rw[c109,F109,aOV,show decide ((([t]:List G.T).length:Int)=(([b]:List G.T).length:Int))=true from decide_eq_true rfl,bnT,aC]
  show MtR (obL [.sl (.rc 7)] (CTp (L+2) (n+1) 133 [yS 7 ([]:List G.I)]) _) _;rw[c133];show MtR (rD (CTp (L+2) (n+1)) (L+2) (L+1+1) (1:Int) [t] [b] 0 []) _;rw[rD,aHN];show MtR (obL [.sl (.rc 7),.bool] (CTp (L+2) (n+1) 134 [yR 3 t,yR 3 b,yS 7 ([]:List G.I)]) _) _;rcases jQ h with⟨s1,e1,e2⟩|⟨e1,s1,e2⟩
  ·rw[e1,e2,gL];simp only[];rw[aG];show rD (CTp (L+2) (n+1)) (L+2) (L+1) (1:Int) [t] [b] 1 s1=_;rw[rD,aHN];rfl
  ·rw[e1,e2,gL];exact⟨_,rfl⟩
 rw[c71,F71,B71x0];rcases jQ h1 with⟨s1,e1,e2⟩|⟨e1,s1,e2⟩
 ·rw[e1,e2,gL];rfl
 ·rw[e1,e2,gL];exact⟨_,rfl⟩
end Go.TV
namespace Go.TV
open Go.AI Go.PI Go.Proofs
set_option maxRecDepth 20000
def ySy:G.Y:=⟨[],[]⟩
def zRl:G.U:=⟨ySy,0,[],ySy,ozT,ozT,[],0,[],0,ySy⟩
def oTru:G.O:=⟨2,[],[],⟨eB,[116]⟩,[],[]⟩
def trT:G.T:=⟨2,ySy,oTru,[]⟩
def equB:List UInt8:=[101,113,117,97,108]
def iffB:List UInt8:=[105,102,102]
def condB:List UInt8:=[105,102]
structure MkV(c:TC0)(M:Nat):Prop where
 vP: ∀l:List G.T,bM l<=M->c 68 [yS 3 l]=some [yS 1 (bD [] l)]
 vR: ∀l:List G.T,bM l<=M->c 33 [yS 3 l]=some [yS 1 (bD [] l)]
 ct: ∀(a:List G.Y) (s:G.Y),a.length<=M->c 72 [yS 1 a,yR 1 s]=some [yB (decide (s∈a))]
 wP: ∀a b:List G.Y,a.length<=M->b.length<=M->c 69 [yS 1 a,yS 1 b]=some [yB (wit a b)]
 wR: ∀a b:List G.Y,a.length<=M->b.length<=M->c 41 [yS 1 a,yS 1 b]=some [yB (wit a b)]
 icP: ∀(t:G.T) (s:List UInt8) (k:Int),c 63 [yR 3 t,yT s,yI k]=some [yB (isA t s k)]
 icR: ∀(t:G.T) (s:List UInt8) (k:Int),c 34 [yR 3 t,yT s,yI k]=some [yB (isA t s k)]
 lP: ∀s:List UInt8,c 51 [yT s]=some [yR 1 (⟨eB,s⟩:G.Y)]
 lR: ∀s:List UInt8,c 37 [yT s]=some [yR 1 (⟨eB,s⟩:G.Y)]
 nP:c 65 []=some [yR 2 oNil]
 tP:c 67 []=some [yR 2 oTru]
 cP: ∀o:G.O,c 66 [yR 2 o]=some [yR 3 (⟨2,ySy,o,[]⟩:G.T)]
 nR:c 38 []=some [yR 3 nlT]
 tR:c 39 []=some [yR 2 oTru]
 cR: ∀o:G.O,c 40 [yR 2 o]=some [yR 3 (⟨2,ySy,o,[]⟩:G.T)]
 eP: ∀t u:G.T,tsz t<=M->c 70 [yR 3 t,yR 3 u]=some [yB (decide (t=u))]
 eR: ∀t u:G.T,tsz t<=M->c 43 [yR 3 t,yR 3 u]=some [yB (decide (t=u))]
 mP: ∀t u:G.T,tsz t<=M->tsz u<=M->MtR (c 71 [yR 3 t,yR 3 u,yS 7 ([]:List G.I)]) (mtT t u [])
 mR: ∀t u:G.T,tsz t<=M->tsz u<=M->MtR (c 93 [yR 3 t,yR 3 u,yS 7 ([]:List G.I)]) (mtT t u [])
inductive Oc where
 |ok (r:G.U)
 |er (e:Int)
def PcR(x:Rt):Oc->Prop
 | .ok r=>x=some [yI (0:Int),yR 5 r]
 | .er e=>e≠0/\∃r:G.U,x=some [yI e,yR 5 r]
def RcR(x:Rt):Oc->Prop
 | .ok r=>x=some [yR 5 r,yI (0:Int)]
 | .er e=>x=some [yR 5 zRl,yI e]
def aAG{x y:Rt}{e:Int}{r:G.U}(he:e≠0)(h1:x=some [yI e,yR 5 r])(h2:y=some [yR 5 zRl,yI e]){Q:G.U->Prop}: ∃o,PcR x o/\RcR y o/\∀r,o= .ok r->Q r:=
 ⟨.er e,⟨he,r,h1⟩,h2,λr h=>by cases h⟩
def addS_nd{out:List G.Y}{s:G.Y}(h:out.Nodup):(sC out s).Nodup:=by
 unfold sC;split
 ·exact h
 ·rename_i hs;rw[List.nodup_append];exact⟨h,by simp,λa ha b hb e=>hs (by rw[List.mem_singleton]at hb;subst hb;subst e;exact ha)⟩
def aGI: ∀{r out:List G.Y},out.Nodup->(eX out r).Nodup
 |[],out,h=>h
 |s::r,out,h=>aGI (r:=r) (addS_nd h)
def zI: ∀{l:List G.T} {out:List G.Y},out.Nodup->(bD out l).Nodup
 |[],out,h=>by rw[bD];exact h
 |x::l,out,h=>by rw[bD];exact zI (aGI h)
def dst:List G.Y->List G.I->Bool
 |_,[]=>true
 |seen,a::l=>decide (a.term.kind=1)&&(!decide (a.term.name∈seen)&&dst (seen++ [a.term.name]) l)
def st9(x:G.Y):List G.I->List G.Q
 |[]=>[]
 |a::l=>if a.var=x/\a.term.name≠x then⟨x,a.term.name⟩::st9 x l else st9 x l
def stq:List G.Y->List G.I->List G.Q
 |[],_=>[]
 |x::vs,s=>st9 x s++stq vs s
def aJv(x:G.Y): ∀s:List G.I,(st9 x s).length<=(s.filter λa=>decide (a.var=x)).length
 |[]=>nlR _
 |a::l=>by
  have:=aJv x l;rw[st9];by_cases h:a.var=x
  ·rw[List.filter_cons_of_pos (by simp[h])]
   split
   ·simp only[lcS];omega
   ·simp only[lcS];omega
  ·rw[if_neg λq=>h q.1,List.filter_cons_of_neg (by simp[h])];exact this
def aJu{x y:G.Y}(h:x≠y): ∀s:List G.I,st9 y (s.filter λa=> !decide (a.var=x))=st9 y s
 |[]=>rfl
 |a::l=>by
  by_cases e:a.var=x
  ·rw[List.filter_cons_of_neg (by simp[e]),aJu h l,st9,if_neg λq=>h (e.symm.trans q.1)]
  ·rw[List.filter_cons_of_pos (by simp[e]),st9,st9,aJu h l]
def stq_ne{x:G.Y}: ∀{vs:List G.Y} {s:List G.I},x∉vs->stq vs (s.filter λa=> !decide (a.var=x))=stq vs s
 |[],s,_=>rfl
 |y::vs,s,h=>by
  rw[List.mem_cons,not_or]at h;rw[stq,stq,aJu h.1,stq_ne h.2]
def aGn(P:G.I->Bool): ∀s:List G.I,(s.filter P).length+(s.filter λa=> !P a).length=s.length
 |[]=>rfl
 |a::l=>by
  have:=aGn P l;cases h:P a with
  |true=>rw[List.filter_cons_of_pos h,List.filter_cons_of_neg (by simp[h])];simp only[lcS];omega
  |false=>rw[List.filter_cons_of_neg (by simp[h]),List.filter_cons_of_pos (by simp[h])];simp only[lcS];omega
def zO: ∀{vs:List G.Y} {s:List G.I},vs.Nodup->(stq vs s).length<=s.length
 |[],s,_=>Nat.zero_le _
 |x::vs,s,h=>by
  rw[List.nodup_cons]at h;have h1:=zO (vs:=vs) (s:=s.filter λa=> !decide (a.var=x)) h.2
  rw[stq_ne h.1]at h1;have h2:=aJv x s;have h3:=aGn (λa=>decide (a.var=x)) s
  rw[stq,lnA];omega
noncomputable def stO(l r:G.T):List G.Q:=match mtT l r []with
 |none=>[]
 |some s=>if l=r then []else if dst [] s=true then stq (bD [] [l]) s else []
def stO_len(l r:G.T)(hr:tsz r<=tsz r):(stO l r).length<=tsz l:=by
 unfold stO;cases h:mtT l r []with
 |none=>exact Nat.zero_le _
 |some s=>
  have h1:=(aBu (B:=tsz r) l r [] s h (nlR _) (λx hx=>by cases hx)).2
  have h2:=zO (vs:=bD [] [l]) (s:=s) (zI List.nodup_nil);simp only[];simp only[lnN]at h1;split
  ·exact Nat.zero_le _
  ·split
   ·omega
   ·exact Nat.zero_le _
def ble64{a:Nat}(h:a<16000000):Nat.ble ((a+1)*64) 1073741824=true:=by
 apply Nat.ble_eq_true_of_le;omega
def jR(R:G.U)(st:List G.Q):G.U:=⟨R.name,R.cls,R.hyps,R.equiv,R.left,R.right,R.terms,R.tset,st,R.arg,R.inner⟩
def sr_in{c:TC0}{L:Nat}{n2:Int->List G.I->G.T->Rt}{s:List G.I}{lt:G.T}{i:Nat}{a:G.I}(ha:s[i]?=some a)(hi:i<1000000000): ∀(q j m:Nat),j+q=i->q<m->
    aES c L n2 m (j:Int) (i:Int) s lt=bif decide (a.term.name∈((s.take i).drop j).map λz=>z.term.name)then some [yS 4 ([]:List G.Q)]else n2 ((i+1:Nat):Int) s lt
 |0,j,m,h,hm=>by
  obtain⟨m,rfl⟩:=sK m 1 (by omega)
  obtain rfl:j=i:=by omega
  have e0:(s.take j).drop j=[]:=by rw[List.drop_eq_nil_iff,List.length_take];omega
  rw[aES,B47x3,dF (by omega: ¬j<j),aC,e0,aX (by omega)]
  rfl
 |q+1,j,m,h,hm=>by
  obtain⟨m,rfl⟩:=sK m 1 (by omega)
  have hil:i<s.length:=(List.getElem?_eq_some_iff.1 ha).1;have hj:s[j]?=some s[j]:=geG (by omega)
  have e0:(s.take i).drop j=s[j]::(s.take i).drop (j+1):=by
   rw[List.drop_eq_getElem_cons (by rw[List.length_take];omega),List.getElem_take]
  rw[aES,B47x3,dT (by omega:j<i),aG,aD,hj,aS,aD,ha,aS,e0,mpC,aX (by omega)]
  by_cases e:s[j].term.name=a.term.name
  ·rw[decide_eq_true e,aG,decide_eq_true (by rw[e];exact mhE ..)];rfl
  ·rw[decide_eq_false e,aC,sr_in ha hi q (j+1) m (by omega) (by omega)]
   congr 1;exact decide_eq_decide.2 ⟨λh=>mtE _ h,λh=>(List.mem_cons.1 h).resolve_left λq=>e q.symm⟩
def sr_p1{c:TC0}{L:Nat}{n4:List G.Y->List G.I->Int->List G.Q->Rt}{vs:List G.Y}{s:List G.I}{i:Nat}{x:G.Y}(hx:vs[i]?=some x)(hi:i<1000000000)(hs:s.length<1000000): ∀(l:List G.I) (k m:Nat) (acc:List G.Q),s.drop k=l->l.length<m->acc.length+(st9 x l).length<16000000->
    aAX c L n4 m (k:Int) (i:Int) vs s acc=n4 vs s ((i+1:Nat):Int) (acc++st9 x l):=by
 intro l;induction l with
 |nil=>
  intro k m acc h1 h3 _;obtain⟨m,rfl⟩:=sK m 1 (by simp at h3;omega)
  have e1:=aH h1;have e3:decide ((k:Int)<(s.length:Int))=false:=by simp;omega
  rw[aAX,B47x5,e3,aC,aX (by omega),st9,apN]
 |cons a l ih=>
  intro k m acc h1 h3 h4;obtain⟨m,rfl⟩:=sK m 1 (by simp at h3;omega)
  obtain⟨a1,a2,a3⟩:=aI h1;have e3:decide ((k:Int)<(s.length:Int))=true:=by simp;omega
  have g1:idx s (k:Int)=some a:=(aD s k).trans a1;have g2:idx vs (i:Int)=some x:=(aD vs i).trans hx;have hj: ∀ta,aNT c L (aAX c L n4 m) n4 false (k:Int) (i:Int) vs s ta=aAX c L n4 m ((k+1:Nat):Int) (i:Int) vs s ta:=λta=>by
   simp only[aNT,B47x6,J47x7,B47x7];rw[aC,aX (by omega)]
  rw[aAX,B47x5,e3,aG,g1,aS,g2,aS];rw[st9]at h4⊢;by_cases e:a.var=x
  ·rw[decide_eq_true e,aG,aS,aS];by_cases e2:a.term.name=x
   ·rw[decide_eq_true e2,bnT,hj,if_neg λq=>q.2 e2]
    rw[if_neg λq=>q.2 e2]at h4
    exact ih (k+1) m acc a3 (by simp at h3;omega) h4
   ·rw[if_pos ⟨e,e2⟩]at h4⊢;simp only[lcS]at h4;rw[decide_eq_false e2,Bool.not_false];simp only[aNT,B47x6,J47x7,B47x7];rw[aG,g2,aS,g1,aS];show chk (Nat.ble ((acc.length+1)*64) 1073741824) _=_;rw[ble64 (by omega),eC,aX (by omega),ih (k+1) m _ a3 (by simp at h3;omega) (by rw[lnA];simp only[lcS,lnN];omega),apA]
    rfl
  ·rw[decide_eq_false e,aC,hj,if_neg λq=>e q.1]
   rw[if_neg λq=>e q.1]at h4
   exact ih (k+1) m acc a3 (by simp at h3;omega) h4
def sr_p2{c:TC0}{L:Nat}{vs:List G.Y}{s:List G.I}(hv:vs.length<1000000)(hs:s.length<1000000)(hL:s.length<L): ∀(l:List G.Y) (k m:Nat) (acc:List G.Q),vs.drop k=l->l.length<m->acc.length+(stq l s).length<16000000->
    aCu c L m vs s (k:Int) acc=some [yS 4 (acc++stq l s)]:=by
 intro l;induction l with
 |nil=>
  intro k m acc h1 h3 _;obtain⟨m,rfl⟩:=sK m 1 (by simp at h3;omega)
  have e1:=aH h1;have e3:decide ((k:Int)<(vs.length:Int))=false:=by simp;omega
  rw[aCu,B47x4,e3,aC,stq,apN]
 |cons x l ih=>
  intro k m acc h1 h3 h4;obtain⟨m,rfl⟩:=sK m 1 (by simp at h3;omega)
  obtain⟨a1,a2,a3⟩:=aI h1;have e3:decide ((k:Int)<(vs.length:Int))=true:=by simp;omega
  rw[stq,lnA]at h4;rw[aCu,B47x4,e3,aG,stq];have h5:=sr_p1 (c:=c) (L:=L) (n4:=aCu c L m) a1 (by omega) hs s 0 L acc rfl hL (by omega)
  refine h5.trans ?_;rw[ih (k+1) m _ a3 (by simp at h3;omega) (by rw[lnA];omega),apA]
def sr_ds{c:TC0}{L:Nat}{s:List G.I}{lt:G.T}(hs:s.length<1000000)(hL:s.length<L)(hv:c 33 [yS 3 ([lt]:List G.T)]=some [yS 1 (bD [] [lt])])(hl:(bD [] [lt]).length<1000000)(dj:(bD [] [lt]).length<L): ∀(l:List G.I) (k m:Nat),s.drop k=l->l.length<m->
    aCv c L m (k:Int) s lt=some [yS 4 (if dst ((s.take k).map λz=>z.term.name) l=true then stq (bD [] [lt]) s else [])]:=by
 intro l;induction l with
 |nil=>
  intro k m h1 h3;obtain⟨m,rfl⟩:=sK m 1 (by simp at h3;omega)
  have e1:=aH h1;have e3:decide ((k:Int)<(s.length:Int))=false:=by simp;omega
  have h8:=zO (vs:=bD [] [lt]) (s:=s) (zI List.nodup_nil);rw[aCv,B47x2,e3,aC,hv,dG,dst];exact sr_p2 hl hs hL (bD [] [lt]) 0 L [] rfl dj (by simp only[lnN];omega)
 |cons a l ih=>
  intro k m h1 h3;obtain⟨m,rfl⟩:=sK m 1 (by simp at h3;omega)
  obtain⟨a1,a2,a3⟩:=aI h1;have e3:decide ((k:Int)<(s.length:Int))=true:=by simp;omega
  rw[aCv,B47x2,e3,aG,aD,a1,aS,dst];by_cases hk:a.term.kind=1
  ·rw[decide_eq_true hk,bnT,aC,Bool.true_and];have h5:=sr_in (c:=c) (L:=L) (n2:=aCv c L m) (lt:=lt) a1 (by omega) k 0 L (by omega) (by omega)
   refine h5.trans ?_;rw[List.drop_zero];have e6:(s.take (k+1)).map (λz=>z.term.name)=(s.take k).map (λz=>z.term.name)++ [a.term.name]:=by
    rw[List.take_add_one,a1];simp
   by_cases hm:a.term.name∈(s.take k).map λz=>z.term.name
   ·rw[decide_eq_true hm];rfl
   ·rw[decide_eq_false hm,cdf,ih (k+1) m a3 (by simp at h3;omega),e6];rfl
  ·rw[decide_eq_false hk];rfl
def stR_ok{c:TC0}{L M:Nat}(E:MkV c M)(hM:M<200000)(hL:M<L){l r:G.T}(hl:tsz l+1<=M)(hr:tsz r<=M):F47 c L l r=some [yS 4 (stO l r)]:=by
 rw[F47,B47x0];have hv:=zJ (l:=[l]) (λx _=>rU x) []
 simp only[bM,lnN]at hv;unfold stO;rcases jQ (E.mR l r (by omega) hr)with⟨s,e1,e2⟩|⟨e1,s,e2⟩
 ·have h1:=(aBu (B:=tsz r) l r [] s e1 (nlR _) (λx hx=>by cases hx)).2
  simp only[lnN]at h1;rw[e1,e2,gL];simp only[bnT];rw[aC,E.eR l r (by omega),aN]
  simp only[J47x1,B47x1];by_cases e:l=r
  ·rw[decide_eq_true e,aG,if_pos e]
  ·rw[decide_eq_false e,aC,if_neg e];exact sr_ds (by omega) (by omega) (E.vR [l] (by simp only[bM];omega)) (by omega) (by omega) s 0 L rfl (by omega)
 ·rw[e1,e2,gL];rfl
end Go.TV
