import Derived.Test.YtojjcdpfjabepaaGreatDoorKaf
import Derived.Test.YtojjcdpfjabepaaGreatDoorKab
import Derived.Test.YtojjcdpfjabepaaGreatDoorKac
import Derived.Test.YtojjcdpfjabepaaGreatDoorKad
import Derived.Test.YtojjcdpfjabepaaGreatDoorKae
set_option linter.unusedVariables false
set_option linter.unusedSimpArgs false
set_option linter.constructorNameAsVariable false
namespace Go.TV
open Go.AI Go.PI Go.Proofs
set_option maxRecDepth 20000
def T0:List UInt8:=match B79x0 Kn with|some (⟨.str,t⟩::_)=>t|_=>[]
def li0:Its×List UInt8:=lexI 4000 T0
theorem T0_eq:aAG li0.1 li0.2=T0:=by kernel_rfl
theorem li_ok:okL li0.1 li0.2=true:=by kernel_rfl
theorem toks_eq:tks 0 li0.1++ [⟨0,(T0.length:Int),[],[],[]⟩]=toksL:=by kernel_rfl
theorem T0_len:T0.length<6001:=Nat.le_of_ble_eq_true (by kernel_rfl)
theorem li_len:li0.1.length<7000:=Nat.le_of_ble_eq_true (by kernel_rfl)
theorem isN_c{w:List UInt8}(h:isN w=true):w=[48]∨w=[49]∨w=[45,49]:=by
 unfold isN at h;split at h
 ·exact .inl rfl
 ·exact .inr (.inl rfl)
 ·exact .inr (.inr rfl)
 ·cases h
theorem num_ok(L M:Nat){w:List UInt8}(h:isN w=true):NumW (CTp (L+7000) (M+30)) w:=by
 rw[←cW_ok];rcases isN_c h with rfl|rfl|rfl<;>exact⟨by kernel_rfl,by kernel_rfl,by kernel_rfl,by kernel_rfl,by kernel_rfl,by kernel_rfl⟩
theorem tok_ok(L M:Nat):CTp (L+7000) (M+34) 105 [yT T0]=some [yS 22 toksL,yR 20 ⟨0,0⟩]:=by
 have h1:=T0_len;have h2:=li_len;have h:=Tok_ok (L:=L+7000) (n:=M+30) (l:=li0.1) (tl:=li0.2) (fun w hw=>num_ok L (M+2) hw) (by rw[T0_eq];omega) (by rw[T0_eq];omega) (by omega) li_ok
 rw[T0_eq]at h;exact h.trans (congrArg (fun x:List G.K=>some [(yS 22 x:TV U0.D),yR 20 (⟨0,0⟩:G.X)]) toks_eq)
theorem obL_pk{β:Type}{a:List G.A}{K:List G.A×Unit→Option β}:obL (D:=U0.D) [.sl (.rc 9)] (some [yS 9 a]) K=K (a,()):=rfl
theorem obL_oe{β:Type}{a:List G.O}{b:G.X}{K:List G.O×G.X×Unit→Option β}:obL (D:=U0.D) [.sl (.rc 2),.rc 20] (some [yS 2 a,yR 20 b]) K=K (a,b,()):=rfl
theorem obL_te{β:Type}{a:List G.K}{b:G.X}{K:List G.K×G.X×Unit→Option β}:obL (D:=U0.D) [.sl (.rc 22),.rc 20] (some [yS 22 a,yR 20 b]) K=K (a,b,()):=rfl
theorem ini_ok(L n:Nat):CTp L (n+1) 78 []=some [yS 9 pkI]:=by
 rw[c78];rfl
theorem txt_ok(L n:Nat):CTp L (n+1) 79 []=some [yT T0]:=by
 rw[c79];kernel_rfl
theorem red_of{c:TC0}{L:Nat}{a0:List G.A}{a1 a2:List UInt8}{t:List G.K}{r:Rt}(h1:c 105 [yT a2]=some [yS 22 t,yR 20 ⟨0,0⟩])
    (h2:aCs c L L [] ⟨a0,a1,t,0⟩ ⟨0,0⟩=r):F80 c L a0 a1 a2=r:=by
 rw[F80,B80x0,h1,obL_te];simp only[decide_true,bnT,aF];exact h2
theorem red_ok(L M:Nat):CTp (L+7000) (M+99) 80 [yS 9 pkI,yT sG,yT T0]=some [yS 2 oAll,yR 20 ⟨0,0⟩]:=by
 have ht:CTp (L+7000) (M+98) 105 [yT T0]=some [yS 22 toksL,yR 20 ⟨0,0⟩]:=tok_ok L (M+64);have h:=pcA L (M+38) (L+6971) ⟨0,0⟩;have e:L+6971+29=L+7000:=by omega
 rw[e,cW_ok,show M+38+60=M+98 by omega,psI]at h
 rw[show M+99=M+98+1 by omega,c80]
 exact red_of ht h
theorem defs_of{c:TC0}{L:Nat}{a0:List G.A}{a2:List UInt8}{o:List G.O}(h1:c 78 []=some [yS 9 a0])(h2:c 79 []=some [yT a2])
    (h3:c 80 [yS 9 a0,yT [108,105,115,112],yT a2]=some [yS 2 o,yR 20 ⟨0,0⟩]):F41 c L=some [yS 2 o]:=by
 rw[F41,B41x0,h1,obL_pk,h2,obL_s,h3,obL_oe]
theorem aHL(L M:Nat):CTp (L+7000) (M+100) 41 []=some [yS 2 oAll]:=by
 rw[show M+100=M+99+1 by omega,c41]
 exact defs_of (ini_ok _ (M+98)) (txt_ok _ (M+98)) (red_ok L M)
end Go.TV
namespace Go.TV
open Go.AI Go.PI Go.Proofs
set_option maxRecDepth 20000
theorem p_all(L M:Nat)(X:Nat→T3): ∀(k:Nat) (o:G.O),oAll[k]?=some o→pE L M k X o=true:=by
 intro k o h
 match k,h with
 |0,h=>cases h;exact p0E L M X
 |1,h=>cases h;exact p1E L M X
 |2,h=>cases h;exact p2E L M X
 |3,h=>cases h;exact p3E L M X
 |4,h=>cases h;exact p4E L M X
 |5,h=>cases h;exact p5E L M X
 |6,h=>cases h;exact p6E L M X
 |7,h=>cases h;exact p7E L M X
 |8,h=>cases h;exact p8E L M X
 |9,h=>cases h;exact p9E L M X
 |10,h=>cases h;exact p10E L M X
 |11,h=>cases h;exact p11E L M X
 |12,h=>cases h;exact p12E L M X
 |13,h=>cases h;exact p13E L M X
 |14,h=>cases h;exact p14E L M X
 |15,h=>cases h;exact p15E L M X
 |16,h=>cases h;exact p16E L M X
 |17,h=>cases h;exact p17E L M X
 |18,h=>cases h;exact p18E L M X
 |19,h=>cases h;exact p19E L M X
 |20,h=>cases h;exact p20E L M X
 |21,h=>cases h;exact p21E L M X
 |22,h=>cases h;exact p22E L M X
 |23,h=>cases h;exact p23E L M X
 |24,h=>cases h;exact p24E L M X
 |25,h=>cases h;exact p25E L M X
 |26,h=>cases h;exact p26E L M X
 |27,h=>cases h;exact p27E L M X
 |k+28,h=>cases h
end Go.TV
