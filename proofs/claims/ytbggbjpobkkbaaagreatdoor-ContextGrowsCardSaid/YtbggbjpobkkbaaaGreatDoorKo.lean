import Derived.Test.YtbggbjpobkkbaaaGreatDoorKn
set_option linter.unusedVariables false
set_option linter.unusedSimpArgs false
set_option linter.constructorNameAsVariable false
namespace Go.TV
open Go.AI Go.PI Go.Proofs
def bY:Nat→Nat→List UInt8
 |0,_=>[]
 |f+1,n=>UInt8.ofNat (n%128)::bY f (n/128)
abbrev Nt:=TVs→Rt
abbrev yR(n:Nat)(x:Den U0.D (.rc n)):TV U0.D:=⟨.rc n,x⟩
abbrev yS(n:Nat)(x:Den U0.D (.sl (.rc n))):TV U0.D:=⟨.sl (.rc n),x⟩
abbrev yI(x:Int):TV U0.D:=⟨.int .i64,x⟩
abbrev yB(x:Bool):TV U0.D:=⟨.bool,x⟩
abbrev yT(x:List UInt8):TV U0.D:=⟨.str,x⟩
section
variable(x:Ins)(c:TC0)(e:Cu)(L:Nat)(π:List Nat)(ct:Cut)
def cu:Cu:=⟨Dx U0 tpI c L,Ex U0 tpI c L⟩
noncomputable def xW:TC:=fE x.sk (mO Go.Rf.cdP x.sig.f)
noncomputable def xC:TC:=at_ (xW x) π
noncomputable def xK:Kt:=finT U0 tpI x.sig (aC3 Go.Rf.cdP x.sig.f)
noncomputable def xT(K:Kt):Kt:=aEf U0 (kL U0 tpI c e.D e.E (xC x π)) K
noncomputable def xF(d:TVs):Rt:=qI U0 (cutOf x.sig) (fun S M=>kL U0 tpI c e.D e.E (xW x) S M (xK x)) d
noncomputable def xA(K:Kt)(d:TVs):Rt:=qI U0 ct (fun S M=>kL U0 tpI c e.D e.E (xC x π) S M K) d
noncomputable def xL(K:Kt)(n:Nat)(d:TVs):Rt:=aDh U0 ct (fun S M K=>eO U0 tpI c L (xC x π) S M K) K n d
noncomputable def xD(K:Kt)(d:TVs):Rt:=e.D ct (xC x π) d K
noncomputable def xE(K:Kt)(d:TVs):Rt:=e.E ct (xC x π) d K
theorem aV(K:Kt):xD x (cu c L) π ct K=xA x c (cu c L) π ct K:=funext fun d=>lF ct (fun S M=>(exD (T:=tpI) (c:=c) (L:=L) (xC x π) S M K).symm) d
theorem kU(K:Kt)(n:Nat):xL x c L π ct K (n+1)=xA x c (cu c L) π ct (lpK U0 ct (xL x c L π ct K n) K):=funext fun d=>lF ct (fun S M=>(exD (T:=tpI) (c:=c) (L:=L) (xC x π) S M _).symm) d
end
theorem qM: ∀{l:List (Nat×Ins)} {i:Nat} {x:Ins},pG l i=some x→(i,x)∈l
 |a::l,i,x,h=>by
  simp only[pG]at h;cases hb:Nat.beq a.1 i with
  |true=>
   rw[hb]at h;simp only[cdt,ojE]at h;have:=nqE hb;subst this;subst h;exact mhE ..
  |false=>rw[hb]at h;exact mtE _ (qM h)
theorem hb_all:(insL.all fun x=>okS orcI x.2.sig&&Nat.ble x.2.sig.bx.length 100&&okBx x.2.sig.bx.length x.2.sig.bx)=true:=by kernel_rfl
theorem cg{i:Nat}{x:Ins}(hx:pG insL i=some x)(hf:(Nat.beq x.sig.f orcI.n||Nat.beq x.sig.f orcI.m)=false)(L n:Nat)(d:TVs):CTp L (n+1) i d=xF x (CTp L n) (cu (CTp L n) L) d:=by
 have hs:tpI.sig i=some x.sig:=by show sigL insL i=_;unfold sigL;rw[hx];rfl
 have hg:tabL Go.Rf.cdP insL i=some (fE x.sk (mO Go.Rf.cdP x.sig.f),aC3 Go.Rf.cdP x.sig.f):=by simp only[tabL,hx]
 have hb:(okS tpI.orc x.sig&&Nat.ble x.sig.bx.length 100&&okBx x.sig.bx.length x.sig.bx)=true:=List.all_eq_true.1 hb_all _ (qM hx);have ho:orT U0 tpI.orc x.sig d=none:=by
  rw[Bool.or_eq_false_iff]at hf;show orT U0 orcI x.sig d=none;unfold orT;rw[hf.1,hf.2];rfl
 show xR U0 tpI (tabL Go.Rf.cdP insL) L (n+1) i d=_;simp only[xR,hs,hg,hb,cdt,ho];exact(lF _ (fun S M=>exD _ _ _ _) d).symm
end Go.TV
