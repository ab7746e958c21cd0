import Derived.Test.YtojjcdpfjabepaaGreatDoorKr
import Derived.Test.YtojjcdpfjabepaaGreatDoorKai
set_option linter.unusedVariables false
set_option linter.unusedSimpArgs false
set_option linter.constructorNameAsVariable false
namespace Go.TV
open Go.AI Go.PI Go.Proofs
set_option maxRecDepth 20000
noncomputable def cA:TC0:=aD7 tpI 7 (CTp 8000 1100)
theorem cA_aw:cA 1 []=some [⟨.bool,true⟩]:=by kernel_rfl
theorem cA_us(d:TVs):cA 2 d=CTp 8000 1100 2 d:=by kernel_rfl
theorem cA_nm(d:TVs):cA 3 d=CTp 8000 1100 3 d:=by kernel_rfl
theorem cA_ep(d:TVs):cA 4 d=CTp 8000 1100 4 d:=by kernel_rfl
theorem cA_er(d:TVs):cA 5 d=CTp 8000 1100 5 d:=by kernel_rfl
theorem cA_eq(d:TVs):cA 6 d=CTp 8000 1100 6 d:=by kernel_rfl
theorem row21_tv(nm:List UInt8){f:Nat}(hf:f<256):F0 cA 8000 nm (f:Int)=some [⟨.bool,true⟩]:=by
 have e: ∀i d,cQ 1000 1080 20 i d=CTp 8000 1100 i d:=fun i d=>by rw[cQ_ok]
 refine row21_of hf cA_aw ?_ ?_ (fun s=>?_) (fun s=>?_) (fun s=>?_)
 ·obtain⟨s,hs⟩:=usP 1000 1080 nm;exact⟨s,by rw[cA_us,←e];exact hs⟩
 ·obtain⟨l,h1,h2,h3⟩:=nmR_ok (nmP 1000 1080);exact⟨l,by rw[cA_nm,←e];exact h1,h2,h3⟩
 ·rw[cA_ep,←e];exact eqP 1000 1080 s
 ·rw[cA_er,←e];exact eqR 1000 1080 s
 ·rw[cA_eq];exact eqQ 8000 1100 (by omega) (by omega) s
theorem aw_at:(insL.all fun x=> !Nat.beq x.2.sig.f 7||Nat.beq x.1 1)=true:=by kernel_rfl
theorem aw_sg:vW insL 1=some (awS 7):=by kernel_rfl
theorem aw_sig: ∀i s,tpI.sig i=some s→s.f=7→s=awS 7:=fun i s h hf=>by
 have h':vW insL i=some s:=h;unfold vW at h';rw[mjE]at h';obtain⟨x,hx,rfl⟩:=h';have h1:=List.all_eq_true.1 aw_at _ (iL hx);simp only[hf,Nat.beq_refl,bnT,Bool.false_or]at h1;have hi:i=1:=nqE h1;subst hi;have h2:=aw_sg;unfold vW at h2;rw[hx]at h2;exact Option.some.inj h2
theorem law_bx:ii0.sig.bx.length≤100∧okBx ii0.sig.bx.length ii0.sig.bx=true:=⟨Nat.le_of_ble_eq_true (by kernel_rfl),by kernel_rfl⟩
theorem law_pi(nm:List UInt8){f:Nat}(hf:f<256): ∃own p',vV Tryz.prog (qH 7 (iP Tryz.prog orcI (nI Go.Rf.cdM insL) 8000 1100)) 8000 (dK ii0.sk (fS Go.Rf.cdM 4)).pc (tG Go.Rf.cdM 4) [(.str nm,false),(.v (.int .u8 (f:Int)),false)] pK=some (.v (.bool true),own,p'):=by
 have hT:=aAE (U:=U0) (T:=tpI) (P:=Tryz.prog) recOK (ttOK orcI (vW insL)) (G:=tabL Go.Rf.cdM insL) (GP:=nI Go.Rf.cdM insL) (fun i s code rs h1 h2=>vU ka_ok i s code rs h1 h2) arI_ok 8000 1100
 have hA:CallOK U0 tpI cA (qH 7 (iP Tryz.prog orcI (nI Go.Rf.cdM insL) 8000 1100)):=aD6 hT aw_sig;have h0:xF ii0 cA (cu cA 8000) [⟨.str,nm⟩,⟨.int .u8,(f:Int)⟩]=some [⟨.bool,true⟩]:=(congrFun (congrFun (e0 cA 8000) nm) (f:Int)).trans (row21_tv nm hf);have h1:lU U0 (cutOf ii0.sig) (fun S M=>dH U0 tpI cA 8000 (dK ii0.sk (fS Go.Rf.cdM ii0.sig.f)) S M (finT U0 tpI ii0.sig (tG Go.Rf.cdM ii0.sig.f))) [⟨.str,nm⟩,⟨.int .u8,(f:Int)⟩]=some [⟨.bool,true⟩]:=
  (gK _ (fun S M=>(exD _ _ _ _).symm) _).trans h0
 obtain⟨pv,own,p',k1,k2⟩:=yO (U:=U0) (T:=tpI) (P:=Tryz.prog) recOK (ttOK orcI (vW insL)) hA law_bx.1 law_bx.2 h1 (p:=pK) (cc:=fun _=>none) (args:=[(.str nm,false),(.v (.int .u8 (f:Int)),false)]) (S0:=[(0,(.val ⟨.str,nm⟩,[])),(1,(.val ⟨.int .u8,(f:Int)⟩,[]))]) (M0:=⟨[],[]⟩) {
  start:=rfl
  len:=rfl
  args:=fun i y hy=>by
   match i,hy with
   |0,hy=>cases hy;exact⟨qL (U:=U0) _,aE _ _⟩
   |1,hy=>cases hy;exact⟨cV (U:=U0) .u8 _,aE _ _⟩
   |i+2,hy=>cases hy
  bx:=fun j b h=>by cases h
  dom:=fun _ _=>rfl
  lt:=fun j e id h=>by cases h
  inj:=fun k k' e e' id h=>by cases h
  wr:=fun id h=>by cases h}
 have hpv:pv= .v (.bool true):=of_bool k2.res.1;subst hpv;exact⟨own,p',k1⟩
theorem law_tab: ∃fn,(Go.Rf.cdM).funcs[4]?=some fn∧fn.body=some (bQ (dK ii0.sk (fS Go.Rf.cdM 4)).pc)∧tG Go.Rf.cdM 4=fn.results.toList∧pA (dK ii0.sk (fS Go.Rf.cdM 4)).pc∧bL Tryz.prog fn.ntmps (bQ (dK ii0.sk (fS Go.Rf.cdM 4)).pc)=true:=by
 refine nH nW kb_ok 4 _ _ ?_;exact vU ka_ok 0 ii0.sig _ _ (by kernel_rfl) (by kernel_rfl)
theorem aC7{W:World}{s:ByteArray}{f:Int}(hf:0≤f∧f<256)(ht:Lib.TabIs Tryz.prog W pwN .u64 Lib.pow10Tab)(hz:6≤W.heap.size):
    Calls Tryz.prog 4 #[.string s,.int .u8 f] W fun e w'=>e= .returned (.bool true)∧Kept W w':=by
 obtain⟨n,rfl⟩: ∃n:Nat,f=(n:Int):=⟨f.toNat,by omega⟩
 obtain⟨own,p',hpi⟩:=law_pi s.data.toList (f:=n) (by omega)
 obtain⟨fn,g1,g2,g3,g4,g5⟩:=law_tab;rw[g3]at hpi;have hP:=uW (O:=orcI) rfl (nH nW kb_ok:aAV Tryz.prog Go.Rf.cdM (nI Go.Rf.cdM insL)) 8000 1100;obtain⟨u,σ',ν',γ',h1,h2,_⟩:=yP (aD8 (aw:=7) hP) g4 g5 hpi (us:= #[.string s,.int .u8 (n:Int)]) memK ⟨rfl,fun i x w hx hw=>by
  match i,hx,hw with
  |0,hx,hw=>cases hx;cases hw;exact .str s
  |1,hx,hw=>cases hx;cases hw;exact .v _ rfl
  |i+2,hx,hw=>cases hx⟩ (fun i x w hx _=>by
  match i,hx with
  |0,hx=>cases hx
  |1,hx=>cases hx
  |i+2,hx=>cases hx)
 have hu:u= .bool true:=by cases h2;rfl
 subst hu;have hC: ∀w1:W0,w1.toWorld=W→AI.CallOK w1 Tryz.prog (aD9 7 (sH Tryz.prog Go.Rf.cdM orcI 8000 1100)):=fun w1 hw=>by
  subst hw;exact callA_ok (sG aAd (fun w0 _=>Go.Rf.code_okM nW w0) (aCQ ht) 8000 1100 w1 rfl) (fun w hK=>awk_ok (qV ht hK) (Nat.le_trans hz hK.size))
 have key:Calls Tryz.prog 4 #[.string s,.int .u8 (n:Int)] W fun e w'=> ∃μ' r',e= .returned r'∧AI.VR μ' (.bool true) r'∧Sim (W0.of W) Tryz.prog μ' σ' w'∧Ext (stK Tryz.prog).next (muK Tryz.prog) μ'∧(stK Tryz.prog).next≤σ'.next:=by
  rcases Go.Rf.code_okM nW (W0.of W) 4 fn _ g1 g2 with⟨q1,q2⟩|⟨_,q⟩
  ·exact(tF aAd q1 g2 q2 (hC _ rfl) h1 (simK (by rw[gl_sz];exact hz)) (VRL.same rfl)).2
  ·exact q _ 8000 (fun w1 hw=>hC w1 hw) _ _ _ _ _ _ _ h1 (simK (by rw[gl_sz];exact hz)) (VRL.same rfl) (by kernel_rfl)
 refine key.mono ?_;rintro e w' ⟨μ',r',rfl,hr',hZ,_,_⟩;have:r'= .bool true:=by cases hr';rfl
 subst this;exact⟨rfl,hZ.kept.toKept⟩
end Go.TV
