import Derived.Test.YtojjcdpfjabepaaGreatDoorKaj
import Derived.Test.YtojjcdpfjabepaaGreatDoorKar
import Derived.Test.YtojjcdpfjabepaaGreatDoorKas
set_option linter.unusedVariables false
set_option linter.unusedSimpArgs false
set_option linter.constructorNameAsVariable false
namespace Go.TV
open Go.AI Go.PI Go.Proofs
set_option maxRecDepth 20000
noncomputable def cA:TC0:=aIh tpI 7 (CTp 1007000 1000159)
theorem cA_aw:cA 1 []=some [⟨.bool,true⟩]:=by kernel_rfl
theorem cA_wo(d:TVs):cA 2 d=CTp 1007000 1000159 2 d:=by kernel_rfl
theorem cA_us(d:TVs):cA 4 d=CTp 1007000 1000159 4 d:=by kernel_rfl
theorem cA_te(d:TVs):cA 3 d=CTp 1007000 1000159 3 d:=by kernel_rfl
theorem cA_lm(d:TVs):cA 5 d=CTp 1007000 1000159 5 d:=by kernel_rfl
theorem cA_mk(d:TVs):cA 6 d=CTp 1007000 1000159 6 d:=by kernel_rfl
theorem cA_pp(d:TVs):cA 7 d=CTp 1007000 1000159 7 d:=by kernel_rfl
theorem cA_cm(d:TVs):cA 9 d=CTp 1007000 1000159 9 d:=by kernel_rfl
theorem cA_eq(d:TVs):cA 8 d=CTp 1007000 1000159 8 d:=by kernel_rfl
theorem row26_tv{a:List Int}(ha: ∀x∈a,0≤x∧x<256):F0 cA 1007000 a=some [⟨.bool,true⟩]:=by
 obtain⟨E,h2,h3⟩:=aCH 1000000 1000000;have hl:=yK 1000000 (n:=1000159) (by omega)
 refine row26_of (E:=E) ⟨cA_aw,?_,fun w=>?_,fun s hs=>?_,?_,?_,fun x y hx hy=>?_⟩ ha
 ·rw[cA_wo];exact h2
 ·rw[cA_us];exact hl.u w
 ·rw[cA_te];exact(t3_n 1000000 (smF_ok h3) (by omega) s hs).le (by omega)
 ·obtain⟨l,q,e1,e2,e3⟩:=lm_ok 1000000 1000099;exact⟨l,q,by rw[cA_lm];rw[aIk]at e1;exact e1,e2,e3⟩
 ·have:=mk_ok 1000000 1000099 E;rw[aIk]at this;rw[cA_mk];exact this
 ·rw[cA_cm,cA_pp,cA_pp,cA_eq];exact tw_ok (L:=1000000) (n:=1000159) (by omega) (by omega) x y hx hy
theorem aw_at:(insL.all fun x=> !Nat.beq x.2.sig.f 7||Nat.beq x.1 1)=true:=by kernel_rfl
theorem aw_sg:aAQ insL 1=some (awS 7):=by kernel_rfl
theorem aw_sig: ∀i s,tpI.sig i=some s→s.f=7→s=awS 7:=fun i s h hf=>by
 have h':aAQ insL i=some s:=h;unfold aAQ at h';rw[mjE]at h';obtain⟨x,hx,rfl⟩:=h';have h1:=List.all_eq_true.1 aw_at _ (jQ hx);simp only[hf,Nat.beq_refl,bnT,Bool.false_or]at h1;have hi:i=1:=nqE h1;subst hi;have h2:=aw_sg;unfold aAQ at h2;rw[hx]at h2;exact Option.some.inj h2
theorem law_bx:ii0.sig.bx.length≤100∧aG6 ii0.sig.bx.length ii0.sig.bx=true:=⟨Nat.le_of_ble_eq_true (by kernel_rfl),by kernel_rfl⟩
theorem law_pi{a:List Int}(ha: ∀x∈a,0≤x∧x<256): ∃own p',aAP Tryz.prog (uA 7 (jT Tryz.prog orcI (qH Go.Rf.cdX insL) 1007000 1000159)) 1007000 (dW ii0.sk (fV Go.Rf.cdX 6)).pc (uV Go.Rf.cdX 6) [(u8P a,false)] p00=some (.v (.bool true),own,p'):=by
 have hT:=aEa (U:=U0) (T:=tpI) (P:=Tryz.prog) recOK (ttOK orcI (aAQ insL)) (G:=aGe Go.Rf.cdX insL) (GP:=qH Go.Rf.cdX insL) (fun i s code rs h1 h2=>aAN ka_ok i s code rs h1 h2) arI_ok 1007000 1000159
 have hA:CallOK U0 tpI cA (uA 7 (jT Tryz.prog orcI (qH Go.Rf.cdX insL) 1007000 1000159)):=aIg hT aw_sig;have h0:xF ii0 cA (cu cA 1007000) [⟨.sl (.int .u8),a⟩]=some [⟨.bool,true⟩]:=(congrFun (e0 cA 1007000) a).trans (row26_tv ha);have h1:nN U0 (cutOf ii0.sig) (fun S M=>dZ U0 tpI cA 1007000 (dW ii0.sk (fV Go.Rf.cdX ii0.sig.f)) S M (finT U0 tpI ii0.sig (uV Go.Rf.cdX ii0.sig.f))) [⟨.sl (.int .u8),a⟩]=some [⟨.bool,true⟩]:=
  (iG _ (fun S M=>(exD _ _ _ _).symm) _).trans h0
 have va:VR U0 (.sl (.int .u8)) a (u8P a):=wQ (U:=U0) (.int .u8) a rfl rfl;obtain⟨pv,own,p',k1,k2⟩:=aCM (U:=U0) (T:=tpI) (P:=Tryz.prog) recOK (ttOK orcI (aAQ insL)) hA law_bx.1 law_bx.2 h1 (p:=p00) (cc:=fun _=>none) (args:=[(u8P a,false)]) (S0:=[(0,(.val ⟨.sl (.int .u8),a⟩,[]))]) (M0:=⟨[],[]⟩) {
  start:=rfl
  len:=rfl
  args:=fun i y hy=>by
   match i,hy with
   |0,hy=>cases hy;exact⟨va,aE _ _⟩
   |i+1,hy=>cases hy
  bx:=fun j b h=>by cases h
  dom:=fun _ _=>rfl
  lt:=fun j e id h=>by cases h
  inj:=fun k k' e e' id h=>by cases h
  wr:=fun id h=>by cases h}
 have hpv:pv= .v (.bool true):=of_bool k2.res.1;subst hpv;exact⟨own,p',k1⟩
theorem law_tab: ∃fn,(Go.Rf.cdX).funcs[6]?=some fn∧fn.body=some (bZ (dW ii0.sk (fV Go.Rf.cdX 6)).pc)∧uV Go.Rf.cdX 6=fn.results.toList∧sL (dW ii0.sk (fV Go.Rf.cdX 6)).pc∧bV Tryz.prog fn.ntmps (bZ (dW ii0.sk (fV Go.Rf.cdX 6)).pc)=true:=by
 refine qG aDJ kb_ok 6 _ _ ?_;exact aAN ka_ok 0 ii0.sig _ _ (by kernel_rfl) (by kernel_rfl)
theorem aHn{W:World}{v0:Value}{a:List Int}(ha: ∀x∈a,0≤x∧x<256)(ht:Lib.TabIs Tryz.prog W pwN .u64 Lib.pow10Tab)(hz:6≤W.heap.size)(hv0:SlW W v0 a):
    Calls Tryz.prog 6 #[v0] W fun e w'=>e= .returned (.bool true)∧Kept W w':=by
 obtain⟨q0,u0,h0,r0,s0⟩:=arg_of (σ:=st2 (u8V a) []) (id:=6) (by rw[qA,if_neg (by omega),if_pos rfl]) hv0
 obtain⟨own,p',hpi⟩:=law_pi ha;obtain⟨fn,g1,g2,g3,g4,g5⟩:=law_tab;rw[g3]at hpi;have hP:=zZ (O:=orcI) rfl (qG aDJ kb_ok:aEQ Tryz.prog Go.Rf.cdX (qH Go.Rf.cdX insL)) 1007000 1000159;obtain⟨u,σ',ν',γ',h1,h2,_⟩:=aCN (aIi (aw:=7) hP) g4 g5 hpi (us:= #[u0]) (mem2 (cs:=u8V a) (ds:=[])) ⟨rfl,fun i x w hx hw=>by
  match i,hx,hw with
  |0,hx,hw=>cases hx;cases hw;exact r0
  |i+1,hx,hw=>cases hx⟩ (fun i x w hx _=>by
  match i,hx with
  |0,hx=>cases hx
  |i+1,hx=>cases hx)
 have hu:u= .bool true:=by cases h2;rfl
 subst hu;have hC: ∀w1:W0,w1.toWorld=W→AI.CallOK w1 Tryz.prog (aIj 7 (rR Tryz.prog Go.Rf.cdX orcI 1007000 1000159)):=fun w1 hw=>by
  subst hw;exact callA_ok (pV yP (codeW ht hz) (aG0 ht) 1007000 1000159 w1 rfl) (fun w hK=>awk_ok (gV ht hK) (Nat.le_trans hz hK.size))
 have hargs:VRL (mu2 q0 none) [u0] [v0]:= .cons (s0 _ rfl) .nil;have h1': ∀q,(none:Option AI.Place)=some q→RowW W q ([]:List Value) 1:=fun q h=>by cases h
 have key:Calls Tryz.prog 6 #[v0] W fun e w'=> ∃μ' r',e= .returned r'∧AI.VR μ' (.bool true) r'∧Sim (W0.of W) Tryz.prog μ' σ' w'∧Ext (st2 (u8V a) []).next (mu2 q0 none) μ'∧(st2 (u8V a) []).next≤σ'.next:=by
  rcases codeW ht hz (W0.of W) rfl 6 fn _ g1 g2 with⟨q1,q2⟩|⟨_,q⟩
  ·exact(qC yP q1 g2 q2 (hC _ rfl) h1 (sim2 h0 h1' hz) hargs).2
  ·exact q _ 1007000 (fun w1 hw=>hC w1 hw) _ _ _ _ _ _ _ h1 (sim2 h0 h1' hz) hargs (by kernel_rfl)
 refine key.mono ?_;rintro e w' ⟨μ',r',rfl,hr',hZ,_,_⟩;have:r'= .bool true:=by cases hr';rfl
 subst this;exact⟨rfl,hZ.kept.toKept⟩
end Go.TV
