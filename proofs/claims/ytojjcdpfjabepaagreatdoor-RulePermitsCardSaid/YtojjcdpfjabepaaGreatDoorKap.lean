import Derived.Test.YtojjcdpfjabepaaGreatDoorKaf
import Derived.Test.YtojjcdpfjabepaaGreatDoorKan
import Derived.Test.YtojjcdpfjabepaaGreatDoorKao
set_option linter.unusedVariables false
set_option linter.unusedSimpArgs false
set_option linter.constructorNameAsVariable false
namespace Go.TV
open Go.AI Go.PI Go.Proofs
set_option maxRecDepth 20000
noncomputable def cA:TC0:=aHF tpI 7 (CTp 1007000 1000159)
theorem cA_aw:cA 1 []=some [⟨.bool,true⟩]:=by kernel_rfl
theorem cA_wo(d:TVs):cA 2 d=CTp 1007000 1000159 2 d:=by kernel_rfl
theorem cA_us(d:TVs):cA 3 d=CTp 1007000 1000159 3 d:=by kernel_rfl
theorem cA_nx(d:TVs):cA 4 d=CTp 1007000 1000159 4 d:=by kernel_rfl
theorem cA_te(d:TVs):cA 5 d=CTp 1007000 1000159 5 d:=by kernel_rfl
theorem cA_pp(d:TVs):cA 6 d=CTp 1007000 1000159 6 d:=by kernel_rfl
theorem cA_pr(d:TVs):cA 7 d=CTp 1007000 1000159 7 d:=by kernel_rfl
theorem row25_tv{a b:List Int}(ha: ∀x∈a,0≤x∧x<256)(hb: ∀x∈b,0≤x∧x<256):F0 cA 1007000 a b=some [⟨.bool,true⟩]:=by
 obtain⟨E,h2,h3⟩:=aB5 1000000 1000000;have hl:=aAA 1000000 (n:=1000159) (by omega)
 refine row25_of (E:=E) ⟨cA_aw,?_,fun w=>?_,fun s k h1 h2=>?_,fun s hs=>?_,fun r s hr hs=>?_⟩ (by omega) ha hb
 ·rw[cA_wo];exact h2
 ·rw[cA_us];exact hl.u w
 ·rw[cA_nx];exact hl.nx s k h1 h2
 ·rw[cA_te];exact t2_n 1000000 (smF_ok h3) (by omega) s hs
 ·obtain⟨q,e1,e2⟩:=pm_ok (L:=1000000) (n:=1000159) (by omega) (by omega) hr hs
  exact⟨q,by rw[cA_pp];exact e1,by rw[cA_pr];exact e2⟩
theorem aw_at:(insL.all fun x=> !Nat.beq x.2.sig.f 7||Nat.beq x.1 1)=true:=by kernel_rfl
theorem aw_sg:aAn insL 1=some (awS 7):=by kernel_rfl
theorem aw_sig: ∀i s,tpI.sig i=some s→s.f=7→s=awS 7:=fun i s h hf=>by
 have h':aAn insL i=some s:=h;unfold aAn at h';rw[mjE]at h';obtain⟨x,hx,rfl⟩:=h';have h1:=List.all_eq_true.1 aw_at _ (jH hx);simp only[hf,Nat.beq_refl,bnT,Bool.false_or]at h1;have hi:i=1:=nqE h1;subst hi;have h2:=aw_sg;unfold aAn at h2;rw[hx]at h2;exact Option.some.inj h2
theorem law_bx:ii0.sig.bx.length≤100∧aGl ii0.sig.bx.length ii0.sig.bx=true:=⟨Nat.le_of_ble_eq_true (by kernel_rfl),by kernel_rfl⟩
theorem law_pi{a b:List Int}(ha: ∀x∈a,0≤x∧x<256)(hb: ∀x∈b,0≤x∧x<256): ∃own p',aAm Tryz.prog (sW 7 (jK Tryz.prog orcI (pR Go.Rf.cdP insL) 1007000 1000159)) 1007000 (dQ ii0.sk (fQ Go.Rf.cdP 5)).pc (tT Go.Rf.cdP 5) [(u8P a,false),(u8P b,false)] p00=some (.v (.bool true),own,p'):=by
 have hT:=aDz (U:=U0) (T:=tpI) (P:=Tryz.prog) recOK (ttOK orcI (aAn insL)) (G:=aFz Go.Rf.cdP insL) (GP:=pR Go.Rf.cdP insL) (fun i s code rs h1 h2=>aAl ka_ok i s code rs h1 h2) arI_ok 1007000 1000159
 have hA:CallOK U0 tpI cA (sW 7 (jK Tryz.prog orcI (pR Go.Rf.cdP insL) 1007000 1000159)):=aHE hT aw_sig;have h0:xF ii0 cA (cu cA 1007000) [⟨.sl (.int .u8),a⟩,⟨.sl (.int .u8),b⟩]=some [⟨.bool,true⟩]:=(congrFun (congrFun (e0 cA 1007000) a) b).trans (row25_tv ha hb);have h1:nC U0 (cutOf ii0.sig) (fun S M=>dV U0 tpI cA 1007000 (dQ ii0.sk (fQ Go.Rf.cdP ii0.sig.f)) S M (finT U0 tpI ii0.sig (tT Go.Rf.cdP ii0.sig.f))) [⟨.sl (.int .u8),a⟩,⟨.sl (.int .u8),b⟩]=some [⟨.bool,true⟩]:=
  (hX _ (fun S M=>(exD _ _ _ _).symm) _).trans h0
 have va:VR U0 (.sl (.int .u8)) a (u8P a):=rN (U:=U0) (.int .u8) a rfl rfl;have vb:VR U0 (.sl (.int .u8)) b (u8P b):=rN (U:=U0) (.int .u8) b rfl rfl;obtain⟨pv,own,p',k1,k2⟩:=aCb (U:=U0) (T:=tpI) (P:=Tryz.prog) recOK (ttOK orcI (aAn insL)) hA law_bx.1 law_bx.2 h1 (p:=p00) (cc:=fun _=>none) (args:=[(u8P a,false),(u8P b,false)]) (S0:=[(0,(.val ⟨.sl (.int .u8),a⟩,[])),(1,(.val ⟨.sl (.int .u8),b⟩,[]))]) (M0:=⟨[],[]⟩) {
  start:=rfl
  len:=rfl
  args:=fun i y hy=>by
   match i,hy with
   |0,hy=>cases hy;exact⟨va,aE _ _⟩
   |1,hy=>cases hy;exact⟨vb,aE _ _⟩
   |i+2,hy=>cases hy
  bx:=fun j b h=>by cases h
  dom:=fun _ _=>rfl
  lt:=fun j e id h=>by cases h
  inj:=fun k k' e e' id h=>by cases h
  wr:=fun id h=>by cases h}
 have hpv:pv= .v (.bool true):=of_bool k2.res.1;subst hpv;exact⟨own,p',k1⟩
theorem law_tab: ∃fn,(Go.Rf.cdP).funcs[5]?=some fn∧fn.body=some (bW (dQ ii0.sk (fQ Go.Rf.cdP 5)).pc)∧tT Go.Rf.cdP 5=fn.results.toList∧rO (dQ ii0.sk (fQ Go.Rf.cdP 5)).pc∧bQ Tryz.prog fn.ntmps (bW (dQ ii0.sk (fQ Go.Rf.cdP 5)).pc)=true:=by
 refine pQ aC6 kb_ok 5 _ _ ?_;exact aAl ka_ok 0 ii0.sig _ _ (by kernel_rfl) (by kernel_rfl)
theorem aGD{W:World}{v0 v1:Value}{a b:List Int}(ha: ∀x∈a,0≤x∧x<256)(hb: ∀x∈b,0≤x∧x<256)(ht:Lib.TabIs Tryz.prog W pwN .u64 Lib.pow10Tab)(hz:6≤W.heap.size)(hv0:SlW W v0 a)(hv1:SlW W v1 b):
    Calls Tryz.prog 5 #[v0,v1] W fun e w'=>e= .returned (.bool true)∧Kept W w':=by
 obtain⟨q0,u0,h0,r0,s0⟩:=arg_of (σ:=st2 (u8V a) (u8V b)) (id:=6) (by rw[mL,if_neg (by omega),if_pos rfl]) hv0
 obtain⟨q1,u1,h1',r1,s1⟩:=arg_of (σ:=st2 (u8V a) (u8V b)) (id:=7) (by rw[mL,if_pos rfl]) hv1
 obtain⟨own,p',hpi⟩:=law_pi ha hb;obtain⟨fn,g1,g2,g3,g4,g5⟩:=law_tab;rw[g3]at hpi;have hP:=yY (O:=orcI) rfl (pQ aC6 kb_ok:aD9 Tryz.prog Go.Rf.cdP (pR Go.Rf.cdP insL)) 1007000 1000159;obtain⟨u,σ',ν',γ',h1,h2,_⟩:=aCc (aHG (aw:=7) hP) g4 g5 hpi (us:= #[u0,u1]) mem2 ⟨rfl,fun i x w hx hw=>by
  match i,hx,hw with
  |0,hx,hw=>cases hx;cases hw;exact r0
  |1,hx,hw=>cases hx;cases hw;exact r1
  |i+2,hx,hw=>cases hx⟩ (fun i x w hx _=>by
  match i,hx with
  |0,hx=>cases hx
  |1,hx=>cases hx
  |i+2,hx=>cases hx)
 have hu:u= .bool true:=by cases h2;rfl
 subst hu;have hC: ∀w1:W0,w1.toWorld=W→AI.CallOK w1 Tryz.prog (aHH 7 (qV Tryz.prog Go.Rf.cdP orcI 1007000 1000159)):=fun w1 hw=>by
  subst hw;exact callA_ok (pH xI (codeW ht hz) (aGf ht) 1007000 1000159 w1 rfl) (fun w hK=>awk_ok (gO ht hK) (Nat.le_trans hz hK.size))
 have hargs:VRL (mu2 q0 q1) [u0,u1] [v0,v1]:= .cons (s0 _ rfl) (.cons (s1 _ rfl) .nil);have key:Calls Tryz.prog 5 #[v0,v1] W fun e w'=> ∃μ' r',e= .returned r'∧AI.VR μ' (.bool true) r'∧Sim (W0.of W) Tryz.prog μ' σ' w'∧Ext (st2 (u8V a) (u8V b)).next (mu2 q0 q1) μ'∧(st2 (u8V a) (u8V b)).next≤σ'.next:=by
  rcases codeW ht hz (W0.of W) rfl 5 fn _ g1 g2 with⟨q1,q2⟩|⟨_,q⟩
  ·exact(wH xI q1 g2 q2 (hC _ rfl) h1 (sim2 h0 h1' hz) hargs).2
  ·exact q _ 1007000 (fun w1 hw=>hC w1 hw) _ _ _ _ _ _ _ h1 (sim2 h0 h1' hz) hargs (by kernel_rfl)
 refine key.mono ?_;rintro e w' ⟨μ',r',rfl,hr',hZ,_,_⟩;have:r'= .bool true:=by cases hr';rfl
 subst this;exact⟨rfl,hZ.kept.toKept⟩
end Go.TV
