import Derived.Test.YtdjaoblfbbcpdaaGreatDoorKy
import Derived.Test.YtdjaoblfbbcpdaaGreatDoorKz
set_option linter.unusedVariables false
set_option linter.unusedSimpArgs false
set_option linter.constructorNameAsVariable false
set_option linter.defProp false
namespace Go.TV
open Go.AI Go.PI Go.Proofs
set_option maxRecDepth 20000
def a94:(insL.all λx=> !Nat.beq x.2.sig.f 4||Nat.beq x.1 1)=true:=by kernel_rfl
def a93:zF insL 1=some (bH9 4):=by kernel_rfl
def a1y: ∀i s,tpI.sig i=some s->s.f=4->s=bH9 4:=λi s h hf=>by
 have h':zF insL i=some s:=h;unfold zF at h';rw[aF]at h';obtain⟨x,hx,rfl⟩:=h';have h1:=bJ.1 a94 _ (rO hx);simp only[hf,Nat.beq_refl,bD,Bool.false_or]at h1;have hi:i=1:=aE h1;subst hi;have h2:=a93;unfold zF at h2;rw[hx]at h2;exact Option.some.inj h2
def aD3:ii0.sig.bx.length<=100/\Ef ii0.sig.bx.length ii0.sig.bx=true:=⟨bK (by kernel_rfl),by kernel_rfl⟩
def aXU{a b:List Int}(ha: ∀x∈a,0<=x/\x<256)(hb: ∀x∈b,0<=x/\x<256): ∃L n own p',DC Tryz.prog (BT 4 (pC Tryz.prog orcI (uM Go.Rf.cdX insL) L n)) L (gL ii0.sk (lI Go.Rf.cdX 3)).pc (Au Go.Rf.cdX 3) [(aN9 a,false),(aN9 b,false)] p00=some (.v (.bool true),own,p'):=by
 obtain⟨α,hN⟩:=a5f ha hb;have hl:=hN α α (aS _) (aS _);generalize α=L at hl;obtain⟨n,hn⟩: ∃n,n=L:=⟨L,rfl⟩;have hl:F0 (cA L n) L a b=some [⟨.bool,true⟩]:=by rw[hn];exact hl
 clear hn;have hT:=Qo (U:=U0) (T:=tpI) (P:=Tryz.prog) aCp (aRX orcI (zF insL)) (G:=Dy Go.Rf.cdX insL) (GP:=uM Go.Rf.cdX insL) (λi s code rs h1 h2=>HQ aD9 i s code rs h1 h2) aFO L n
 have hA:CallOK U0 tpI (cA L n) (BT 4 (pC Tryz.prog orcI (uM Go.Rf.cdX insL) L n)):=aAL hT a1y;have h0:xF ii0 (cA L n) (cu (cA L n) L) [⟨.sl (.int .u8),a⟩,⟨.sl (.int .u8),b⟩]=some [⟨.bool,true⟩]:=(congrFun (congrFun (e0 (cA L n) L) a) b).trans hl;have h1:oF U0 (cutOf ii0.sig) (λS M=>fK U0 tpI (cA L n) L (gL ii0.sk (lI Go.Rf.cdX ii0.sig.f)) S M (aEX U0 tpI ii0.sig (Au Go.Rf.cdX ii0.sig.f))) [⟨.sl (.int .u8),a⟩,⟨.sl (.int .u8),b⟩]=some [⟨.bool,true⟩]:=
  (pW _ (λS M=>(bBd _ _ _ _).symm) _).trans h0
 have va:VR U0 (.sl (.int .u8)) a (aN9 a):=yY (U:=U0) (.int .u8) a rfl rfl;have vb:VR U0 (.sl (.int .u8)) b (aN9 b):=yY (U:=U0) (.int .u8) b rfl rfl;obtain⟨pv,own,p',k1,k2⟩:=OC (U:=U0) (T:=tpI) (P:=Tryz.prog) aCp (aRX orcI (zF insL)) hA aD3.1 aD3.2 h1 (p:=p00) (cc:=λ_=>none) (args:=[(aN9 a,false),(aN9 b,false)]) (S0:=[(0,(.val ⟨.sl (.int .u8),a⟩,[])),(1,(.val ⟨.sl (.int .u8),b⟩,[]))]) (M0:=⟨[],[]⟩) {
  start:=rfl
  len:=rfl
  args:=λi y hy=>by
   match i,hy with
   |0,hy=>cases hy;exact⟨va,bV _ _⟩
   |1,hy=>cases hy;exact⟨vb,bV _ _⟩
   |i+2,hy=>cases hy
  bx:=λj b h=>by cases h
  dom:=λ_ _=>rfl
  lt:=λj e id h=>by cases h
  inj:=λk k' e e' id h=>by cases h
  wr:=λid h=>by cases h}
 have hpv:pv= .v (.bool true):=of_bool k2.res.1;subst hpv;exact⟨L,n,own,p',k1⟩
def aLf: ∃fn,(Go.Rf.cdX).funcs[3]?=some fn/\fn.body=some (eM (gL ii0.sk (lI Go.Rf.cdX 3)).pc)/\Au Go.Rf.cdX 3=fn.results.toList/\qP (gL ii0.sk (lI Go.Rf.cdX 3)).pc/\fD Tryz.prog fn.ntmps (eM (gL ii0.sk (lI Go.Rf.cdX 3)).pc)=true:=by
 refine By JT aD8 3 _ _ ?_;exact HQ aD9 0 ii0.sig _ _ (by kernel_rfl) (by kernel_rfl)
def aAt{β:World}{v0 v1:Value}{a b:List Int}(ha: ∀x∈a,0<=x/\x<256)(hb: ∀x∈b,0<=x/\x<256)(ht:Lib.TabIs Tryz.prog β a22 .u64 Lib.pow10Tab)(hz:6<=β.heap.size)(hv0:bIh β v0 a)(hv1:bIh β v1 b):
    Calls Tryz.prog 3 #[v0,v1] β λe w'=>e= .returned (.bool true)/\Kept β w':=by
 obtain⟨q0,u0,h0,r0,s0⟩:=aFM (H:=aJz (QR a) (QR b)) (id:=6) (by rw[wA,bH (by omega),bI rfl]) hv0
 obtain⟨q1,u1,h1',r1,s1⟩:=aFM (H:=aJz (QR a) (QR b)) (id:=7) (by rw[wA,bI rfl]) hv1
 obtain⟨L,n,own,p',hpi⟩:=aXU ha hb;obtain⟨fn,g1,g2,g3,g4,g5⟩:=aLf;rw[g3]at hpi;have hP:=G0 (O:=orcI) rfl (By JT aD8:Mu Tryz.prog Go.Rf.cdX (uM Go.Rf.cdX insL)) L n;obtain⟨u,H',J',I',h1,h2,_⟩:=OD (aAM (aw:=4) hP) g4 g5 hpi (us:= #[u0,u1]) bDI ⟨rfl,λi x w hx hw=>by
  match i,hx,hw with
  |0,hx,hw=>cases hx;cases hw;exact r0
  |1,hx,hw=>cases hx;cases hw;exact r1
  |i+2,hx,hw=>cases hx⟩ (λi x w hx _=>by
  match i,hx with
  |0,hx=>cases hx
  |1,hx=>cases hx
  |i+2,hx=>cases hx)
 have hu:u= .bool true:=by cases h2;rfl
 subst hu;have hC: ∀w1:W0,w1.toWorld=β->AI.CallOK w1 Tryz.prog (Qp 4 (Bh Tryz.prog Go.Rf.cdX orcI L n)):=λw1 hw=>by
  subst hw;exact aFD (E4 JS (λw0 _=>XN w0) (WZ ht) L n w1 rfl) (λw hK=>a1x (Dw ht hK) (Nat.le_trans hz hK.size))
 have hargs:VRL (aOz q0 q1) [u0,u1] [v0,v1]:= .cons (s0 _ rfl) (.cons (s1 _ rfl) .nil);have key:Calls Tryz.prog 3 #[v0,v1] β λe w'=> ∃Y' r',e= .returned r'/\AI.VR Y' (.bool true) r'/\Sim (W0.of β) Tryz.prog Y' H' w'/\Ext (aJz (QR a) (QR b)).next (aOz q0 q1) Y'/\(aJz (QR a) (QR b)).next<=H'.next:=by
  rcases XN (W0.of β) 3 fn _ g1 g2 with⟨q1,q2⟩|⟨_,q⟩
  .exact(Bt JS q1 g2 q2 (hC _ rfl) h1 (a4r h0 h1' hz) hargs).2
  .exact q _ L (λw1 hw=>hC w1 hw) _ _ _ _ _ _ _ h1 (a4r h0 h1' hz) hargs (by kernel_rfl)
 refine key.mono ?_;rintro e w' ⟨Y',r',rfl,ca,hZ,_,_⟩;have:r'= .bool true:=by cases ca;rfl
 subst this;exact⟨rfl,hZ.kept.toKept⟩
end Go.TV
