import Derived.Test.YtgfhobcfdppbdaaGreatDoorKq
import Derived.Test.YtgfhobcfdppbdaaGreatDoorKz
import Derived.Test.YtgfhobcfdppbdaaGreatDoorKaa
set_option linter.unusedVariables false
set_option linter.unusedSimpArgs false
set_option linter.constructorNameAsVariable false
set_option linter.defProp false
namespace Go.TV
open Go.AI Go.PI Go.Proofs
set_option maxRecDepth 20000
def a3J{a b:List Int}(ha: ∀x∈a,0<=x/\x<256)(hb: ∀x∈b,0<=x/\x<256): ∃L own p',sS Tryz.prog orcI (Eg Go.Rf.cdG insL) L L 3 [(aSq a,false),(aSq b,false)] p00=some (.v (.bool true),own,p'):=by
 obtain⟨α,hN⟩:=bBU ha hb;have h0:=hN α α (aS _) (aS _);generalize α=L at h0;have hT:=aIl (U:=U0) (T:=tpI) (P:=Tryz.prog) bBW (bJo orcI (JV insL)) (G:=GD Go.Rf.cdG insL) (GP:=Eg Go.Rf.cdG insL) (λi s code rs h1 h2=>aNL bDZ i s code rs h1 h2) a7k L L
 have hsig:tpI.sig 0=some ii0.sig:=(by kernel_rfl:JV insL 0=some ii0.sig)
 have va:VR U0 (.sl (.int .u8)) a (aSq a):=zM (U:=U0) (.int .u8) a rfl rfl;have vb:VR U0 (.sl (.int .u8)) b (aSq b):=zM (U:=U0) (.int .u8) b rfl rfl;obtain⟨pv,own,p',h1,h2⟩:=hT 0 ii0.sig _ _ hsig h0 p00 (λ_=>none) [(aSq a,false),(aSq b,false)] [(0,(.val ⟨.sl (.int .u8),a⟩,[])),(1,(.val ⟨.sl (.int .u8),b⟩,[]))] ⟨[],[]⟩ {
  start:=rfl
  len:=rfl
  args:=λi y hy=>by
   match i,hy with
   |0,hy=>cases hy;exact⟨va,bX _ _⟩
   |1,hy=>cases hy;exact⟨vb,bX _ _⟩
   |i+2,hy=>cases hy
  bx:=λj b h=>by cases h
  dom:=λ_ _=>rfl
  lt:=λj e id h=>by cases h
  inj:=λk k' e e' id h=>by cases h
  wr:=λid h=>by cases h}
 have hpv:pv= .v (.bool true):=of_bool h2.res.1;subst hpv;exact⟨L,own,p',h1⟩
def aCN{β:World}{v0 v1:Value}{a b:List Int}(ha: ∀x∈a,0<=x/\x<256)(hb: ∀x∈b,0<=x/\x<256)(ht:Lib.TabIs Tryz.prog β a8M .u64 Lib.pow10Tab)(hz:5<=β.heap.size)(hv0:bPy β v0 a)(hv1:bPy β v1 b):
    Calls Tryz.prog 3 #[v0,v1] β λe w'=>e= .returned (.bool true)/\Kept β w':=by
 obtain⟨q0,u0,h0,r0,s0⟩:=aIA (H:=aNQ (ZA a) (ZA b)) (id:=5) (by rw[wQ,bH (by omega),bI rfl]) hv0
 obtain⟨q1,u1,h1',r1,s1⟩:=aIA (H:=aNQ (ZA a) (ZA b)) (id:=6) (by rw[wQ,bI rfl]) hv1
 obtain⟨L,own,p',hpi⟩:=a3J ha hb;obtain⟨u,H',J',I',h1,h2,_⟩:=aC8 (O:=orcI) rfl (aCu TL bDY:WH Tryz.prog Go.Rf.cdG (Eg Go.Rf.cdG insL)) L L _ _ _ _ _ _ hpi bK8 bQG (aNQ (ZA a) (ZA b)) #[u0,u1] bLb ⟨rfl,λi x w hx hw=>by
  match i,hx,hw with
  |0,hx,hw=>cases hx;cases hw;exact r0
  |1,hx,hw=>cases hx;cases hw;exact r1
  |i+2,hx,hw=>cases hx⟩ (λi x w hx _=>by
  match i,hx with
  |0,hx=>cases hx
  |1,hx=>cases hx
  |i+2,hx=>cases hx)
 have hu:u= .bool true:=by cases h2;rfl
 subst hu;obtain⟨_,hc⟩:=FA K1 (λw0 h=>Go.Rf.code_okG TL K1 w0 (by rw[aTm,h];exact hz)) (a2F ht hz) L L (W0.of β) rfl _ #[u0,u1] #[v0,v1] _ _ β (a3b q0 q1) _ h1 (bJA h0 h1' hz) ⟨rfl,λi x w hx hw=>by
  match i,hx,hw with
  |0,hx,hw=>cases hx;cases hw;exact s0 _ rfl
  |1,hx,hw=>cases hx;cases hw;exact s1 _ rfl
  |i+2,hx,hw=>cases hx⟩
 refine hc.mono ?_;rintro e w' ⟨Y',r',rfl,ca,hZ,_,_⟩;have:r'= .bool true:=by cases ca;rfl
 subst this;exact⟨rfl,hZ.kept.toKept⟩
end Go.TV
