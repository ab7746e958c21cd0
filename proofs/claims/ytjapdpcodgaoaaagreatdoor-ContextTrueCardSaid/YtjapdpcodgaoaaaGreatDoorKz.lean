import Derived.Test.YtjapdpcodgaoaaaGreatDoorKs
import Derived.Test.YtjapdpcodgaoaaaGreatDoorKx
import Derived.Test.YtjapdpcodgaoaaaGreatDoorKy
set_option linter.all false
namespace Go.TV
open Go.AI Go.PI Go.Proofs
set_option maxRecDepth 20000
def a2f{a b:au Int}(ha: ∀x∈a,0<=x/\x<256)(hb: ∀x∈b,0<=x/\x<256): ∃L own p',vD Tryz.prog orcI (Fe Go.Rf.cdP insL) L L 3 [(aSx a,false),(aSx b,false)] p00=some (.v (.bool true),own,p'):=by
 obtain⟨α,hN⟩:=a9V ha hb;have h0:=hN α α (aS _) (aS _);generalize α=L at h0;have hT:=aIF (U:=U0) (T:=tpI) (P:=Tryz.prog) a9Z (bHW orcI (K7 insL)) (G:=HX Go.Rf.cdP insL) (GP:=Fe Go.Rf.cdP insL) (λi s code rs h1 h2=>aNJ bCt i s code rs h1 h2) a5k L L
 have hsig:tpI.sig 0=some ii0.sig:=(by kernel_rfl:K7 insL 0=some ii0.sig)
 have va:VR U0 (.sl (.int .u8)) a (aSx a):=AK (U:=U0) (.int .u8) a rfl rfl;have vb:VR U0 (.sl (.int .u8)) b (aSx b):=AK (U:=U0) (.int .u8) b rfl rfl;obtain⟨pv,own,p',h1,h2⟩:=hT 0 ii0.sig _ _ hsig h0 p00 (λ_=>none) [(aSx a,false),(aSx b,false)] [(0,(.val ⟨.sl (.int .u8),a⟩,[])),(1,(.val ⟨.sl (.int .u8),b⟩,[]))] ⟨[],[]⟩ {
  start:=rfl
  len:=rfl
  args:=λi y hy=>by
   match i,hy with
   |0,hy=>cases hy;exact⟨va,cJ _ _⟩
   |1,hy=>cases hy;exact⟨vb,cJ _ _⟩
   |i+2,hy=>cases hy
  bx:=λj b h=>by cases h
  dom:=λ_ _=>rfl
  lt:=λj e id h=>by cases h
  inj:=λk k' e e' id h=>by cases h
  wr:=λid h=>by cases h}
 have hpv:pv= .v (.bool true):=of_bool h2.res.1;subst hpv;exact⟨L,own,p',h1⟩
def aDj{β:World}{v0 v1:Value}{a b:au Int}(ha: ∀x∈a,0<=x/\x<256)(hb: ∀x∈b,0<=x/\x<256)(ht:Lib.TabIs Tryz.prog β a6z .u64 Lib.pow10Tab)(hz:3<=β.heap.size)(hv0:bNt β v0 a)(hv1:bNt β v1 b):
    Calls Tryz.prog 3 #[v0,v1] β λe w'=>e= .returned (.bool true)/\Kept β w':=by
 obtain⟨q0,u0,h0,r0,s0⟩:=aIV (H:=aNQ (ZF a) (ZF b)) (id:=3) (by rw[yX,bI (by omega),bJ rfl]) hv0
 obtain⟨q1,u1,h1',r1,s1⟩:=aIV (H:=aNQ (ZF a) (ZF b)) (id:=4) (by rw[yX,bJ rfl]) hv1
 obtain⟨L,own,p',hpi⟩:=a2f ha hb;obtain⟨u,H',J',I',h1,h2,_⟩:=aDy (O:=orcI) rfl (aC1 Up bCs:Xi Tryz.prog Go.Rf.cdP (Fe Go.Rf.cdP insL)) L L _ _ _ _ _ _ hpi bJT bOq (aNQ (ZF a) (ZF b)) #[u0,u1] bJW ⟨rfl,λi x w hx hw=>by
  match i,hx,hw with
  |0,hx,hw=>cases hx;cases hw;exact r0
  |1,hx,hw=>cases hx;cases hw;exact r1
  |i+2,hx,hw=>cases hx⟩ (λi x w hx _=>by
  match i,hx with
  |0,hx=>cases hx
  |1,hx=>cases hx
  |i+2,hx=>cases hx)
 have hu:u= .bool true:=by cases h2;rfl
 subst hu;obtain⟨_,hc⟩:=Ss aHc (λw0 _=>Go.Rf.code_ok Up w0) (a1l ht hz) L L (W0.of β) rfl _ #[u0,u1] #[v0,v1] _ _ β (a1J q0 q1) _ h1 (bH7 h0 h1' hz) ⟨rfl,λi x w hx hw=>by
  match i,hx,hw with
  |0,hx,hw=>cases hx;cases hw;exact s0 _ rfl
  |1,hx,hw=>cases hx;cases hw;exact s1 _ rfl
  |i+2,hx,hw=>cases hx⟩
 refine hc.mono ?_;rintro e w' ⟨Y',r',rfl,bz,hZ,_,_⟩;have:r'= .bool true:=by cases bz;rfl
 subst this;exact⟨rfl,hZ.kept.toKept⟩
end Go.TV
