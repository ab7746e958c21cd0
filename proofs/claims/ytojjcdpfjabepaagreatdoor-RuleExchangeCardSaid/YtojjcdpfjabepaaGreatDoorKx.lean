import Derived.Test.YtojjcdpfjabepaaGreatDoorKt
import Derived.Test.YtojjcdpfjabepaaGreatDoorKv
import Derived.Test.YtojjcdpfjabepaaGreatDoorKu
import Derived.Test.YtojjcdpfjabepaaGreatDoorKw
set_option linter.unusedVariables false
set_option linter.unusedSimpArgs false
set_option linter.constructorNameAsVariable false
namespace Go.TV
open Go.AI Go.PI Go.Proofs
theorem cst_some{t u:Ty}{x:Den U0.D t}{y:Den U0.D u}(h:cst t u x=some y):(⟨t,x⟩:TV U0.D)=⟨u,y⟩:=by
 unfold cst at h;split at h
 ·rename_i e _;subst e;simp only[ojE]at h;subst h;rfl
 ·cases h
theorem aD6: ∀{ts:List Ty} {d:TVs} {r:DenL U0.D ts},dB ts d=some r→d=tvL ts r
 |[],[],_,_=>rfl
 |[],_::_,_,h=>by cases h
 |_::_,[],_,h=>by cases h
 |t::ts,v::d,r,h=>by
  simp only[dB]at h;split at h
  ·rename_i x q h1 h2;simp only[ojE]at h;subst h;show v::d=⟨t,x⟩::tvL ts q;rw[←aD6 h2,←cst_some h1]
  ·cases h
def hx(ts:List Ty)(d:TVs)(K:DenL U0.D ts→Rt)(z:Rt):Rt:=match dB ts d with|some r=>K r|none=>z
theorem bE{ts:List Ty}{d:TVs}{K:DenL U0.D ts→Rt}{z:Rt}(h: ∀r,d=tvL ts r→K r=z):hx ts d K z=z:=by
 unfold hx;split
 ·rename_i r e;exact h r (aD6 e)
 ·rfl
def Hk(i:Nat)(h:TC0→Nat→TVs→Rt→Rt)(L m:Nat)(d:TVs):Prop:=h (CTp L m) L d (CTp L (m+1) i d)=CTp L (m+1) i d
theorem evq{b:Bool}{x y z:Rt}(h1:b=true→x=z)(h2:y=z):(bif b then x else y)=z:=by cases b;exact h2;exact h1 rfl
theorem evc{b:Bool}{x y z:Rt}(h1:x=z)(h2:y=z):(bif b then x else y)=z:=by cases b;exact h2;exact h1
noncomputable def hG(i:Nat)(c:TC0)(L:Nat)(d:TVs)(z:Rt):Rt:=
 match pM insL i with
 |some x=>bif Nat.beq x.sig.f orcI.n||Nat.beq x.sig.f orcI.m then z else xF x c (cu c L) d
 |none=>z
theorem dP(i L m:Nat)(d:TVs):hG i (CTp L m) L d (CTp L (m+1) i d)=CTp L (m+1) i d:=by
 unfold hG;split
 ·rename_i x hx;cases hb:Nat.beq x.sig.f orcI.n||Nat.beq x.sig.f orcI.m with
  |true=>rfl
  |false=>exact(cg hx hb L m d).symm
 ·rfl
end Go.TV
namespace Go.TV
open Go.AI Go.PI Go.Proofs
set_option maxRecDepth 20000
def h2(c:TC0)(L:Nat)(d:TVs)(z:Rt):Rt:=hx [(.int .u32)] d (fun r=>F2 c L r.1) z
theorem g2(L m:Nat)(d:TVs):Hk 2 h2 L m d:=bE fun r e=>e▸(c2 r.1 L m).symm
def h4(c:TC0)(L:Nat)(d:TVs)(z:Rt):Rt:=hx [.str] d (fun r=>F4 c L r.1) z
theorem g4(L m:Nat)(d:TVs):Hk 4 h4 L m d:=bE fun r e=>e▸(c4 r.1 L m).symm
def h12(c:TC0)(L:Nat)(d:TVs)(z:Rt):Rt:=hx [] d (fun _=>F12 c L) z
theorem g12(L m:Nat)(d:TVs):Hk 12 h12 L m d:=bE fun r e=>e▸(c12 L m).symm
def h18(c:TC0)(L:Nat)(d:TVs)(z:Rt):Rt:=hx [] d (fun _=>F18 c L) z
theorem g18(L m:Nat)(d:TVs):Hk 18 h18 L m d:=bE fun r e=>e▸(c18 L m).symm
def h19(c:TC0)(L:Nat)(d:TVs)(z:Rt):Rt:=hx [] d (fun _=>F19 c L) z
theorem g19(L m:Nat)(d:TVs):Hk 19 h19 L m d:=bE fun r e=>e▸(c19 L m).symm
def h21(c:TC0)(L:Nat)(d:TVs)(z:Rt):Rt:=hx [zS 16,.rc 1] d (fun r=>F21 c L r.1 r.2.1) z
theorem g21(L m:Nat)(d:TVs):Hk 21 h21 L m d:=bE fun r e=>e▸(c21 r.1 r.2.1 L m).symm
def h32(c:TC0)(L:Nat)(d:TVs)(z:Rt):Rt:=hx [.rc 3,.rc 3] d (fun r=>F32 c L r.1 r.2.1) z
theorem g32(L m:Nat)(d:TVs):Hk 32 h32 L m d:=bE fun r e=>e▸(c32 r.1 r.2.1 L m).symm
def h34(c:TC0)(L:Nat)(d:TVs)(z:Rt):Rt:=hx [.rc 2,.rc 2] d (fun r=>F34 c L r.1 r.2.1) z
theorem g34(L m:Nat)(d:TVs):Hk 34 h34 L m d:=bE fun r e=>e▸(c34 r.1 r.2.1 L m).symm
def h39(c:TC0)(L:Nat)(d:TVs)(z:Rt):Rt:=hx [.rc 1] d (fun r=>F39 c L r.1) z
theorem g39(L m:Nat)(d:TVs):Hk 39 h39 L m d:=bE fun r e=>e▸(c39 r.1 L m).symm
def h41(c:TC0)(L:Nat)(d:TVs)(z:Rt):Rt:=hx [] d (fun _=>F41 c L) z
theorem g41(L m:Nat)(d:TVs):Hk 41 h41 L m d:=bE fun r e=>e▸(c41 L m).symm
def h43(c:TC0)(L:Nat)(d:TVs)(z:Rt):Rt:=hx [.str] d (fun r=>F43 c L r.1) z
theorem g43(L m:Nat)(d:TVs):Hk 43 h43 L m d:=bE fun r e=>e▸(c43 r.1 L m).symm
def h56(c:TC0)(L:Nat)(d:TVs)(z:Rt):Rt:=hx [.rc 1] d (fun r=>F56 c L r.1) z
theorem g56(L m:Nat)(d:TVs):Hk 56 h56 L m d:=bE fun r e=>e▸(c56 r.1 L m).symm
def h57(c:TC0)(L:Nat)(d:TVs)(z:Rt):Rt:=hx [zS 16,.rc 1] d (fun r=>F57 c L r.1 r.2.1) z
theorem g57(L m:Nat)(d:TVs):Hk 57 h57 L m d:=bE fun r e=>e▸(c57 r.1 r.2.1 L m).symm
def h63(c:TC0)(L:Nat)(d:TVs)(z:Rt):Rt:=hx [] d (fun _=>F63 c L) z
theorem g63(L m:Nat)(d:TVs):Hk 63 h63 L m d:=bE fun r e=>e▸(c63 L m).symm
def h71(c:TC0)(L:Nat)(d:TVs)(z:Rt):Rt:=hx [.rc 2,.rc 2] d (fun r=>F71 c L r.1 r.2.1) z
theorem g71(L m:Nat)(d:TVs):Hk 71 h71 L m d:=bE fun r e=>e▸(c71 r.1 r.2.1 L m).symm
def h72(c:TC0)(L:Nat)(d:TVs)(z:Rt):Rt:=hx [zS 3,zS 3] d (fun r=>F72 c L r.1 r.2.1) z
theorem g72(L m:Nat)(d:TVs):Hk 72 h72 L m d:=bE fun r e=>e▸(c72 r.1 r.2.1 L m).symm
def h75(c:TC0)(L:Nat)(d:TVs)(z:Rt):Rt:=hx [.rc 2] d (fun r=>F75 c L r.1) z
theorem g75(L m:Nat)(d:TVs):Hk 75 h75 L m d:=bE fun r e=>e▸(c75 r.1 L m).symm
def h78(c:TC0)(L:Nat)(d:TVs)(z:Rt):Rt:=hx [] d (fun _=>F78 c L) z
theorem g78(L m:Nat)(d:TVs):Hk 78 h78 L m d:=bE fun r e=>e▸(c78 L m).symm
def h79(c:TC0)(L:Nat)(d:TVs)(z:Rt):Rt:=hx [] d (fun _=>F79 c L) z
theorem g79(L m:Nat)(d:TVs):Hk 79 h79 L m d:=bE fun r e=>e▸(c79 L m).symm
def h80(c:TC0)(L:Nat)(d:TVs)(z:Rt):Rt:=hx [zS 9,.str,.str] d (fun r=>F80 c L r.1 r.2.1 r.2.2.1) z
theorem g80(L m:Nat)(d:TVs):Hk 80 h80 L m d:=bE fun r e=>e▸(c80 r.1 r.2.1 r.2.2.1 L m).symm
def h87(c:TC0)(L:Nat)(d:TVs)(z:Rt):Rt:=hx [] d (fun _=>F87 c L) z
theorem g87(L m:Nat)(d:TVs):Hk 87 h87 L m d:=bE fun r e=>e▸(c87 L m).symm
def h88(c:TC0)(L:Nat)(d:TVs)(z:Rt):Rt:=hx [zS 16,.rc 1] d (fun r=>F88 c L r.1 r.2.1) z
theorem g88(L m:Nat)(d:TVs):Hk 88 h88 L m d:=bE fun r e=>e▸(c88 r.1 r.2.1 L m).symm
def h89(c:TC0)(L:Nat)(d:TVs)(z:Rt):Rt:=hx [.rc 16] d (fun r=>F89 c L r.1) z
theorem g89(L m:Nat)(d:TVs):Hk 89 h89 L m d:=bE fun r e=>e▸(c89 r.1 L m).symm
def h92(c:TC0)(L:Nat)(d:TVs)(z:Rt):Rt:=hx [.rc 1] d (fun r=>F92 c L r.1) z
theorem g92(L m:Nat)(d:TVs):Hk 92 h92 L m d:=bE fun r e=>e▸(c92 r.1 L m).symm
def h99(c:TC0)(L:Nat)(d:TVs)(z:Rt):Rt:=hx [.rc 2,i6] d (fun r=>F99 c L r.1 r.2.1) z
theorem g99(L m:Nat)(d:TVs):Hk 99 h99 L m d:=bE fun r e=>e▸(c99 r.1 r.2.1 L m).symm
def h102(c:TC0)(L:Nat)(d:TVs)(z:Rt):Rt:=hx [.str,.str] d (fun r=>F102 c L r.1 r.2.1) z
theorem g102(L m:Nat)(d:TVs):Hk 102 h102 L m d:=bE fun r e=>e▸(c102 r.1 r.2.1 L m).symm
def h103(c:TC0)(L:Nat)(d:TVs)(z:Rt):Rt:=hx [.str,.str] d (fun r=>F103 c L r.1 r.2.1) z
theorem g103(L m:Nat)(d:TVs):Hk 103 h103 L m d:=bE fun r e=>e▸(c103 r.1 r.2.1 L m).symm
def h104(c:TC0)(L:Nat)(d:TVs)(z:Rt):Rt:=hx [.rc 2] d (fun r=>F104 c L r.1) z
theorem g104(L m:Nat)(d:TVs):Hk 104 h104 L m d:=bE fun r e=>e▸(c104 r.1 L m).symm
def h107(c:TC0)(L:Nat)(d:TVs)(z:Rt):Rt:=hx [i6,.rc 23] d (fun r=>F107 c L r.1 r.2.1) z
theorem g107(L m:Nat)(d:TVs):Hk 107 h107 L m d:=bE fun r e=>e▸(c107 r.1 r.2.1 L m).symm
def h110(c:TC0)(L:Nat)(d:TVs)(z:Rt):Rt:=hx [.rc 3] d (fun r=>F110 c L r.1) z
theorem g110(L m:Nat)(d:TVs):Hk 110 h110 L m d:=bE fun r e=>e▸(c110 r.1 L m).symm
def h112(c:TC0)(L:Nat)(d:TVs)(z:Rt):Rt:=hx [.str] d (fun r=>F112 c L r.1) z
theorem g112(L m:Nat)(d:TVs):Hk 112 h112 L m d:=bE fun r e=>e▸(c112 r.1 L m).symm
def h115(c:TC0)(L:Nat)(d:TVs)(z:Rt):Rt:=hx [.bool,.sl i6] d (fun r=>F115 c L r.1 r.2.1) z
theorem g115(L m:Nat)(d:TVs):Hk 115 h115 L m d:=bE fun r e=>e▸(c115 r.1 r.2.1 L m).symm
def h123(c:TC0)(L:Nat)(d:TVs)(z:Rt):Rt:=hx [.rc 2,.rc 2] d (fun r=>F123 c L r.1 r.2.1) z
theorem g123(L m:Nat)(d:TVs):Hk 123 h123 L m d:=bE fun r e=>e▸(c123 r.1 r.2.1 L m).symm
def h125(c:TC0)(L:Nat)(d:TVs)(z:Rt):Rt:=hx [.sl i6,.sl i6] d (fun r=>F125 c L r.1 r.2.1) z
theorem g125(L m:Nat)(d:TVs):Hk 125 h125 L m d:=bE fun r e=>e▸(c125 r.1 r.2.1 L m).symm
def h126(c:TC0)(L:Nat)(d:TVs)(z:Rt):Rt:=hx [.sl i6,.sl i6] d (fun r=>F126 c L r.1 r.2.1) z
theorem g126(L m:Nat)(d:TVs):Hk 126 h126 L m d:=bE fun r e=>e▸(c126 r.1 r.2.1 L m).symm
def h129(c:TC0)(L:Nat)(d:TVs)(z:Rt):Rt:=hx [i6,.rc 23] d (fun r=>F129 c L r.1 r.2.1) z
theorem g129(L m:Nat)(d:TVs):Hk 129 h129 L m d:=bE fun r e=>e▸(c129 r.1 r.2.1 L m).symm
def h130(c:TC0)(L:Nat)(d:TVs)(z:Rt):Rt:=hx [zS 9,.str,.str] d (fun r=>F130 c L r.1 r.2.1 r.2.2.1) z
theorem g130(L m:Nat)(d:TVs):Hk 130 h130 L m d:=bE fun r e=>e▸(c130 r.1 r.2.1 r.2.2.1 L m).symm
def h131(c:TC0)(L:Nat)(d:TVs)(z:Rt):Rt:=hx [.rc 1] d (fun r=>F131 c L r.1) z
theorem g131(L m:Nat)(d:TVs):Hk 131 h131 L m d:=bE fun r e=>e▸(c131 r.1 L m).symm
def h136(c:TC0)(L:Nat)(d:TVs)(z:Rt):Rt:=hx [zS 16,.rc 1] d (fun r=>F136 c L r.1 r.2.1) z
theorem g136(L m:Nat)(d:TVs):Hk 136 h136 L m d:=bE fun r e=>e▸(c136 r.1 r.2.1 L m).symm
def h140(c:TC0)(L:Nat)(d:TVs)(z:Rt):Rt:=hx [.rc 3] d (fun r=>F140 c L r.1) z
theorem g140(L m:Nat)(d:TVs):Hk 140 h140 L m d:=bE fun r e=>e▸(c140 r.1 L m).symm
def h141(c:TC0)(L:Nat)(d:TVs)(z:Rt):Rt:=hx [.rc 3] d (fun r=>F141 c L r.1) z
theorem g141(L m:Nat)(d:TVs):Hk 141 h141 L m d:=bE fun r e=>e▸(c141 r.1 L m).symm
def h142(c:TC0)(L:Nat)(d:TVs)(z:Rt):Rt:=hx [.rc 3] d (fun r=>F142 c L r.1) z
theorem g142(L m:Nat)(d:TVs):Hk 142 h142 L m d:=bE fun r e=>e▸(c142 r.1 L m).symm
def h144(c:TC0)(L:Nat)(d:TVs)(z:Rt):Rt:=hx [.str] d (fun r=>F144 c L r.1) z
theorem g144(L m:Nat)(d:TVs):Hk 144 h144 L m d:=bE fun r e=>e▸(c144 r.1 L m).symm
def h145(c:TC0)(L:Nat)(d:TVs)(z:Rt):Rt:=hx [.sl i6] d (fun r=>F145 c L r.1) z
theorem g145(L m:Nat)(d:TVs):Hk 145 h145 L m d:=bE fun r e=>e▸(c145 r.1 L m).symm
def h149(c:TC0)(L:Nat)(d:TVs)(z:Rt):Rt:=hx [.str,.str] d (fun r=>F149 c L r.1 r.2.1) z
theorem g149(L m:Nat)(d:TVs):Hk 149 h149 L m d:=bE fun r e=>e▸(c149 r.1 r.2.1 L m).symm
def h150(c:TC0)(L:Nat)(d:TVs)(z:Rt):Rt:=hx [.str,.str] d (fun r=>F150 c L r.1 r.2.1) z
theorem g150(L m:Nat)(d:TVs):Hk 150 h150 L m d:=bE fun r e=>e▸(c150 r.1 r.2.1 L m).symm
def h154(c:TC0)(L:Nat)(d:TVs)(z:Rt):Rt:=hx [.rc 22,.bool] d (fun r=>F154 c L r.1 r.2.1) z
theorem g154(L m:Nat)(d:TVs):Hk 154 h154 L m d:=bE fun r e=>e▸(c154 r.1 r.2.1 L m).symm
def h158(c:TC0)(L:Nat)(d:TVs)(z:Rt):Rt:=hx [.str] d (fun r=>F158 c L r.1) z
theorem g158(L m:Nat)(d:TVs):Hk 158 h158 L m d:=bE fun r e=>e▸(c158 r.1 L m).symm
def h161(c:TC0)(L:Nat)(d:TVs)(z:Rt):Rt:=hx [zS 9,.str] d (fun r=>F161 c L r.1 r.2.1) z
theorem g161(L m:Nat)(d:TVs):Hk 161 h161 L m d:=bE fun r e=>e▸(c161 r.1 r.2.1 L m).symm
def h162(c:TC0)(L:Nat)(d:TVs)(z:Rt):Rt:=hx [.rc 1] d (fun r=>F162 c L r.1) z
theorem g162(L m:Nat)(d:TVs):Hk 162 h162 L m d:=bE fun r e=>e▸(c162 r.1 L m).symm
def h166(c:TC0)(L:Nat)(d:TVs)(z:Rt):Rt:=hx [.rc 3,i6] d (fun r=>F166 c L r.1 r.2.1) z
theorem g166(L m:Nat)(d:TVs):Hk 166 h166 L m d:=bE fun r e=>e▸(c166 r.1 r.2.1 L m).symm
def h167(c:TC0)(L:Nat)(d:TVs)(z:Rt):Rt:=hx [.rc 3,i6] d (fun r=>F167 c L r.1 r.2.1) z
theorem g167(L m:Nat)(d:TVs):Hk 167 h167 L m d:=bE fun r e=>e▸(c167 r.1 r.2.1 L m).symm
def h168(c:TC0)(L:Nat)(d:TVs)(z:Rt):Rt:=hx [.rc 2] d (fun r=>F168 c L r.1) z
theorem g168(L m:Nat)(d:TVs):Hk 168 h168 L m d:=bE fun r e=>e▸(c168 r.1 L m).symm
def h172(c:TC0)(L:Nat)(d:TVs)(z:Rt):Rt:=hx [.rc 1] d (fun r=>F172 c L r.1) z
theorem g172(L m:Nat)(d:TVs):Hk 172 h172 L m d:=bE fun r e=>e▸(c172 r.1 L m).symm
def h178(c:TC0)(L:Nat)(d:TVs)(z:Rt):Rt:=hx [.rc 3] d (fun r=>F178 c L r.1) z
theorem g178(L m:Nat)(d:TVs):Hk 178 h178 L m d:=bE fun r e=>e▸(c178 r.1 L m).symm
def h179(c:TC0)(L:Nat)(d:TVs)(z:Rt):Rt:=hx [.rc 2] d (fun r=>F179 c L r.1) z
theorem g179(L m:Nat)(d:TVs):Hk 179 h179 L m d:=bE fun r e=>e▸(c179 r.1 L m).symm
def h183(c:TC0)(L:Nat)(d:TVs)(z:Rt):Rt:=hx [.str] d (fun r=>F183 c L r.1) z
theorem g183(L m:Nat)(d:TVs):Hk 183 h183 L m d:=bE fun r e=>e▸(c183 r.1 L m).symm
noncomputable def hAll(i:Nat)(c:TC0)(L:Nat)(d:TVs)(z:Rt):Rt:=(bif Nat.beq i 107 then h107 c L d z else bif Nat.blt i 107 then(bif Nat.beq i 71 then h71 c L d z else bif Nat.blt i 71 then(bif Nat.beq i 34 then h34 c L d z else bif Nat.blt i 34 then(bif Nat.beq i 18 then h18 c L d z else bif Nat.blt i 18 then(bif Nat.beq i 4 then h4 c L d z else bif Nat.blt i 4 then(bif Nat.beq i 2 then h2 c L d z else hG i c L d z)else(bif Nat.beq i 12 then h12 c L d z else hG i c L d z))else(bif Nat.beq i 21 then h21 c L d z else bif Nat.blt i 21 then(bif Nat.beq i 19 then h19 c L d z else hG i c L d z)else(bif Nat.beq i 32 then h32 c L d z else hG i c L d z)))else(bif Nat.beq i 56 then h56 c L d z else bif Nat.blt i 56 then(bif Nat.beq i 41 then h41 c L d z else bif Nat.blt i 41 then(bif Nat.beq i 39 then h39 c L d z else hG i c L d z)else(bif Nat.beq i 43 then h43 c L d z else hG i c L d z))else(bif Nat.beq i 63 then h63 c L d z else bif Nat.blt i 63 then(bif Nat.beq i 57 then h57 c L d z else hG i c L d z)else hG i c L d z)))else(bif Nat.beq i 88 then h88 c L d z else bif Nat.blt i 88 then(bif Nat.beq i 79 then h79 c L d z else bif Nat.blt i 79 then(bif Nat.beq i 75 then h75 c L d z else bif Nat.blt i 75 then(bif Nat.beq i 72 then h72 c L d z else hG i c L d z)else(bif Nat.beq i 78 then h78 c L d z else hG i c L d z))else(bif Nat.beq i 87 then h87 c L d z else bif Nat.blt i 87 then(bif Nat.beq i 80 then h80 c L d z else hG i c L d z)else hG i c L d z))else(bif Nat.beq i 102 then h102 c L d z else bif Nat.blt i 102 then(bif Nat.beq i 92 then h92 c L d z else bif Nat.blt i 92 then(bif Nat.beq i 89 then h89 c L d z else hG i c L d z)else(bif Nat.beq i 99 then h99 c L d z else hG i c L d z))else(bif Nat.beq i 104 then h104 c L d z else bif Nat.blt i 104 then(bif Nat.beq i 103 then h103 c L d z else hG i c L d z)else hG i c L d z))))else(bif Nat.beq i 145 then h145 c L d z else bif Nat.blt i 145 then(bif Nat.beq i 130 then h130 c L d z else bif Nat.blt i 130 then(bif Nat.beq i 123 then h123 c L d z else bif Nat.blt i 123 then(bif Nat.beq i 112 then h112 c L d z else bif Nat.blt i 112 then(bif Nat.beq i 110 then h110 c L d z else hG i c L d z)else(bif Nat.beq i 115 then h115 c L d z else hG i c L d z))else(bif Nat.beq i 126 then h126 c L d z else bif Nat.blt i 126 then(bif Nat.beq i 125 then h125 c L d z else hG i c L d z)else(bif Nat.beq i 129 then h129 c L d z else hG i c L d z)))else(bif Nat.beq i 141 then h141 c L d z else bif Nat.blt i 141 then(bif Nat.beq i 136 then h136 c L d z else bif Nat.blt i 136 then(bif Nat.beq i 131 then h131 c L d z else hG i c L d z)else(bif Nat.beq i 140 then h140 c L d z else hG i c L d z))else(bif Nat.beq i 144 then h144 c L d z else bif Nat.blt i 144 then(bif Nat.beq i 142 then h142 c L d z else hG i c L d z)else hG i c L d z)))else(bif Nat.beq i 166 then h166 c L d z else bif Nat.blt i 166 then(bif Nat.beq i 158 then h158 c L d z else bif Nat.blt i 158 then(bif Nat.beq i 150 then h150 c L d z else bif Nat.blt i 150 then(bif Nat.beq i 149 then h149 c L d z else hG i c L d z)else(bif Nat.beq i 154 then h154 c L d z else hG i c L d z))else(bif Nat.beq i 162 then h162 c L d z else bif Nat.blt i 162 then(bif Nat.beq i 161 then h161 c L d z else hG i c L d z)else hG i c L d z))else(bif Nat.beq i 178 then h178 c L d z else bif Nat.blt i 178 then(bif Nat.beq i 168 then h168 c L d z else bif Nat.blt i 168 then(bif Nat.beq i 167 then h167 c L d z else hG i c L d z)else(bif Nat.beq i 172 then h172 c L d z else hG i c L d z))else(bif Nat.beq i 183 then h183 c L d z else bif Nat.blt i 183 then(bif Nat.beq i 179 then h179 c L d z else hG i c L d z)else hG i c L d z)))))
theorem hAll_ok(i L m:Nat)(d:TVs):hAll i (CTp L m) L d (CTp L (m+1) i d)=CTp L (m+1) i d:=(evq (fun e=>(nqE e).symm▸g107 L m d) (evc (evq (fun e=>(nqE e).symm▸g71 L m d) (evc (evq (fun e=>(nqE e).symm▸g34 L m d) (evc (evq (fun e=>(nqE e).symm▸g18 L m d) (evc (evq (fun e=>(nqE e).symm▸g4 L m d) (evc (evq (fun e=>(nqE e).symm▸g2 L m d) (dP i L m d)) (evq (fun e=>(nqE e).symm▸g12 L m d) (dP i L m d)))) (evq (fun e=>(nqE e).symm▸g21 L m d) (evc (evq (fun e=>(nqE e).symm▸g19 L m d) (dP i L m d)) (evq (fun e=>(nqE e).symm▸g32 L m d) (dP i L m d)))))) (evq (fun e=>(nqE e).symm▸g56 L m d) (evc (evq (fun e=>(nqE e).symm▸g41 L m d) (evc (evq (fun e=>(nqE e).symm▸g39 L m d) (dP i L m d)) (evq (fun e=>(nqE e).symm▸g43 L m d) (dP i L m d)))) (evq (fun e=>(nqE e).symm▸g63 L m d) (evc (evq (fun e=>(nqE e).symm▸g57 L m d) (dP i L m d)) (dP i L m d))))))) (evq (fun e=>(nqE e).symm▸g88 L m d) (evc (evq (fun e=>(nqE e).symm▸g79 L m d) (evc (evq (fun e=>(nqE e).symm▸g75 L m d) (evc (evq (fun e=>(nqE e).symm▸g72 L m d) (dP i L m d)) (evq (fun e=>(nqE e).symm▸g78 L m d) (dP i L m d)))) (evq (fun e=>(nqE e).symm▸g87 L m d) (evc (evq (fun e=>(nqE e).symm▸g80 L m d) (dP i L m d)) (dP i L m d))))) (evq (fun e=>(nqE e).symm▸g102 L m d) (evc (evq (fun e=>(nqE e).symm▸g92 L m d) (evc (evq (fun e=>(nqE e).symm▸g89 L m d) (dP i L m d)) (evq (fun e=>(nqE e).symm▸g99 L m d) (dP i L m d)))) (evq (fun e=>(nqE e).symm▸g104 L m d) (evc (evq (fun e=>(nqE e).symm▸g103 L m d) (dP i L m d)) (dP i L m d))))))))) (evq (fun e=>(nqE e).symm▸g145 L m d) (evc (evq (fun e=>(nqE e).symm▸g130 L m d) (evc (evq (fun e=>(nqE e).symm▸g123 L m d) (evc (evq (fun e=>(nqE e).symm▸g112 L m d) (evc (evq (fun e=>(nqE e).symm▸g110 L m d) (dP i L m d)) (evq (fun e=>(nqE e).symm▸g115 L m d) (dP i L m d)))) (evq (fun e=>(nqE e).symm▸g126 L m d) (evc (evq (fun e=>(nqE e).symm▸g125 L m d) (dP i L m d)) (evq (fun e=>(nqE e).symm▸g129 L m d) (dP i L m d)))))) (evq (fun e=>(nqE e).symm▸g141 L m d) (evc (evq (fun e=>(nqE e).symm▸g136 L m d) (evc (evq (fun e=>(nqE e).symm▸g131 L m d) (dP i L m d)) (evq (fun e=>(nqE e).symm▸g140 L m d) (dP i L m d)))) (evq (fun e=>(nqE e).symm▸g144 L m d) (evc (evq (fun e=>(nqE e).symm▸g142 L m d) (dP i L m d)) (dP i L m d))))))) (evq (fun e=>(nqE e).symm▸g166 L m d) (evc (evq (fun e=>(nqE e).symm▸g158 L m d) (evc (evq (fun e=>(nqE e).symm▸g150 L m d) (evc (evq (fun e=>(nqE e).symm▸g149 L m d) (dP i L m d)) (evq (fun e=>(nqE e).symm▸g154 L m d) (dP i L m d)))) (evq (fun e=>(nqE e).symm▸g162 L m d) (evc (evq (fun e=>(nqE e).symm▸g161 L m d) (dP i L m d)) (dP i L m d))))) (evq (fun e=>(nqE e).symm▸g178 L m d) (evc (evq (fun e=>(nqE e).symm▸g168 L m d) (evc (evq (fun e=>(nqE e).symm▸g167 L m d) (dP i L m d)) (evq (fun e=>(nqE e).symm▸g172 L m d) (dP i L m d)))) (evq (fun e=>(nqE e).symm▸g183 L m d) (evc (evq (fun e=>(nqE e).symm▸g179 L m d) (dP i L m d)) (dP i L m d)))))))))))
end Go.TV
namespace Go.TV
open Go.AI Go.PI Go.Proofs
noncomputable def evB(K:TC0)(up:Nat→TC0)(L:Nat):Nat→TC0
 |0=>up 0
 |n+1=>fun i d=>match K i d with|some r=>some r|none=>hAll i (evB K up L n) L d (up (n+1) i d)
noncomputable def upT(L N:Nat):Nat→TC0:=fun n=>CTp L (N+n)
theorem aD0{K:TC0}{L N:Nat}(hK: ∀n i d r,K i d=some r→CTp L (N+n+1) i d=some r): ∀n,evB K (upT L N) L n=CTp L (N+n)
 |0=>rfl
 |n+1=>by
  funext i d;show(match K i d with|some r=>some r|none=>hAll i (evB K (upT L N) L n) L d (CTp L (N+n+1) i d))=CTp L (N+n+1) i d
  rw[aD0 hK n];split
  ·rename_i r e;exact(hK n i d r e).symm
  ·exact hAll_ok i L (N+n) d
end Go.TV
namespace Go.TV
open Go.AI Go.PI Go.Proofs
theorem kW{P:G.T→Prop}(h: ∀k n v l,(∀o∈l,P o)→P ⟨k,n,v,l⟩): ∀o,P o:=fun o=>
 G.T.rec (motive_1:=P) (motive_2:=fun l=> ∀o∈l,P o) (fun k n v l ih=>h k n v l ih) (fun o ho=>by cases ho)
  (fun o l h1 h2 x hx=>by
   cases hx with
   |head=>exact h1
   |tail _ hx=>exact h2 x hx) o
noncomputable instance:DecidableEq G.T:=fun a b=>Classical.propDecidable _
def okTm(k:Int)(n:G.Y)(v:G.O)(l:List G.T):Bool:=
 decide (k=1)&&okV n&&decide (v.kind=0)&&l.isEmpty||decide (k=2)&&decide (n=⟨[],[]⟩)&&l.isEmpty&& !decide (v.kind=0)||decide (k=3)&&aA2 n&&Nat.ble l.length 8&&decide (v.kind=0)
def badT(k:Int)(n:G.Y)(v:G.O)(l:List G.T):Nat:=bif okTm k n v l then 0 else 1000000000
mutual
def tsz:G.T→Nat
 |⟨k,n,v,l⟩=>4+osz v+oL l+badT k n v l
def oL:List G.T→Nat
 |[]=>0
 |o::l=>tsz o+oL l+1
end
theorem aA1{t:G.T}(h:tsz t<1000000000):okTm t.kind t.name t.value t.args=true:=by
 cases t with|mk k n v l=>
 simp only[tsz,badT]at h;cases e:okTm k n v l with
 |true=>exact e
 |false=>rw[e,cdf]at h;omega
theorem jF: ∀(l:List G.T),l.length≤oL l
 |[]=>nlR _
 |o::l=>by have:=jF l;simp only[lcS,oL];omega
theorem cR: ∀{l:List G.T} {x:G.T},x∈l→tsz x≤oL l
 |o::l,x,h=>by
  simp only[oL];cases h with
  |head=>omega
  |tail _ h=>have:=cR h;omega
def tt2(a b:G.T):TVs:=[yR 3 a,yR 3 b]
def ll2(a b:List G.T):TVs:=[yS 3 a,yS 3 b]
def wfT(a:G.T):Prop:=tsz a<1000000000
end Go.TV
namespace Go.TV
open Go.AI Go.PI Go.Proofs
theorem aFr{β:Type}{A:Option β}:chk true A=A:=rfl
theorem wrapn{k:Nat}(h:k<4000000000000000000):IntKind.i64.wrap (k:Int)=(k:Int):=by
 unfold IntKind.wrap;simp[IntKind.bits,IntKind.signed];omega
end Go.TV
namespace Go.TV
open Go.AI Go.PI Go.Proofs
def qU:List UInt8:=[108,105,115,112]
end Go.TV
namespace Go.TV
open Go.AI Go.PI Go.Proofs
def blI(x:Int):Bool:=decide (x=32)||decide (x=9)||decide (x=10)||decide (x=13)
def csI(x:Int):Bool:=decide (33≤x)&&decide (x≤126)&& !decide (x=40)&& !decide (x=41)&& !decide (x=39)&& !decide (x=34)&& !decide (x=59)&& !decide (x=124)&& !decide (x=58)
def u8(x:UInt8):Int:=(x.toNat:Int)
theorem Bl_ok(x:Int)(L n:Nat):CTp L (n+1) 151 [⟨.int .u8,x⟩]=some [yB (blI x)]:=by
 rw[c151];simp only[F151,aJU,aJA,aJT,blI];generalize decide (x=32)=a,decide (x=9)=b,decide (x=10)=d,decide (x=13)=e;cases a<;>cases b<;>cases d<;>cases e<;>rfl
theorem Cs_ok(x:Int)(L n:Nat):CTp L (n+1) 155 [⟨.int .u8,x⟩]=some [yB (csI x)]:=by
 rw[c155];simp only[F155,aJP,aJy,aJO,csI];generalize decide (33≤x)=a,decide (x≤126)=b,decide (x=40)=d,decide (x=41)=e,decide (x=39)=f,decide (x=34)=g,decide (x=59)=h,decide (x=124)=i,decide (x=58)=j;cases a
 ·rfl
 cases b
 ·rfl
 cases d
 case true=>rfl
 cases e
 case true=>rfl
 cases f
 case true=>rfl
 cases g
 case true=>rfl
 cases h
 case true=>rfl
 cases i
 case true=>rfl
 cases j<;>rfl
theorem has_no{s:List UInt8}{k:Nat}{a b:Int}(hb:s.length<1000000000)(hk:k≤s.length)(h: ∀x,s[k]?=some x→u8 x≠a)(L n:Nat):CTp L (n+1) 152 [yT s,yI (k:Int),⟨.int .u8,a⟩,⟨.int .u8,b⟩]=some [yB false]:=by
 rw[c152];have e0:decide ((0:Int)≤(k:Int))=true:=by simp
 simp only[F152,aJS,aJz,aJR,e0,aJ];cases h1:decide (IntKind.i64.wrap ((k:Int)+1)<(s.length:Int))with
 |false=>rfl
 |true=>
  rw[aJ,aK];cases h2:s[k]? with
  |none=>
   exfalso;have:=List.getElem?_eq_none_iff.1 h2;simp only[djE]at h1;rw[eD (by omega)]at h1
   omega
  |some x=>
   have:=h x h2;have e1:decide ((x.toNat:Int)=a)=false:=by simpa [u8]using this
   rw[eC,e1];rfl
theorem Wd_loop{c:TC0}{L:Nat}{s r:List UInt8}(hc: ∀x,c 155 [⟨.int .u8,x⟩]=some [yB (csI x)])(hb:s.length<1000000000)(hr: ∀y,r.head?=some y→csI (u8 y)=false):
    ∀(w:List UInt8) (k m:Nat),s.drop k=w++r→w.length<m→(∀x∈w,csI (u8 x)=true)→rY c L m s (k:Int)=some [yI ((k+w.length:Nat):Int)]:=by
 intro w;induction w with
 |nil=>
  intro k m h1 h2 _;obtain⟨m,rfl⟩: ∃m',m=m'+1:=⟨m-1,by simp at h2;omega⟩
  rw[rY,aES];rw[nlA]at h1;cases r with
  |nil=>
   have e1:=bC h1;have e3:decide ((k:Int)<(s.length:Int))=false:=by simp;omega
   rw[e3,aF,aAx,aAB,aF];rfl
  |cons y r=>
   obtain⟨a1,a2,a3⟩:=bB h1;have e3:decide ((k:Int)<(s.length:Int))=true:=by simp;omega
   have e4:csI (y.toNat:Int)=false:=hr y rfl;rw[e3,aJ,aK,a1,eC,hc,eE,aAx,aAB,e4,aF];rfl
 |cons x w ih=>
  intro k m h1 h2 h3;obtain⟨m,rfl⟩: ∃m',m=m'+1:=⟨m-1,by simp at h2;omega⟩
  rw[rY,aES];obtain⟨a1,a2,a3⟩:=bB h1;have e3:decide ((k:Int)<(s.length:Int))=true:=by simp;omega
  have e4:csI (x.toNat:Int)=true:=h3 x (mhE ..);rw[e3,aJ,aK,a1,eC,hc,eE,aAx,aAB,e4,aJ,eD (by omega)]
  rw[ih (k+1) m a3 (by simp at h2;omega) fun z hz=>h3 z (mtE _ hz)]
  simp only[lcS];congr 4;omega
theorem Wd_ok{s w r:List UInt8}{k L n:Nat}(hb:s.length<1000000000)(hL:s.length<L)(h:s.drop k=w++r)(hw: ∀x∈w,csI (u8 x)=true)(hr: ∀y,r.head?=some y→csI (u8 y)=false):
    CTp L (n+2) 156 [yT s,yI (k:Int)]=some [yI ((k+w.length:Nat):Int)]:=by
 have:=congrArg List.length h;simp at this;show CTp L (n+1+1) 156 _=_;rw[c156,F156,aJN];exact Wd_loop (fun x=>Cs_ok x L n) hb hr w k L h (by omega) hw
theorem Sk_loop{c:TC0}{L:Nat}{s r:List UInt8}(hc: ∀x,c 151 [⟨.int .u8,x⟩]=some [yB (blI x)])
    (hh: ∀k:Nat,k≤s.length→(∀x,s[k]?=some x→u8 x≠35)→c 152 [yT s,yI (k:Int),⟨.int .u8,(35:Int)⟩,⟨.int .u8,(124:Int)⟩]=some [yB false])
    (hb:s.length<1000000000) (hr: ∀y,r.head?=some y→blI (u8 y)=false∧u8 y≠59∧u8 y≠35):
    ∀(w:List UInt8) (k m:Nat),s.drop k=w++r→w.length<m→(∀x∈w,blI (u8 x)=true)→mQ c L m s (k:Int)=some [yI ((k+w.length:Nat):Int),yB true]:=by
 intro w;induction w with
 |nil=>
  intro k m h1 h2 _;obtain⟨m,rfl⟩: ∃m',m=m'+1:=⟨m-1,by simp at h2;omega⟩
  rw[mQ,aET];rw[nlA]at h1;cases r with
  |nil=>
   have e1:=bC h1;have e3:decide ((k:Int)<(s.length:Int))=false:=by simp;omega
   rw[e3,aF];rfl
  |cons y r=>
   obtain⟨a1,a2,a3⟩:=bB h1;have e3:decide ((k:Int)<(s.length:Int))=true:=by simp;omega
   obtain⟨e4,e5,e6⟩:=hr y rfl;have e4:blI (y.toNat:Int)=false:=e4;have e7:decide ((y.toNat:Int)=59)=false:=by simpa [u8]using e5
   have h8:=hh k (by omega) fun x hx=>by rw[a1]at hx;cases hx;exact e6
   rw[e3,aJ,aK,a1,eC,hc,eE,e4,aF,eC,e7,aF,h8,eE,aF];rfl
 |cons x w ih=>
  intro k m h1 h2 h3;obtain⟨m,rfl⟩: ∃m',m=m'+1:=⟨m-1,by simp at h2;omega⟩
  rw[mQ,aET];obtain⟨a1,a2,a3⟩:=bB h1;have e3:decide ((k:Int)<(s.length:Int))=true:=by simp;omega
  have e4:blI (x.toNat:Int)=true:=h3 x (mhE ..);rw[e3,aJ,aK,a1,eC,hc,eE,e4,aJ,eD (by omega)]
  rw[ih (k+1) m a3 (by simp at h2;omega) fun z hz=>h3 z (mtE _ hz)]
  simp only[lcS];congr 4;omega
theorem Sk_ok{s w r:List UInt8}{k L n:Nat}(hb:s.length<1000000000)(hL:s.length<L)(h:s.drop k=w++r)(hw: ∀x∈w,blI (u8 x)=true)(hr: ∀y,r.head?=some y→blI (u8 y)=false∧u8 y≠59∧u8 y≠35):
    CTp L (n+2) 127 [yT s,yI (k:Int)]=some [yI ((k+w.length:Nat):Int),yB true]:=by
 have:=congrArg List.length h;simp at this;show CTp L (n+1+1) 127 _=_;rw[c127,F127,aJV];exact Sk_loop (fun x=>Bl_ok x L n) (fun k h6 hk=>has_no hb h6 hk L n) hb hr w k L h (by omega) hw
end Go.TV
namespace Go.TV
open Go.AI Go.PI Go.Proofs
theorem slc_nat{α:Type}{s w r:List α}{k:Nat}(h:s.drop k=w++r)(hk:k≤s.length):slc s (k:Int) ((k+w.length:Nat):Int)=some w:=by
 have hl:=congrArg List.length h;simp at hl;unfold slc;have e1:decide ((0:Int)≤(k:Int))=true:=by simp
 have e2:decide ((k:Int)≤((k+w.length:Nat):Int))=true:=by simp;omega
 have e3:decide (((k+w.length:Nat):Int)≤(s.length:Int))=true:=by simp only[djE];omega
 rw[e1,e2,e3];simp only[Bool.and_self,cdt,Int.toNat_natCast,ojE];rw[List.drop_take,h];simp
theorem obL_nm{β:Type}{a b:List UInt8}{d:Bool}{K:List UInt8×List UInt8×Bool×Unit→Option β}:obL (D:=U0.D) [.str,.str,.bool] (some [yT a,yT b,yB d]) K=K (a,b,d,()):=rfl
theorem obL_se{β:Type}{a:G.X}{K:G.X×Unit→Option β}:obL (D:=U0.D) [.rc 20] (some [yR 20 a]) K=K (a,()):=rfl
theorem aDx{β:Type}{a:Int}{b:Bool}{K:Int×Bool×Unit→Option β}:obL (D:=U0.D) [.int .i64,.bool] (some [yI a,yB b]) K=K (a,b,()):=rfl
theorem obL_i{β:Type}{a:Int}{K:Int×Unit→Option β}:obL (D:=U0.D) [.int .i64] (some [yI a]) K=K (a,()):=rfl
theorem obL_s{β:Type}{a:List UInt8}{K:List UInt8×Unit→Option β}:obL (D:=U0.D) [.str] (some [yT a]) K=K (a,()):=rfl
theorem obL_s2{β:Type}{a b:List UInt8}{K:List UInt8×List UInt8×Unit→Option β}:obL (D:=U0.D) [.str,.str] (some [yT a,yT b]) K=K (a,b,()):=rfl
theorem obL_on{β:Type}{a:G.K}{b:Int}{d:G.X}{K:G.K×Int×G.X×Unit→Option β}:obL (D:=U0.D) [.rc 22,.int .i64,.rc 20] (some [yR 22 a,yI b,yR 20 d]) K=K (a,b,d,()):=rfl
theorem Nm_no{x:UInt8}{w:List UInt8}(h1:u8 x≠45)(h2:u8 x<48∨57<u8 x)(L n:Nat):CTp (L+1) (n+1) 158 [yT (x::w)]=some [yT [],yT [],yB false]:=by
 rw[c158];have e1:decide ((0:Int)<((x::w).length:Int))=true:=by simp
 have e2:decide ((x.toNat:Int)=45)=false:=by simpa [u8]using h1
 have e3:idx (x::w) (0:Int)=some x:=rfl;rw[F158,aJM,e1,aJ,e3,eC,e2,aJx,aJL,aF,aJw,aJK,uF,aJJ,e1,aJ,e3,eC];have key: ∀b:Bool,b=false→aJv (CTp (L+1) n) (L+1) (uF (CTp (L+1) n) (L+1) L) b 0 (x::w) 0=some [yT [],yT [],yB false]:=by
  intro b hb;subst hb;rfl
 cases h3:decide ((48:Int)≤(x.toNat:Int))with
 |false=>exact key _ rfl
 |true=>
  rw[aJ,eC];have h4:decide ((x.toNat:Int)≤(57:Int))=false:=by
   simp only[djE]at h3;simp only[dfN];simp only[u8]at h2;omega
  exact key _ h4
theorem Nd_ok{k p:Int}{w:List UInt8}(h:w.length≤40)(L n:Nat):CTp L (n+1) 154 [yR 22 ⟨k,p,[],w,[]⟩,yB false]=some [yR 20 ⟨0,0⟩]:=by
 rw[c154];have e1:decide ((40:Int)<(w.length:Int))=false:=by simp;omega
 simp only[F154,aJQ,e1,aF];rfl
structure NumW(c:TC0)(w:List UInt8):Prop where
 a:c 158 [yT w]=some [yT w,yT [49],yB true]
 b:c 159 [yT [49]]=some [yT [49]]
 d:c 159 [yT w]=some [yT w]
 e:c 86 [yT w,yT [49]]=some [yT w,yT [49]]
 f:c 160 [yT w]=some [yI 1]
 g:c 160 [yT [49]]=some [yI 1]
def SyW(w:List UInt8):Prop:= ∃x l,w=x::l∧u8 x≠45∧(u8 x<48∨57<u8 x)∧w≠ [46]∧w.length≤40
theorem aH6{x:Int}(h:csI x=true):x≠40∧x≠41∧x≠39∧x≠34∧x≠59∧x≠124∧x≠58:=by
 simp only[csI,bjE,Bool.not_eq_true',dfN]at h;obtain⟨⟨⟨⟨⟨⟨⟨_,h1⟩,h2⟩,h3⟩,h4⟩,h5⟩,h6⟩,h7⟩:=h;exact⟨h1,h2,h3,h4,h5,h6,h7⟩
def wtk(b:Bool)(p:Int)(w:List UInt8):G.K:=bif b then⟨5,p,[],w,[49]⟩else⟨6,p,[],w,[]⟩
theorem On_w{s w r:List UInt8}{k L n:Nat}{nu:Bool}(hb:s.length<1000000000)(hL:s.length<L)(h:s.drop k=w++r)(h0:w≠ [])(hw: ∀x∈w,csI (u8 x)=true)(hr: ∀y,r.head?=some y→csI (u8 y)=false∧u8 y≠58)
    (hk:(nu=true∧NumW (CTp L (n+2)) w)∨(nu=false∧SyW w)):
    CTp L (n+3) 128 [yT s,yI (k:Int)]=some [yR 22 (wtk nu (k:Int) w),yI ((k+w.length:Nat):Int),yR 20 ⟨0,0⟩]:=by
 have hl:=congrArg List.length h;simp at hl;obtain⟨L,rfl⟩: ∃L',L=L'+1:=⟨L-1,by omega⟩
 cases hw0:w with
 |nil=>exact(h0 hw0).elim
 |cons x l=>
  rw[←hw0];have hx:x∈w:=by rw[hw0];exact mhE ..
  have h1:s.drop k=x::(l++r):=by rw[h,hw0];rfl
  obtain⟨a1,a2,a3⟩:=bB h1;obtain⟨q1,q2,q3,q4,q5,q6,q7⟩:=aH6 (hw x hx);have d1:decide ((x.toNat:Int)=40)=false:=by simpa [u8]using q1
  have d2:decide ((x.toNat:Int)=41)=false:=by simpa [u8]using q2
  have d3:decide ((x.toNat:Int)=39)=false:=by simpa [u8]using q3
  have d4:decide ((x.toNat:Int)=34)=false:=by simpa [u8]using q4
  have d5:decide ((x.toNat:Int)=124)=false:=by simpa [u8]using q6
  have d6:csI (x.toNat:Int)=true:=hw x hx;have hwd:=Wd_ok (n:=n) hb hL h hw (fun y hy=>(hr y hy).1)
  have hsl:=slc_nat h (by omega)
  have hhs:CTp (L+1) (n+2) 152 [yT s,yI ((k+w.length:Nat):Int),⟨.int .u8,(58:Int)⟩,⟨.int .u8,(58:Int)⟩]=some [yB false]:=by
   refine has_no hb (by omega) (fun y hy=>?_) (L+1) (n+1)
   have:s.drop (k+w.length)=r:=by rw[←List.drop_drop,h];simp
   rw[←List.head?_drop,this]at hy;exact(hr y hy).2
  show CTp (L+1) (n+2+1) 128 _=_;rw[c128,F128,aAC,aK,a1,eC,d1,aF,d2,aF,d3,aF,d4,aF,d5,aF,Cs_ok,eE,d6];simp only[bnT,aF];rw[hwd,obL_i];show ob (slc s (k:Int) ((k+w.length:Nat):Int)) _=_;rw[hsl,eC,hhs,eE,aF];rcases hk with⟨rfl,hn⟩|⟨rfl,x',l',e1,e2,e3,e4,e5⟩
  ·rw[hn.a,obL_nm];have e4:decide (w=([46]:List UInt8))=false:=by
    cases hd:decide (w=([46]:List UInt8))with
    |false=>rfl
    |true=>
     exfalso;simp only[djE]at hd;have h2:=hn.a;rw[hd]at h2;rw[Nm_no (x:=46) (w:=[]) (by decide) (by decide)]at h2
     cases h2
   rw[e4,aF];simp only[aJ];rw[hn.b,obL_s];show cnd (decide (([49]:List UInt8)=[48])) _ _=_;rw[show decide (([49]:List UInt8)=[48])=false by decide,aF,hn.d,obL_s,obL_s]
   show obL (D:=U0.D) [.str,.str] (CTp (L+1) (n+2) 86 [yT w,yT [49]]) _=_;rw[hn.e,obL_s2];show obL (D:=U0.D) [.int .i64] (CTp (L+1) (n+2) 160 [yT w]) _=_;rw[hn.f,obL_i];show cnd (decide ((100:Int)<1)) _ _=_;rw[show decide ((100:Int)<1)=false by decide,aF]
   show obL (D:=U0.D) [.int .i64] (CTp (L+1) (n+2) 160 [yT [49]]) _=_;rw[hn.g,obL_i];rfl
  ·rw[e1,Nm_no e2 e3,←e1,obL_nm];have e6:decide (w=([46]:List UInt8))=false:=by simpa using e4
   rw[e6,aF];simp only[aF];rw[Nd_ok e5,obL_se];rfl
theorem On_op{s r:List UInt8}{k L n:Nat}(hb:s.length<1000000000)(h:s.drop k=40::r):CTp L (n+1) 128 [yT s,yI (k:Int)]=some [yR 22 ⟨1,(k:Int),[],[],[]⟩,yI ((k+1:Nat):Int),yR 20 ⟨0,0⟩]:=by
 obtain⟨a1,a2,a3⟩:=bB h;rw[c128,F128,aAC,aK,a1,eC,eD (by omega)]
 rfl
theorem On_cl{s r:List UInt8}{k L n:Nat}(hb:s.length<1000000000)(h:s.drop k=41::r):CTp L (n+1) 128 [yT s,yI (k:Int)]=some [yR 22 ⟨2,(k:Int),[],[],[]⟩,yI ((k+1:Nat):Int),yR 20 ⟨0,0⟩]:=by
 obtain⟨a1,a2,a3⟩:=bB h;rw[c128,F128,aAC,aK,a1,eC,eD (by omega)]
 rfl
end Go.TV
namespace Go.TV
open Go.AI Go.PI Go.Proofs
theorem obL_lr{β:Type}{b:List G.R}{K:List G.R×Unit→Option β}:obL (D:=U0.D) [.sl (.rc 21)] (some [yS 21 b]) K=K (b,()):=rfl
def rowsL:List G.R:=match B87x0 (fun _ _=>none)with
 |some l=>(match dB (D:=U0.D) [.sl (.rc 21)] l with|some r=>r.1|none=>[])
 |none=>[]
theorem rows_ok{L n:Nat}:CTp L (n+1) 87 []=some [yS 21 rowsL]:=by
 rw[c87];rfl
theorem rows_len:rowsL.length<1000:=by decide+kernel
def rS(s:List UInt8):List G.R→Option Int
 |[]=>none
 |r::l=>if r.name=s then some r.arity else rS s l
def arity(s:G.Y):Option Int:=if s.package=qU then rS s.name rowsL else none
def oI(o:Option Int):TVs:=match o with
 |some k=>[yI k,yB true]
 |none=>[yI (0:Int),yB false]
theorem Ar_loop{c:TC0}{L:Nat}{t:G.Y}{a:List G.R}(hb:a.length<1000000000): ∀(l:List G.R) (k m:Nat),a.drop k=l→l.length<m→
    aCw c L m a (k:Int) t=some (oI (rS t.name l)):=by
 intro l;induction l with
 |nil=>
  intro k m h1 h3;obtain⟨m,rfl⟩: ∃m',m=m'+1:=⟨m-1,by simp at h3;omega⟩
  have e1:=bC h1;have e3:decide ((k:Int)<(a.length:Int))=false:=by simp;omega
  rw[aCw,B56x1,e3,aF];rfl
 |cons x l ih=>
  intro k m h1 h3;obtain⟨m,rfl⟩: ∃m',m=m'+1:=⟨m-1,by simp at h3;omega⟩
  obtain⟨a1,a2,a3⟩:=bB h1;have e3:decide ((k:Int)<(a.length:Int))=true:=by simp;omega
  rw[aCw,B56x1,e3,aJ,aK,a1,eC,eD (by omega),rS]
  by_cases e:x.name=t.name
  ·simp only[e,decide_true,aJ,eC,if_true,oI]
  ·simp only[e,decide_false,aF,if_false];exact ih (k+1) m a3 (by simp at h3;omega)
theorem ArR_ok(s:G.Y)(L n:Nat)(hL:1000≤L):CTp L (n+2) 56 [yR 1 s]=some (oI (arity s)):=by
 have hl:=rows_len;rw[c56,F56,B56x0];by_cases e:s.package=qU
 ·have e':decide (s.package=([108,105,115,112]:List UInt8))=true:=decide_eq_true e;have ea:arity s=rS s.name rowsL:=by simp[arity,e]
  rw[e',ea,rows_ok,obL_lr];exact Ar_loop (a:=rowsL) (by omega) rowsL 0 L rfl (by omega)
 ·have e':decide (s.package=([108,105,115,112]:List UInt8))=false:=decide_eq_false e;have ea:arity s=none:=by simp[arity,e]
  rw[e',ea];rfl
end Go.TV
namespace Go.TV
open Go.AI Go.PI Go.Proofs
structure dH(s:G.Z):Prop where
 b: ∀x∈s.b,0≤x∧x<256
 p0:0≤s.pos
 p1:s.pos≤(s.b.length:Int)
 l:s.b.length≤100
def NxR(x:Rt)(a:Int):Prop:= ∃(r:Int) (s:G.Z),x=some [yI r,yR 0 s]∧0≤r∧r<a∧dH s
theorem kT{β:Type}{a:Int}{b:G.Z}{K:Int×G.Z×Unit→Option β}:obL (D:=U0.D) [.int .i64,.rc 0] (some [yI a,yR 0 b]) K=K (a,b,()):=rfl
theorem Nx_ok{s:G.Z}{a:Int}{L n:Nat}(h:dH s)(h1:1≤a):NxR (CTp L (n+1) 14 [yI a,yR 0 s]) a:=by
 rw[c14,F14,B14x0];cases e1:decide ((s.b.length:Int)≤s.pos)with
 |true=>exact⟨0,s,rfl,Int.le_refl _,by omega,h⟩
 |false=>
  have e2:decide (a<(1:Int))=false:=by simp;omega
  simp only[dfN]at e1;rw[aF,e2,J14x1,B14x1,aF];obtain⟨k,hk⟩: ∃k:Nat,s.pos=(k:Int):=⟨s.pos.toNat,by have:=h.p0;omega⟩
  have hl:=h.l;have hkl:k<s.b.length:=by omega
  have e3:s.b[k]?=some s.b[k]:=geG hkl;obtain⟨q1,q2⟩:=h.b s.b[k] (List.getElem_mem hkl);generalize s.b[k]=v at e3 q1 q2;have e4:IntKind.i64.wrap (((k+1:Nat):Int)-1)=(k:Int):=by
   rw[show((k+1:Nat):Int)-1=(k:Int) by omega];exact wrapn (by omega)
  obtain⟨m,rfl⟩: ∃m:Nat,v=(m:Int):=⟨v.toNat,by omega⟩
  rw[hk,eD (by omega),e4,aK,e3,eC,show decide (a=0)=false by simp;omega]
  simp only[Bool.not_false,aFr];rw[wrapn (by omega)]
  exact⟨_,_,rfl,Int.tmod_nonneg _ q1,Int.tmod_lt_of_pos _ (by omega),⟨h.b,by show(0:Int)≤((k+1:Nat):Int);omega,by show((k+1:Nat):Int)≤(s.b.length:Int);omega,h.l⟩⟩
def fns(e:G.E):List G.F:=bif decide (e.kind=3)||decide (e.kind=5)||decide (e.kind=6)||decide (e.kind=7)then e.functions else []
theorem Fn_ok(e:G.E)(L n:Nat):CTp L (n+1) 89 [yR 16 e]=some [yS 8 (fns e)]:=by
 rw[c89];simp only[F89,B89x0,J89x1,B89x1,fns];generalize decide (e.kind=3)=a,decide (e.kind=5)=b,decide (e.kind=6)=d,decide (e.kind=7)=f;cases a<;>cases b<;>cases d<;>cases f<;>rfl
def PlR(E:List G.E)(x:Rt):Prop:= ∃(i k:Int) (b:Bool),x=some [yI i,yI k,yB b]∧(b=true→∃(i' k':Nat) (e:G.E),i=i'∧k=k'∧E[i']?=some e∧k'<(fns e).length)
theorem obL_fl{β:Type}{a:List G.F}{K:List G.F×Unit→Option β}:obL (D:=U0.D) [.sl (.rc 8)] (some [yS 8 a]) K=K (a,()):=rfl
theorem Pl_in{E:List G.E}{f:G.Y}{c:TC0}{L:Nat}{n1:List G.E→Int→G.Y→Rt}{i:Nat}{e:G.E}(he:E[i]?=some e)(hb:(fns e).length<1000000000)(hn:PlR E (n1 E (IntKind.i64.wrap ((i:Int)+1)) f)):
    ∀(r:List G.F) (k m:Nat),(fns e).drop k=r→r.length<m→PlR E (aCq c L n1 m (fns e) (k:Int) (i:Int) E f):=by
 intro r;induction r with
 |nil=>
  intro k m h1 h2;obtain⟨m,rfl⟩: ∃m',m=m'+1:=⟨m-1,by simp at h2;omega⟩
  have e1:=bC h1;have e3:decide ((k:Int)<((fns e).length:Int))=false:=by simp;omega
  rw[aCq,B88x2,e3,aF];exact hn
 |cons x r ih=>
  intro k m h1 h2;obtain⟨m,rfl⟩: ∃m',m=m'+1:=⟨m-1,by simp at h2;omega⟩
  obtain⟨a1,a2,a3⟩:=bB h1;have e3:decide ((k:Int)<((fns e).length:Int))=true:=by simp;omega
  rw[aCq,B88x2,e3,aJ,aK,a1,eC,eD (by omega)]
  cases decide (x.name=f)with
  |true=>exact⟨_,_,true,rfl,fun _=>⟨i,k,e,rfl,rfl,he,a2⟩⟩
  |false=>exact ih (k+1) m a3 (by simp at h2;omega)
theorem Pl_out{E:List G.E}{f:G.Y}{c:TC0}{L:Nat}(hb:E.length<1000000)(hf: ∀e∈E,(fns e).length<L∧(fns e).length<1000000)(hc: ∀e:G.E,c 89 [yR 16 e]=some [yS 8 (fns e)]):
    ∀(r:List G.E) (k m:Nat),E.drop k=r→r.length<m→PlR E (aCr c L m E (k:Int) f):=by
 intro r;induction r with
 |nil=>
  intro k m h1 h2;obtain⟨m,rfl⟩: ∃m',m=m'+1:=⟨m-1,by simp at h2;omega⟩
  have e1:=bC h1;have e3:decide ((k:Int)<(E.length:Int))=false:=by simp;omega
  rw[aCr,B88x1,e3,aF];exact⟨0,0,false,rfl,fun h=>by cases h⟩
 |cons x r ih=>
  intro k m h1 h2;obtain⟨m,rfl⟩: ∃m',m=m'+1:=⟨m-1,by simp at h2;omega⟩
  obtain⟨a1,a2,a3⟩:=bB h1;have e3:decide ((k:Int)<(E.length:Int))=true:=by simp;omega
  rw[aCr,B88x1,e3,aJ,aK,a1,eC,hc,obL_fl];obtain⟨g1,g2⟩:=hf x (List.mem_of_getElem? a1);refine Pl_in a1 (by omega) ?_ (fns x) 0 L rfl g1
  rw[eD (by omega)]
  exact ih (k+1) m a3 (by simp at h2;omega)
structure WOK(E:List G.E):Prop where
 l:E.length≤1000
 f: ∀e∈E,e.functions.length≤1000
 p: ∀e∈E,∀f∈e.functions,f.params.length≤3
theorem fns_mem{e:G.E}{f:G.F}(h:f∈fns e):f∈e.functions:=by
 unfold fns at h;revert h;cases decide (e.kind=3)||decide (e.kind=5)||decide (e.kind=6)||decide (e.kind=7)with
 |true=>exact id
 |false=>intro h;cases h
theorem fns_len(e:G.E):(fns e).length≤e.functions.length:=by
 unfold fns;cases decide (e.kind=3)||decide (e.kind=5)||decide (e.kind=6)||decide (e.kind=7)with
 |true=>exact nlR _
 |false=>exact Nat.zero_le _
theorem obL_pl{β:Type}{a b:Int}{d:Bool}{K:Int×Int×Bool×Unit→Option β}:obL (D:=U0.D) [.int .i64,.int .i64,.bool] (some [yI a,yI b,yB d]) K=K (a,b,d,()):=rfl
theorem obL_fb{β:Type}{a:G.F}{d:Bool}{K:G.F×Bool×Unit→Option β}:obL (D:=U0.D) [.rc 8,.bool] (some [yR 8 a,yB d]) K=K (a,d,()):=rfl
theorem Fu_ok{E:List G.E}(hE:WOK E)(f:G.Y){L n:Nat}(hL:2000≤L): ∃(g:G.F) (b:Bool),CTp L (n+3) 57 [yS 16 E,yR 1 f]=some [yR 8 g,yB b]∧g.params.length≤3:=by
 have h94:PlR E (CTp L (n+2) 88 [yS 16 E,yR 1 f]):=by
  show PlR E (CTp L (n+1+1) 88 _);rw[c88,F88,B88x0];have:=hE.l;exact Pl_out (by omega) (fun e he=>by have:=hE.f e he;have:=fns_len e;omega) (fun e=>Fn_ok e L n) E 0 L rfl (by omega)
 obtain⟨i,k,b,h94,hb⟩:=h94;show∃(g:G.F) (b:Bool),CTp L (n+2+1) 57 _=_∧_;rw[c57,F57,B57x0,h94,obL_pl];cases b with
 |false=>exact⟨_,_,rfl,Nat.zero_le _⟩
 |true=>
  obtain⟨i',k',e,rfl,rfl,h1,h2⟩:=hb rfl;have h3:(fns e)[k']?=some (fns e)[k']:=geG h2;simp only[bnT,aF];rw[aK,h1,eC,Fn_ok,obL_fl];simp only[aK,h3,eC];exact⟨_,_,rfl,hE.p e (List.mem_of_getElem? h1) _ (fns_mem (List.getElem_mem h2))⟩
theorem rows_ar:(rowsL.all fun r=>decide (0≤r.arity)&&decide (r.arity≤3))=true:=by kernel_rfl
theorem aAd: ∀(l:List G.R),(l.all fun r=>decide (0≤r.arity)&&decide (r.arity≤3))=true→∀s k,rS s l=some k→0≤k∧k≤3
 |[],_,s,k,h=>by cases h
 |r::l,h,s,k,hk=>by
  simp only[alC,bjE,djE]at h;simp only[rS]at hk;split at hk
  ·simp only[ojE]at hk;subst hk;exact h.1
  ·exact aAd l h.2 s k hk
def ArR(x:Rt):Prop:= ∃(k:Nat) (b:Bool),x=some [yI (k:Int),yB b]∧k≤3
theorem Ar_ok{E:List G.E}(hE:WOK E)(f:G.Y){L n:Nat}(hL:2000≤L):ArR (CTp L (n+4) 21 [yS 16 E,yR 1 f]):=by
 have h55:=ArR_ok f L (n+1) (by omega)
 show ArR (CTp L (n+3+1) 21 _);rw[c21,F21,B21x0];show ArR (obL (D:=U0.D) [.int .i64,.bool] (CTp L (n+1+2) 56 [yR 1 f]) _);rw[h55];cases ha:arity f with
 |some k=>
  obtain⟨g1,g2⟩:0≤k∧k≤3:=by
   unfold arity at ha;split at ha
   ·exact aAd rowsL rows_ar _ _ ha
   ·cases ha
  obtain⟨m,rfl⟩: ∃m:Nat,k=(m:Int):=⟨k.toNat,by omega⟩
  exact⟨m,true,rfl,by omega⟩
 |none=>
  simp only[oI];rw[aDx,aF];obtain⟨g,b,h1,h2⟩:=Fu_ok (n:=n) hE f hL;rw[h1,obL_fb];cases b with
  |false=>exact⟨0,false,rfl,by omega⟩
  |true=>exact⟨g.params.length,true,rfl,h2⟩
end Go.TV
namespace Go.TV
open Go.AI Go.PI Go.Proofs
set_option maxRecDepth 20000
theorem call_o{P:Program}{T:TP U0.D}{l:List (Nat×Ins)}{i:Nat}{x:Ins}(hx:pM l i=some x)(hs:T.sig i=some x.sig)(hb:(okS T.orc x.sig&&Nat.ble x.sig.bx.length 100&&aG6 x.sig.bx.length x.sig.bx)=true)(L n:Nat)(d:TVs){y:OV}(ho:orT U0 T.orc x.sig d=some y):
    zY U0 T (aGe P l) L (n+1) i d=some [ovT U0 y]:=by
 have hg:aGe P l i=some (dW x.sk (fV P x.sig.f),uV P x.sig.f):=by simp only[aGe,hx]
 simp only[zY,hs,hg,hb,cdt,ho]
def Kf:TC0:=fun i d=>bif Nat.beq i 169 then(match orT U0 orcI ii169.sig d with|some x=>some [ovT U0 x]|none=>none)else none
noncomputable def cF(L M k:Nat):TC0:=evB Kf (upT (L+7000) M) (L+7000) k
theorem aIk(L M k:Nat):cF L M k=CTp (L+7000) (M+k):=aD0 (fun n i d r h=>by
 unfold Kf at h;cases hb:Nat.beq i 169 with
 |false=>rw[hb]at h;cases h
 |true=>
  rw[hb,cdt]at h;split at h
  ·rename_i x hx;simp only[ojE]at h;subst h;rw[nqE hb];exact call_o (x:=ii169) (by kernel_rfl) (by kernel_rfl) (by kernel_rfl) _ _ d hx
  ·cases h) k
def lU:List UInt8:=[117,115,101,114]
def zrO:G.O:=⟨0,[],[],⟨[],[]⟩,[],[]⟩
def tV(w:List UInt8):G.T:=⟨1,⟨lU,w⟩,zrO,[]⟩
def tA(f:G.Y)(l:List G.T):G.T:=⟨3,f,zrO,l⟩
def tC(o:G.O):G.T:=⟨2,⟨[],[]⟩,o,[]⟩
def niO:G.O:=⟨2,[],[],⟨qU,[110,105,108]⟩,[],[]⟩
def cnO(a b:G.O):G.O:=⟨4,[],[],⟨[],[]⟩,[],[a,b]⟩
def ObR(x:Rt):Prop:= ∃o:G.O,x=some [yR 2 o]∧osz o+aEh o≤20
def nmL(l:List (List UInt8)):Bool:=l.all fun w=>Nat.ble 1 w.length&&Nat.ble w.length 20
theorem nmL_at{l:List (List UInt8)}(h:nmL l=true){w:List UInt8}(hw:w∈l):1≤w.length∧w.length≤20:=by
 have:=List.all_eq_true.1 h w hw;simp only[bjE,Nat.ble_eq]at this;exact this
def chO(r:Rt):Bool:=match r with|some [⟨.rc 2,o⟩]=>Nat.ble (osz o+aEh o) 20|_=>false
theorem rO{r:Rt}(h:chO r=true):ObR r:=by
 unfold chO at h;split at h
 ·rename_i o;exact⟨o,rfl,Nat.le_of_ble_eq_true h⟩
 ·cases h
section
variable(L M:Nat)
theorem v_ok(w:List UInt8):cF L M 60 10 [yT w]=some [yR 3 (tV w)]:=by kernel_rfl
theorem l_ok(w:List UInt8)(l:List G.T):cF L M 60 11 [yT w,yS 3 l]=some [yR 3 (tA ⟨qU,w⟩ l)]:=by kernel_rfl
theorem a_ok(f:G.Y)(l:List G.T):cF L M 60 22 [yR 1 f,yS 3 l]=some [yR 3 (tA f l)]:=by kernel_rfl
theorem k_ok(o:G.O):cF L M 60 17 [yR 2 o]=some [yR 3 (tC o)]:=by kernel_rfl
theorem u_ok(w:List UInt8):cF L M 60 4 [yT w]=some [yR 1 ⟨lU,w⟩]:=by kernel_rfl
theorem s_ok(w:List UInt8):cF L M 60 20 [yT w]=some [yR 1 ⟨qU,w⟩]:=by kernel_rfl
theorem cn_ok(a b:G.O):cF L M 60 54 [yR 2 a,yR 2 b]=some [yR 2 (cnO a b)]:=by kernel_rfl
theorem li0_ok:cF L M 60 55 [yS 2 []]=some [yR 2 niO]:=by kernel_rfl
theorem li1_ok(a:G.O):cF L M 60 55 [yS 2 ([a]:List G.O)]=some [yR 2 (cnO a niO)]:=by kernel_rfl
theorem li2_ok(a b:G.O):cF L M 60 55 [yS 2 ([a,b]:List G.O)]=some [yR 2 (cnO a (cnO b niO))]:=by kernel_rfl
theorem li3_ok(a b d:G.O):cF L M 60 55 [yS 2 ([a,b,d]:List G.O)]=some [yR 2 (cnO a (cnO b (cnO d niO)))]:=by kernel_rfl
theorem ob_n:ObR (cF L M 60 48 []):=rO (by kernel_rfl)
theorem ob_t:ObR (cF L M 60 49 []):=rO (by kernel_rfl)
theorem ob_i(r:Int)(h0:0≤r)(h1:r<7):ObR (cF L M 60 50 [yI (IntKind.i64.wrap (r-3))]):=by
 obtain rfl|rfl|rfl|rfl|rfl|rfl|rfl:r=0∨r=1∨r=2∨r=3∨r=4∨r=5∨r=6:=by omega
 all_goals exact rO (by kernel_rfl)
theorem ob_0:ObR (cF L M 60 50 [yI (0:Int)]):=rO (by kernel_rfl)
theorem ob_1:ObR (cF L M 60 50 [yI (1:Int)]):=rO (by kernel_rfl)
theorem ob_q1:ObR (cF L M 60 51 [yT ([49]:List UInt8),yT ([50]:List UInt8)]):=rO (by kernel_rfl)
theorem ob_q2:ObR (cF L M 60 51 [yT ([45,53]:List UInt8),yT ([51]:List UInt8)]):=rO (by kernel_rfl)
theorem ob_s1(y:G.Y)(h:aA2 y=true):ObR (cF L M 60 52 [yR 1 y]):=⟨⟨2,[],[],y,[],[]⟩,by kernel_rfl,by simp[osz,iV,badO_y,wS,h,aAc]⟩
theorem ob_x(w:List UInt8)(h:okX w=true):ObR (cF L M 60 53 [yT w]):=⟨⟨3,[],[],⟨[],[]⟩,w,[]⟩,by kernel_rfl,by simp[osz,iV,badO_x,h,bad0x3]⟩
theorem hd_ok: ∃l:List (List UInt8),cF L M 60 18 []=some [⟨.sl .str,l⟩]∧l.length=25∧nmL l=true:=⟨match B18x0 (fun _ _=>none)with|some (⟨.sl .str,t⟩::_)=>t|_=>[],by kernel_rfl,by kernel_rfl,by kernel_rfl⟩
theorem ow_ok: ∃l:List (List UInt8),cF L M 60 19 []=some [⟨.sl .str,l⟩]∧l.length=8∧nmL l=true:=⟨match B19x0 (fun _ _=>none)with|some (⟨.sl .str,t⟩::_)=>t|_=>[],by kernel_rfl,by kernel_rfl,by kernel_rfl⟩
end
structure Lib(c:TC0):Prop where
 v: ∀w,c 10 [yT w]=some [yR 3 (tV w)]
 l: ∀w (l:List G.T),c 11 [yT w,yS 3 l]=some [yR 3 (tA ⟨qU,w⟩ l)]
 a: ∀(f:G.Y) (l:List G.T),c 22 [yR 1 f,yS 3 l]=some [yR 3 (tA f l)]
 k: ∀o:G.O,c 17 [yR 2 o]=some [yR 3 (tC o)]
 u: ∀w,c 4 [yT w]=some [yR 1 (⟨lU,w⟩:G.Y)]
 s: ∀w,c 20 [yT w]=some [yR 1 (⟨qU,w⟩:G.Y)]
 cn: ∀a b:G.O,c 54 [yR 2 a,yR 2 b]=some [yR 2 (cnO a b)]
 l0:c 55 [yS 2 ([]:List G.O)]=some [yR 2 niO]
 l1: ∀a:G.O,c 55 [yS 2 ([a]:List G.O)]=some [yR 2 (cnO a niO)]
 l2: ∀a b:G.O,c 55 [yS 2 ([a,b]:List G.O)]=some [yR 2 (cnO a (cnO b niO))]
 l3: ∀a b d:G.O,c 55 [yS 2 ([a,b,d]:List G.O)]=some [yR 2 (cnO a (cnO b (cnO d niO)))]
 n:ObR (c 48 [])
 t:ObR (c 49 [])
 i: ∀r:Int,0≤r→r<7→ObR (c 50 [yI (IntKind.i64.wrap (r-3))])
 i0:ObR (c 50 [yI (0:Int)])
 i1:ObR (c 50 [yI (1:Int)])
 q1:ObR (c 51 [yT ([49]:List UInt8),yT ([50]:List UInt8)])
 q2:ObR (c 51 [yT ([45,53]:List UInt8),yT ([51]:List UInt8)])
 sy: ∀y:G.Y,aA2 y=true→ObR (c 52 [yR 1 y])
 x: ∀w,okX w=true→ObR (c 53 [yT w])
 hd: ∃l:List (List UInt8),c 18 []=some [⟨.sl .str,l⟩]∧l.length=25∧nmL l=true
 ow: ∃l:List (List UInt8),c 19 []=some [⟨.sl .str,l⟩]∧l.length=8∧nmL l=true
 nx: ∀(s:G.Z) (a:Int),dH s→1≤a→NxR (c 14 [yI a,yR 0 s]) a
theorem lib_ok(L M:Nat):Lib (CTp (L+7000) (M+60)):=by
 have h: ∀(s:G.Z) (a:Int),dH s→1≤a→NxR (CTp (L+7000) (M+60) 14 [yI a,yR 0 s]) a:=fun s a h1 h2=>Nx_ok (n:=M+59) h1 h2
 rw[←aIk]at h⊢;exact⟨v_ok L M,l_ok L M,a_ok L M,k_ok L M,u_ok L M,s_ok L M,cn_ok L M,li0_ok L M,li1_ok L M,li2_ok L M,li3_ok L M,ob_n L M,ob_t L M,ob_i L M,ob_0 L M,ob_1 L M,ob_q1 L M,ob_q2 L M,ob_s1 L M,ob_x L M,hd_ok L M,ow_ok L M,h⟩
end Go.TV
