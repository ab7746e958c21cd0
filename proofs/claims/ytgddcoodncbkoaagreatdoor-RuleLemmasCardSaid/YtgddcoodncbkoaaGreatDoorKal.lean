import Derived.Test.YtgddcoodncbkoaaGreatDoorKac
import Derived.Test.YtgddcoodncbkoaaGreatDoorKaj
import Derived.Test.YtgddcoodncbkoaaGreatDoorKak
set_option linter.unusedVariables false
set_option linter.unusedSimpArgs false
set_option linter.constructorNameAsVariable false
set_option linter.defProp false
namespace Go.TV
open Go.AI Go.PI Go.Proofs
set_option maxRecDepth 20000
noncomputable def cA:TC0:=aME tpI 5 (CTp 2007000 2007159)
def cA_aw:cA 1 []=some [yB true]:=by kernel_rfl
def cA_wo(d:TVs):cA 2 d=CTp 2007000 2007159 2 d:=by kernel_rfl
def cA_us(d:TVs):cA 4 d=CTp 2007000 2007159 4 d:=by kernel_rfl
def cA_ls(d:TVs):cA 8 d=CTp 2007000 2007159 8 d:=by kernel_rfl
def cA_lm(d:TVs):cA 3 d=CTp 2007000 2007159 3 d:=by kernel_rfl
def cA_nm(d:TVs):cA 7 d=CTp 2007000 2007159 7 d:=by kernel_rfl
def cA_mp(d:TVs):cA 5 d=CTp 2007000 2007159 5 d:=by kernel_rfl
def cA_mr(d:TVs):cA 6 d=CTp 2007000 2007159 6 d:=by kernel_rfl
def cA_rp(d:TVs):cA 10 d=CTp 2007000 2007159 10 d:=by kernel_rfl
def cA_rr(d:TVs):cA 11 d=CTp 2007000 2007159 11 d:=by kernel_rfl
def cA_sm(d:TVs):cA 9 d=CTp 2007000 2007159 9 d:=by kernel_rfl
def row24_tv(b:Int){k d:Int}(hk:0<=k/\k<256)(hd:0<=d/\d<256):F0 cA 2007000 b k d=some [yB true]:=by
 obtain⟨E,h1,h2,h3⟩:=aA8 2000000 2000000 b;refine row24_of ⟨cA_aw,⟨E,?_,λs=>⟨relW E s,?_,?_⟩,λnm f k hf=>?_⟩,?_,λw=>?_,λw=>?_,?_,λr hr=>?_⟩ hk hd
 ·rw[cA_wo];exact h1
 ·rw[cA_rp];exact aJK (B:=1000) (by omega) (by omega) h3
 ·rw[cA_rr];exact aJJ (B:=1000) (by omega) (by omega) h3
 ·rw[cA_mp,cA_mr];exact aKJ (B:=1000) (by omega) (by omega) (by omega) (by omega) (by omega) (by omega) h3 nm f k (by omega)
 ·rw[cA_lm];exact lm_n 2000000 (by omega)
 ·rw[cA_us];have h:=usD 2000000 2007001 w;rw[aEA]at h;exact⟨_,h⟩
 ·rw[cA_ls];have h:=lsD 2000000 2007001 w;rw[aEA]at h;exact⟨_,h⟩
 ·rw[cA_nm];have h:=nmR_ok (nmP 2000000 2007001);rw[aEA]at h;exact h
 ·rw[cA_sm];exact same_ok (M:=1100) (by omega) (by omega) (by omega) hr
def aw_at:(insL.all λx=> !Nat.beq x.2.sig.f 5||Nat.beq x.1 1)=true:=by kernel_rfl
def aw_sg:aC7 insL 1=some (awS 5):=by kernel_rfl
def aw_sig: ∀i s,tpI.sig i=some s->s.f=5->s=awS 5:=λi s h hf=>by
 have h':aC7 insL i=some s:=h;unfold aC7 at h';rw[mjE]at h';obtain⟨x,hx,rfl⟩:=h';have h1:=List.all_eq_true.1 aw_at _ (kP hx);simp only[hf,Nat.beq_refl,bnT,Bool.false_or]at h1;have hi:i=1:=nqE h1;subst hi;have h2:=aw_sg;unfold aC7 at h2;rw[hx]at h2;exact Option.some.inj h2
def law_bx:ii0.sig.bx.length<=100/\okBx ii0.sig.bx.length ii0.sig.bx=true:=⟨Nat.le_of_ble_eq_true (by kernel_rfl),by kernel_rfl⟩
def law_pi(b:Int){k d:Int}(hk:0<=k/\k<256)(hd:0<=d/\d<256): ∃own p',aC6 Tryz.prog (yQ 5 (kU Tryz.prog orcI (sL Go.Rf.cdX insL) 2007000 2007159)) 2007000 (eY ii0.sk (iR Go.Rf.cdX 4)).pc (aBj Go.Rf.cdX 4) [(.v (.int .u32 b),false),(.v (.int .u8 k),false),(.v (.int .u8 d),false)] pK=some (.v (.bool true),own,p'):=by
 have hT:=aGy (U:=U0) (T:=tpI) (P:=Tryz.prog) recOK (ttOK orcI (aC7 insL)) (G:=tabL Go.Rf.cdX insL) (GP:=sL Go.Rf.cdX insL) (λi s code rs h1 h2=>aC4 ka_ok i s code rs h1 h2) arI_ok 2007000 2007159
 have hA:CallOK U0 tpI cA (yQ 5 (kU Tryz.prog orcI (sL Go.Rf.cdX insL) 2007000 2007159)):=aMD hT aw_sig;have h0:xF ii0 cA (cu cA 2007000) [⟨.int .u32,b⟩,⟨.int .u8,k⟩,⟨.int .u8,d⟩]=some [yB true]:=(congrFun (congrFun (congrFun (e0 cA 2007000) b) k) d).trans (row24_tv b hk hd);have h1:pU U0 (cutOf ii0.sig) (λS M=>eV U0 tpI cA 2007000 (eY ii0.sk (iR Go.Rf.cdX ii0.sig.f)) S M (finT U0 tpI ii0.sig (aBj Go.Rf.cdX ii0.sig.f))) [⟨.int .u32,b⟩,⟨.int .u8,k⟩,⟨.int .u8,d⟩]=some [yB true]:=
  (jK _ (λS M=>(exD _ _ _ _).symm) _).trans h0
 obtain⟨pv,own,p',k1,k2⟩:=aFd (U:=U0) (T:=tpI) (P:=Tryz.prog) recOK (ttOK orcI (aC7 insL)) hA law_bx.1 law_bx.2 h1 (p:=pK) (cc:=λ_=>none) (args:=[(.v (.int .u32 b),false),(.v (.int .u8 k),false),(.v (.int .u8 d),false)]) (S0:=[(0,(.val ⟨.int .u32,b⟩,[])),(1,(.val ⟨.int .u8,k⟩,[])),(2,(.val ⟨.int .u8,d⟩,[]))]) (M0:=⟨[],[]⟩) {
  start:=rfl
  len:=rfl
  args:=λi y hy=>by
   match i,hy with
   |0,hy=>cases hy;exact⟨dW (U:=U0) .u32 _,aJ _ _⟩
   |1,hy=>cases hy;exact⟨dW (U:=U0) .u8 _,aJ _ _⟩
   |2,hy=>cases hy;exact⟨dW (U:=U0) .u8 _,aJ _ _⟩
   |i+3,hy=>cases hy
  bx:=λj b h=>by cases h
  dom:=λ_ _=>rfl
  lt:=λj e id h=>by cases h
  inj:=λk k' e e' id h=>by cases h
  wr:=λid h=>by cases h}
 have hpv:pv= .v (.bool true):=of_bool k2.res.1;subst hpv;exact⟨own,p',k1⟩
def law_tab: ∃fn,(Go.Rf.cdX).funcs[4]?=some fn/\fn.body=some (cV (eY ii0.sk (iR Go.Rf.cdX 4)).pc)/\aBj Go.Rf.cdX 4=fn.results.toList/\vZ (eY ii0.sk (iR Go.Rf.cdX 4)).pc/\dC Tryz.prog fn.ntmps (cV (eY ii0.sk (iR Go.Rf.cdX 4)).pc)=true:=by
 refine sJ aF9 kb_ok 4 _ _ ?_;exact aC4 ka_ok 0 ii0.sig _ _ (by kernel_rfl) (by kernel_rfl)
def aKR{β:World}(b:Int){k d:Int}(hk:0<=k/\k<256)(hd:0<=d/\d<256)(ht:Lib.TabIs Tryz.prog β pwN .u64 Lib.pow10Tab)(hz:6<=β.heap.size):
    Calls Tryz.prog 4 #[.int .u32 b,.int .u8 k,.int .u8 d] β λe w'=>e= .returned (.bool true)/\Kept β w':=by
 obtain⟨own,p',hpi⟩:=law_pi b hk hd;obtain⟨fn,g1,g2,g3,g4,g5⟩:=law_tab;rw[g3]at hpi;have hP:=aCi (O:=orcI) rfl (sJ aF9 kb_ok:aHv Tryz.prog Go.Rf.cdX (sL Go.Rf.cdX insL)) 2007000 2007159;obtain⟨u,H',J',I',h1,h2,_⟩:=aFe (aMF (aw:=5) hP) g4 g5 hpi (us:= #[.int .u32 b,.int .u8 k,.int .u8 d]) memK ⟨rfl,λi x w hx hw=>by
  match i,hx,hw with
  |0,hx,hw=>cases hx;cases hw;exact .v _ rfl
  |1,hx,hw=>cases hx;cases hw;exact .v _ rfl
  |2,hx,hw=>cases hx;cases hw;exact .v _ rfl
  |i+3,hx,hw=>cases hx⟩ (λi x w hx _=>by
  match i,hx with
  |0,hx=>cases hx
  |1,hx=>cases hx
  |2,hx=>cases hx
  |i+3,hx=>cases hx)
 have hu:u= .bool true:=by cases h2;rfl
 subst hu;have hC: ∀w1:W0,w1.toWorld=β->AI.CallOK w1 Tryz.prog (aMG 5 (aAL Tryz.prog Go.Rf.cdX orcI 2007000 2007159)):=λw1 hw=>by
  subst hw;exact callA_ok (aAK aF7 (λw0 _=>codeW w0) (aKw ht) 2007000 2007159 w1 rfl) (λw hK=>awk_ok (zN ht hK) (Nat.le_trans hz hK.size))
 have key:Calls Tryz.prog 4 #[.int .u32 b,.int .u8 k,.int .u8 d] β λe w'=> ∃Y' r',e= .returned r'/\AI.VR Y' (.bool true) r'/\Sim (W0.of β) Tryz.prog Y' H' w'/\Ext (stK Tryz.prog).next (muK Tryz.prog) Y'/\(stK Tryz.prog).next<=H'.next:=by
  rcases codeW (W0.of β) 4 fn _ g1 g2 with⟨q1,q2⟩|⟨_,q⟩
  ·exact(sH aF7 q1 g2 q2 (hC _ rfl) h1 (simK (by rw[gl_sz];exact hz)) (VRL.same rfl)).2
  ·exact q _ 2007000 (λw1 hw=>hC w1 hw) _ _ _ _ _ _ _ h1 (simK (by rw[gl_sz];exact hz)) (VRL.same rfl) (by kernel_rfl)
 refine key.mono ?_;rintro e w' ⟨Y',r',rfl,cb,hZ,_,_⟩;have:r'= .bool true:=by cases cb;rfl
 subst this;exact⟨rfl,hZ.kept.toKept⟩
end Go.TV
