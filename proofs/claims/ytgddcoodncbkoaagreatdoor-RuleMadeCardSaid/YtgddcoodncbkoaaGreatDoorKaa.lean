import Derived.Test.YtgddcoodncbkoaaGreatDoorKr
import Derived.Test.YtgddcoodncbkoaaGreatDoorKy
import Derived.Test.YtgddcoodncbkoaaGreatDoorKz
set_option linter.unusedVariables false
set_option linter.unusedSimpArgs false
set_option linter.constructorNameAsVariable false
set_option linter.defProp false
namespace Go.TV
open Go.AI Go.PI Go.Proofs
set_option maxRecDepth 20000
noncomputable def cA:bT:=T5 tpI 5 (bR 60007000 60007159)
def bHa:cA 1 []=some [yB true]:=by kernel_rfl
def bG4(d:pX):cA 2 d=bR 60007000 60007159 2 d:=by kernel_rfl
def bG5(d:pX):cA 4 d=bR 60007000 60007159 4 d:=by kernel_rfl
def bG9(d:pX):cA 3 d=bR 60007000 60007159 3 d:=by kernel_rfl
def bG8(d:pX):cA 5 d=bR 60007000 60007159 5 d:=by kernel_rfl
def bG7(d:pX):cA 6 d=bR 60007000 60007159 6 d:=by kernel_rfl
def bG6(d:pX):cA 7 d=bR 60007000 60007159 7 d:=by kernel_rfl
def aDE(b k:Int){a:List Int}(ha: ∀x∈a,0<=x/\x<256):F0 cA 60007000 b a k=some [yB true]:=by
 obtain⟨E,h1,h2,h3⟩:=GD 60000000 60000000 b;have hl:=wW 60000000 (n:=60007159) (by omega)
 refine aDF ⟨bHa,⟨E,?_,λs hs=>?_,λnm f k hf=>?_⟩,λw=>?_,λr hr=>?_⟩ (by omega) ha
 .rw[bG4];exact h1
 .rw[bG9];exact bM8 60000000 (aWL h2) (by omega) s hs
 .rw[bG8,bG7];exact Xy (B:=1000) (by omega) (by omega) (by omega) (by omega) (by omega) (by omega) h3 nm f k (by omega)
 .rw[bG5];exact⟨_,hl.u w⟩
 .rw[bG6];exact aNL (M:=7100) (by omega) (by omega) (by omega) hr
def bHr:(insL.all λx=> !Nat.beq x.2.sig.f 5||Nat.beq x.1 1)=true:=by kernel_rfl
def bHq:xQ insL 1=some (bO3 5):=by kernel_rfl
def a35: ∀i s,tpI.sig i=some s->s.f=5->s=bO3 5:=λi s h hf=>by
 have h':xQ insL i=some s:=h;unfold xQ at h';rw[aF]at h';obtain⟨x,hx,rfl⟩:=h';have h1:=bJ.1 bHr _ (rI hx);simp only[hf,Nat.beq_refl,bD,Bool.false_or]at h1;have hi:i=1:=aE h1;subst hi;have h2:=bHq;unfold xQ at h2;rw[hx]at h2;exact Option.some.inj h2
def aFE:ii0.sig.bx.length<=100/\D7 ii0.sig.bx.length ii0.sig.bx=true:=⟨bK (by kernel_rfl),by kernel_rfl⟩
def a1E(b k:Int){a:List Int}(ha: ∀x∈a,0<=x/\x<256): ∃own p',DD Tryz.prog (BR 5 (pA Tryz.prog orcI (tY Go.Rf.cdX insL) 60007000 60007159)) 60007000 (gP ii0.sk (lH Go.Rf.cdX 3)).pc (zM Go.Rf.cdX 3) [(.v (.int .u32 b),false),(a7H a,false),(.v (.int .i64 k),false)] p00=some (.v (.bool true),own,p'):=by
 have hT:=Qi (U:=U0) (T:=tpI) (P:=Tryz.prog) aDK (aWz orcI (xQ insL)) (G:=Dz Go.Rf.cdX insL) (GP:=tY Go.Rf.cdX insL) (λi s code rs h1 h2=>IW aFJ i s code rs h1 h2) aHe 60007000 60007159
 have hA:CallOK U0 tpI cA (BR 5 (pA Tryz.prog orcI (tY Go.Rf.cdX insL) 60007000 60007159)):=aCk hT a35;have h0:xF ii0 cA (cu cA 60007000) [⟨.int .u32,b⟩,⟨.sl (.int .u8),a⟩,yI k]=some [yB true]:=(congrFun (congrFun (congrFun (e0 cA 60007000) b) a) k).trans (aDE b k ha);have h1:rG U0 (cutOf ii0.sig) (λS M=>gW U0 tpI cA 60007000 (gP ii0.sk (lH Go.Rf.cdX ii0.sig.f)) S M (aGh U0 tpI ii0.sig (zM Go.Rf.cdX ii0.sig.f))) [⟨.int .u32,b⟩,⟨.sl (.int .u8),a⟩,yI k]=some [yB true]:=
  (pU _ (λS M=>(bIP _ _ _ _).symm) _).trans h0
 have va:VR U0 (.sl (.int .u8)) a (a7H a):=AV (U:=U0) (.int .u8) a rfl rfl;obtain⟨pv,own,p',k1,k2⟩:=NX (U:=U0) (T:=tpI) (P:=Tryz.prog) aDK (aWz orcI (xQ insL)) hA aFE.1 aFE.2 h1 (p:=p00) (cc:=λ_=>none) (args:=[(.v (.int .u32 b),false),(a7H a,false),(.v (.int .i64 k),false)]) (S0:=[(0,(.val ⟨.int .u32,b⟩,[])),(1,(.val ⟨.sl (.int .u8),a⟩,[])),(2,(.val (yI k),[]))]) (M0:=⟨[],[]⟩) {
  start:=rfl
  len:=rfl
  args:=λi y hy=>by
   match i,hy with
   |0,hy=>cases hy;exact⟨gM (U:=U0) .u32 _,cB _ _⟩
   |1,hy=>cases hy;exact⟨va,cB _ _⟩
   |2,hy=>cases hy;exact⟨gM (U:=U0) .i64 _,cB _ _⟩
   |i+3,hy=>cases hy
  bx:=λj b h=>by cases h
  dom:=λ_ _=>rfl
  lt:=λj e id h=>by cases h
  inj:=λk k' e e' id h=>by cases h
  wr:=λid h=>by cases h}
 have hpv:pv= .v (.bool true):=of_bool k2.res.1;subst hpv;exact⟨own,p',k1⟩
def aOF: ∃fn,(Go.Rf.cdX).funcs[3]?=some fn/\fn.body=some (eU (gP ii0.sk (lH Go.Rf.cdX 3)).pc)/\zM Go.Rf.cdX 3=fn.results.toList/\qQ (gP ii0.sk (lH Go.Rf.cdX 3)).pc/\fI Tryz.prog fn.ntmps (eU (gP ii0.sk (lH Go.Rf.cdX 3)).pc)=true:=by
 refine Bb Kv aFI 3 _ _ ?_;exact IW aFJ 0 ii0.sig _ _ (by kernel_rfl) (by kernel_rfl)
def aB6{β:World}{v0:Value}(b k:Int){a:List Int}(ha: ∀x∈a,0<=x/\x<256)(ht:Lib.TabIs Tryz.prog β a0B .u64 Lib.pow10Tab)(hz:6<=β.heap.size)(hv0:bQS β v0 a):
    Calls Tryz.prog 3 #[.int .u32 b,v0,.int .i64 k] β λe w'=>e= .returned (.bool true)/\Kept β w':=by
 obtain⟨q0,u0,h0,r0,s0⟩:=a36 (H:=aNB (aCO a) []) (id:=6) (by rw[zI,bH (by omega),bI rfl]) hv0
 obtain⟨own,p',hpi⟩:=a1E b k ha;obtain⟨fn,g1,g2,g3,g4,g5⟩:=aOF;rw[g3]at hpi;have hP:=HO (O:=orcI) rfl (Bb Kv aFI:MN Tryz.prog Go.Rf.cdX (tY Go.Rf.cdX insL)) 60007000 60007159;obtain⟨u,H',J',I',h1,h2,_⟩:=NY (aCl (aw:=5) hP) g4 g5 hpi (us:= #[.int .u32 b,u0,.int .i64 k]) (bLE (cs:=aCO a) (ds:=[])) ⟨rfl,λi x w hx hw=>by
  match i,hx,hw with
  |0,hx,hw=>cases hx;cases hw;exact .v _ rfl
  |1,hx,hw=>cases hx;cases hw;exact r0
  |2,hx,hw=>cases hx;cases hw;exact .v _ rfl
  |i+3,hx,hw=>cases hx⟩ (λi x w hx _=>by
  match i,hx with
  |0,hx=>cases hx
  |1,hx=>cases hx
  |2,hx=>cases hx
  |i+3,hx=>cases hx)
 have hu:u= .bool true:=by cases h2;rfl
 subst hu;have hC: ∀w1:W0,w1.toWorld=β->AI.CallOK w1 Tryz.prog (Qj 5 (AK Tryz.prog Go.Rf.cdX orcI 60007000 60007159)):=λw1 hw=>by
  subst hw;exact aG2 (Fe Ku (λw0 _=>X0 w0) (Xq ht) 60007000 60007159 w1 rfl) (λw hK=>a34 (Dy ht hK) (Nat.le_trans hz hK.size))
 have hargs:VRL (aR1 q0 none) [.int .u32 b,u0,.int .i64 k] [.int .u32 b,v0,.int .i64 k]:= .cons (.same _ rfl) (.cons (s0 _ rfl) (.cons (.same _ rfl) .nil));have h1': ∀q,(none:Option AI.Place)=some q->aJl β q ([]:List Value) 1:=λq h=>by cases h
 have key:Calls Tryz.prog 3 #[.int .u32 b,v0,.int .i64 k] β λe w'=> ∃Y' r',e= .returned r'/\AI.VR Y' (.bool true) r'/\Sim (W0.of β) Tryz.prog Y' H' w'/\Ext (aNB (aCO a) []).next (aR1 q0 none) Y'/\(aNB (aCO a) []).next<=H'.next:=by
  rcases X0 (W0.of β) 3 fn _ g1 g2 with⟨q1,q2⟩|⟨_,q⟩
  .exact(A6 Ku q1 g2 q2 (hC _ rfl) h1 (a8z h0 h1' hz) hargs).2
  .exact q _ 60007000 (λw1 hw=>hC w1 hw) _ _ _ _ _ _ _ h1 (a8z h0 h1' hz) hargs (by kernel_rfl)
 refine key.mono ?_;rintro e w' ⟨Y',r',rfl,cb,hZ,_,_⟩;have:r'= .bool true:=by cases cb;rfl
 subst this;exact⟨rfl,hZ.kept.toKept⟩
end Go.TV
