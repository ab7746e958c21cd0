import Derived.Test.YtmebgielemmehaaGreatDoorKaf
import Derived.Test.YtmebgielemmehaaGreatDoorKak
set_option linter.unusedVariables false
set_option linter.unusedSimpArgs false
set_option linter.constructorNameAsVariable false
set_option linter.defProp false
namespace Go.TV
open Go.AI Go.PI Go.Proofs
set_option maxRecDepth 20000
def Tu(cs:List Int):List Value:=cs.map λx=> .int .u8 x
def aPL(cs:List Int):PV:=dD 1 (cs.map λx=> .v (.int .u8 x))
def p00:PSt:=⟨.nil,0,[],[]⟩
def a3N:Nu:=λ_=>none
def ga0:Ga:=λ_=>none
def a0W{cs:List Value}:Mem a3N ga0 p00 (aFA 5 cs 1) where
 le:=λid x h=>by cases h
 lt:=λid a h=>by cases h
 inj:=λi j a h=>by cases h
 live:=λid a h=>by cases h
 get:=λid o h=>by
  unfold PSt.get at h;rw[show Nat.blt id p00.next=false from rfl]at h
  cases h
 free:=λa ha=>by
  have h4:6<=a:=ha;rw[sP,bH (by omega)]
 ver:=λg=>by
  show(Tr.get Tr.nil g).getD 0=0;rw[Tr.get_nil];rfl
def Qk: ∀cs:List Int,eD (cs.map λx=>PV.v (.int .u8 x))=cs.map λx=>PV.v (.int .u8 x)
 |[]=>rfl
 |x::l=>by
  have ih:=Qk l;simp only[eD]at ih⊢;rw[aO,aN,ih];rfl
def aNP{β:World}{v:Value}{cs:List Int}(hv:(v= .slice none 0 0/\cs.length=0)∨∃a cap,v= .slice (some a) cs.length cap/\cs.length<=cap/\(0<cs.length->∃b off C t fr,a=⟨b,off,none⟩/\β.heap[b]?=some (Obj.cells C t fr)/\∀(i:Nat) (x:Value),(Tu cs)[i]?=some x->C[off+i]?=some x)):
    ∃(p:Option AI.Place) (u:Value),(∀q,p=some q->aN6 β q (Tu cs) 1)/\R a3N (aFA 5 (Tu cs) 1) (aPL cs) u/\AI.VR (aCu 5 p) u v:=by
 rcases hv with⟨rfl,h0⟩|⟨a,cap,rfl,hc,bi⟩
 .have:cs=[]:=List.length_eq_zero_iff.1 h0;subst this;exact⟨none,.slice none 0 0,λq hq=>(by cases hq),.emp0,.same _ rfl⟩
 .by_cases hn:0<cs.length
  .obtain⟨b,off,C,t,fr,rfl,h1,h2⟩:=bi hn;refine⟨some ⟨b,off,off+cap*1,1⟩,.slice (some ⟨5,0,none⟩) cs.length (cs.length+1),?_,?_,?_⟩
   .intro q hq;cases hq;refine⟨⟨C,t,fr,h1,h2⟩,?_,rfl⟩;intro x hx;obtain⟨k,_,rfl⟩:=List.mem_map.1 hx;rfl
   .have bn:aPL cs= .sl 1 (cs.map λx=> .v (.int .u8 x)):=by
     cases cs with
     |nil=>simp at hn
     |cons x l=>rfl
    rw[bn];have hl:cs.length=(cs.map λx=>PV.v (.int .u8 x)).length:=by simp
    have fm:=Qk cs;rw[hl];refine R.sl 1 _ 5 0 _ (Tu cs) (aZx 1) (aS _) (λe he=>?_) ⟨?_,λk hk=>by cases hk⟩ rfl ?_ (λi x u hx hu=>?_)
    .obtain⟨k,_,rfl⟩:=List.mem_map.1 he;exact⟨rfl,rfl⟩
    .exact PI.row_of_get (by rw[sP,bI rfl]) rfl
    .simp[Tu]
    .rw[fm,List.getElem?_map,aF]at hx;obtain⟨k,hk,rfl⟩:=hx;rw[Nat.zero_add,Tu,List.getElem?_map,hk]at hu;cases hu;exact .v _ rfl
   .exact .slc 5 0 cs.length (cs.length+1) cap ⟨b,off,off+cap*1,1⟩ rfl (λe=>by omega) hc (.inl (by simp))
  .have:cs=[]:=List.length_eq_zero_iff.1 (by omega)
   subst this;exact⟨none,.slice (some ⟨0,0,some 0⟩) 0 0,λq hq=>(by cases hq),.emp2 0 0 0 0,.emp a 0 cap (λh=>by cases h)⟩
noncomputable def cdT:TC:=fP ii1.sk (iT Go.Ic.cdA 99)
noncomputable def aZw:List ResultVar:=rO Go.Ic.cdA 99
def a3w:Dj:=aXM 99 (.sl (.rc 3)) false
noncomputable def aYT(L n:Nat)(d:oB):Rt:=lN U0 (cutOf a3w) (λS M=>fM U0 tpI (cG L n) L cdT S M (JU U0 tpI a3w aZw)) d
noncomputable def cCm(L n:Nat):cJ:=MC tpI 7 (aYT L n) (cG L n)
noncomputable def Cc(L n:Nat):cJ:=MD tpI 4 (cCm L n)
def aJJ(L n:Nat)(a:List G.T):aYT L n [⟨.sl (.rc 3),a⟩]=Ho.F1 (cG L n) L a:=by
 rw[<-Ho.e1];exact iP _ (λS M=>(aMC _ _ _ _).symm) _
def aEw(L n:Nat):Cc L n 2 []=some [⟨.bool,true⟩]:=by kernel_rfl
def aEs(L n:Nat)(d:oB):Cc L n 3 d=cG L n 3 d:=by kernel_rfl
def aEv(L n:Nat)(d:oB):Cc L n 4 d=cG L n 4 d:=by kernel_rfl
def aEt(L n:Nat)(d:oB):Cc L n 6 d=cG L n 6 d:=by kernel_rfl
def aEu(L n:Nat)(d:oB):Cc L n 5 d=(match aYT L n d with
    |some [⟨.sl (.int .i64),l⟩]=>match yY l with
      |some n=>bif Go.AI.okL n then some [⟨.sl (.sl (.int .i64)),(Ic.grp n).map eG⟩]else none
      |none=>none
    |_=>none):=by kernel_rfl
def Uw{b:List Int}(hb: ∀x∈b,0<=x/\x<256):F0 (Cc 207000 200001) 207000 b=some [⟨.bool,true⟩]:=by
 obtain⟨E,h1,h2⟩:=GU 200000 199842;have hE:=aJQ h2;refine Ux (E:=E) (aEw _ _) ?_ (λs hs=>?_) (λa ha hw=>?_) (λa ha hw=>?_) (by omega) hb
 .rw[aEs];exact h1
 .rw[aEv];refine(congrArg aXl (c4 E s 207000 200000)).mpr ?_;exact SQ (c:=cG 207000 200000) ⟨zA 200000 (by omega),a0X 200000 hE (by omega),λt s ht hs hl=>(aQf hs (by omega) t 207000 200000 (by omega) (by omega) (by omega) (by omega)).imp λx hx=>⟨hx.1,by have:=hx.2;omega⟩,
   λa t ha=>aXt (n:=199999) (by omega) (by omega) (by omega)⟩ (by omega) hs
 .have hl:=Ic.lab_len (shr a) a.length;rw[aEu,aJJ,Ho.lab_ok (λi k t u ht hu=>?_) (by omega) (by omega)]
  .simp only[Bo];rw[aOa (by omega) (Ic.lab_JL _ _)];rfl
  .have m1:=fJ (List.mem_of_getElem? ht);have m2:=fJ (List.mem_of_getElem? hu);have:shr a i k=Xk (iY [] [t]) (iY [] [u]):=by unfold shr EG;rw[ht,hu]
   rw[this];exact aQo (by omega) (by omega) (by omega) (by omega)
 .rw[aEt];refine(c6 a 207000 200000).trans (aBM (λt ht=>?_) (λi k hi hk=>?_) (by omega) (by omega))
  .have m1:=fJ ht;exact aN2 [t] (by simp only[dH];omega) 207000 200000 (by simp only[dH];omega) (by simp only[dH];omega)
  .have hv: ∀i,i<a.length->(EG a i).length<=31001:=λi hi=>by
    unfold EG;rw[aV hi];have m1:=fJ (List.getElem_mem hi);have l1:=vD (l:=[a[i]]) (λx _=>rF x) []
    simp only[aX,dH]at l1;show(iY [] [a[i]]).length<=_;omega
   have h3:=hv i hi;have h4:=hv k hk;exact aWk (n:=199999) (by omega) (by omega) (by omega) (by omega)
def Un{f i0:Nat}{s0:Dj}(hat:(insL.all λx=> !Nat.beq x.2.sig.f f||Nat.beq x.1 i0)=true)(hsg:tJ insL i0=some s0): ∀i s,tpI.sig i=some s->s.f=f->s=s0:=λi s h hf=>by
 have h':tJ insL i=some s:=h;unfold tJ at h';rw[aF]at h';obtain⟨x,hx,rfl⟩:=h';have h1:=bJ.1 hat _ (pJ hx);simp only[hf,Nat.beq_refl,bD,Bool.false_or]at h1;have hi:i=i0:=aE h1;subst hi;unfold tJ at hsg;rw[hx]at hsg;exact Option.some.inj hsg
def aNN: ∀i s,tpI.sig i=some s->s.f=4->s=a4f 4:=Un (i0:=2) (by kernel_rfl) (by kernel_rfl)
def aNu: ∀i s,tpI.sig i=some s->s.f=7->s=a3U 7 (.sl (.rc 3)):=Un (i0:=5) (by kernel_rfl) (by kernel_rfl)
noncomputable def kP(L:Nat):a3g:=⟨7,cdT.pc,aZw,L⟩
noncomputable def aSZ(L n:Nat):fI:=Cb 4 (Ca Tryz.prog (kP L) (oM Tryz.prog orcI (tT Tryz.prog insL) L n))
def V0:ii0.sig.bx.length<=100/\Bk ii0.sig.bx.length ii0.sig.bx=true:=⟨bP (by kernel_rfl),by kernel_rfl⟩
def aVB(L n:Nat):CallOK U0 tpI (Cc L n) (aSZ L n):=by
 have hT:=Kx (U:=U0) (T:=tpI) (P:=Tryz.prog) Pv (aBs orcI (tJ insL)) (G:=AL Tryz.prog insL) (GP:=tT Tryz.prog insL) (λi s code rs h1 h2=>EJ V2 i s code rs h1 h2) XL L n
 exact S4 (SY (h:=99) (t:= .sl (.rc 3)) (own:=false) (code:=cdT) (rs:=aZw) Pv (aBs orcI (tJ insL)) hT aNu) aNN
def aLU{b:List Int}(hb: ∀x∈b,0<=x/\x<256): ∃own p',yQ Tryz.prog (aSZ 207000 200001) 207000 (fP ii0.sk (iT Tryz.prog 3)).pc (rO Tryz.prog 3) [(aPL b,false)] p00=some (.v (.bool true),own,p'):=by
 have h0:xF ii0 (Cc 207000 200001) (cu (Cc 207000 200001) 207000) [⟨.sl (.int .u8),b⟩]=some [⟨.bool,true⟩]:=(congrFun (e0 (Cc 207000 200001) 207000) b).trans (Uw hb);have h1:lN U0 (cutOf ii0.sig) (λS M=>fM U0 tpI (Cc 207000 200001) 207000 (fP ii0.sk (iT Tryz.prog ii0.sig.f)) S M (JU U0 tpI ii0.sig (rO Tryz.prog ii0.sig.f))) [⟨.sl (.int .u8),b⟩]=some [⟨.bool,true⟩]:=
  (iP _ (λS M=>(aMC _ _ _ _).symm) _).trans h0
 have jc:VR U0 (.sl (.int .u8)) b (aPL b):=uB (U:=U0) (.int .u8) b rfl rfl;obtain⟨pv,own,p',k1,k2⟩:=AQ (U:=U0) (T:=tpI) (P:=Tryz.prog) Pv (aBs orcI (tJ insL)) (aVB 207000 200001) V0.1 V0.2 h1 (p:=p00) (cc:=λ_=>none) (args:=[(aPL b,false)]) (S0:=[(0,(.val ⟨.sl (.int .u8),b⟩,[]))]) (M0:=⟨[],[]⟩) {
  start:=rfl
  len:=rfl
  args:=λi y hy=>by
   match i,hy with
   |0,hy=>cases hy;exact⟨jc,bW _ _⟩
   |i+1,hy=>cases hy
  bx:=λj b h=>by cases h
  dom:=λ_ _=>rfl
  lt:=λj e id h=>by cases h
  inj:=λk k' e e' id h=>by cases h
  wr:=λid h=>by cases h}
 have hpv:pv= .v (.bool true):=of_bool k2.res.1;subst hpv;exact⟨own,p',k1⟩
def aCz: ∃fn,Tryz.prog.funcs[3]?=some fn/\fn.body=some (dY (fP ii0.sk (iT Tryz.prog 3)).pc)/\rO Tryz.prog 3=fn.results.toList/\nE (fP ii0.sk (iT Tryz.prog 3)).pc/\dX Tryz.prog fn.ntmps (dY (fP ii0.sk (iT Tryz.prog 3)).pc)=true:=by
 refine wR Fe V1 3 _ _ ?_;exact EJ V2 0 ii0.sig _ _ (by kernel_rfl) (by kernel_rfl)
def aND:iT Go.Ic.cdA 99=Go.Ic.headA Go.Ic.cmB:=by kernel_rfl
def aNw:dX Tryz.prog Go.Ic.cmH.ntmps (Go.Ic.headA Go.Ic.cmB)=true:=by kernel_rfl
def SF{β:World}{v:Value}{cs:List Int}(hb: ∀x∈cs,0<=x/\x<256)(ht:Lib.TabIs Tryz.prog β aK2 .u64 Lib.pow10Tab)(hz:5<=β.heap.size)
    (hv:(v= .slice none 0 0/\cs.length=0)∨∃a cap,v= .slice (some a) cs.length cap/\cs.length<=cap/\(0<cs.length->∃b off C t fr,a=⟨b,off,none⟩/\β.heap[b]?=some (Obj.cells C t fr)/\∀(i:Nat) (x:Value),(Tu cs)[i]?=some x->C[off+i]?=some x)):
    Calls Tryz.prog 3 #[v] β λe w'=>e= .returned (.bool true)/\Kept β w':=by
 obtain⟨p,u,hp,hr,jc⟩:=aNP hv;obtain⟨own,p',hpi⟩:=aLU hb;obtain⟨fn,g1,g2,g3,g4,g5⟩:=aCz;rw[g3]at hpi;have hP:=Ei (O:=orcI) rfl (wR Fe V1:Gs Tryz.prog Tryz.prog (tT Tryz.prog insL)) 207000 200001;have er:dY cdT.pc=Go.Ic.headA Go.Ic.cmB:=((rD _ _).1).trans aND;have hC1:=SZ (P:=Tryz.prog) (K:=kP 207000) (KA:=Go.Proofs.Q.cmK 207000) hP rfl (rD _ _).2 (by show dX _ _ (dY cdT.pc)=true;rw[er];exact aNw) er.symm (by kernel_rfl) rfl
 obtain⟨u',H',J',I',h1,h2,_⟩:=AS (S5 (aw:=4) hC1) g4 g5 hpi (us:= #[u]) (a0W (cs:=Tu cs)) ⟨rfl,λi x w hx hw=>by
  match i,hx,hw with
  |0,hx,hw=>cases hx;cases hw;exact hr
  |i+1,hx,hw=>cases hx⟩ (λi x w hx _=>by
  match i,hx with
  |0,hx=>cases hx
  |i+1,hx=>cases hx)
 have hu:u'= .bool true:=by cases h2;rfl
 subst hu;have hC: ∀w1:W0,w1.toWorld=β->AI.CallOK w1 Tryz.prog (Ky 4 (Ej Tryz.prog (Go.Proofs.Q.cmK 207000) (wG Tryz.prog Tryz.prog orcI 207000 200001))):=λw1 hw=>by
  subst hw;exact Xu (Go.Proofs.Q.cm_ok Bu (B9 Bu (λw0 _=>Qy w0) (P1 ht) 207000 200001 w1 rfl) 207000) (λw hK=>aNM (AK ht hK) (Nat.le_trans hz hK.size))
 have hargs:VRL (aCu 5 p) [u] [v]:= .cons jc .nil;have key:Calls Tryz.prog 3 #[v] β λe w'=> ∃Y' r',e= .returned r'/\AI.VR Y' (.bool true) r'/\Sim (W0.of β) Tryz.prog Y' H' w'/\Ext (aFA 5 (Tu cs) 1).next (aCu 5 p) Y'/\(aFA 5 (Tu cs) 1).next<=H'.next:=by
  rcases Qy (W0.of β) 3 fn _ g1 g2 with⟨q1,q2⟩|⟨_,q⟩
  .exact(DB Bu q1 g2 q2 (hC _ rfl) h1 (aQn (by omega) hp (λh=>by omega) hz) hargs).2
  .exact q _ 207000 (λw1 hw=>hC w1 hw) _ _ _ _ _ _ _ h1 (aQn (by omega) hp (λh=>by omega) hz) hargs (by kernel_rfl)
 refine key.mono ?_;rintro e w' ⟨Y',r',rfl,ca,hZ,_,_⟩;have:r'= .bool true:=by cases ca;rfl
 subst this;exact⟨rfl,hZ.kept.toKept⟩
end Go.TV
