import Derived.Test.YtmebgielemmehaaGreatDoorKp
import Derived.Test.YtmebgielemmehaaGreatDoorKq
import Derived.Test.YtmebgielemmehaaGreatDoorKs
import Derived.Test.YtmebgielemmehaaGreatDoorKad
set_option linter.unusedVariables false
set_option linter.unusedSimpArgs false
set_option linter.constructorNameAsVariable false
set_option linter.defProp false
namespace Go.TV
open Go.AI Go.PI Go.Proofs
set_option maxRecDepth 20000
def aYu(w0:W0)(O:Nat->Option Obj):W0:={w0 with O:=O}
def aBA{P:Program}{w0:W0}{Y:Mp}{H:St}{w:World}(S:Sim w0 P Y H w){O:Nat->Option Obj}(h: ∀k o,O k=some o->w.heap[k]?=some o/\∀id p,Y id=some p->p.b≠k):Sim (aYu w0 O) P Y H w:=
 ⟨⟨S.kept.toKept,h,S.kept.bnd⟩,S.dom,S.glob,λid p cs m h1 h2 h3=>by
  obtain⟨a,b,c,d,e⟩:=S.row id p cs m h1 h2 h3;exact⟨a,b,c,d,e⟩,λid p es h1 h2=>by
  obtain⟨a,b⟩:=S.map id p es h1 h2;exact⟨a,b⟩,S.off,S.tip,S.maps,S.vers,S.lim⟩
def pK:PSt:=⟨.nil,0,[],[]⟩
def a0V:Mem (λ_=>none) (λ_=>none) pK (aOB Tryz.prog) where
 le:=λid x h=>by cases h
 lt:=λid a h=>by cases h
 inj:=λi j a h=>by cases h
 live:=λid a h=>by cases h
 get:=λid o h=>by
  unfold PSt.get at h;rw[show Nat.blt id pK.next=false from rfl]at h
  cases h
 free:=λa ha=>zE a
 ver:=λg=>by
  show(Tr.get Tr.nil g).getD 0=0;rw[Tr.get_nil];rfl
def T4{E:List G.E}(hE:cG 7000 159 3 [⟨.int .u32,(0:Int)⟩]=some [⟨.sl (.rc 15),E⟩]):
    ∃pv own p',oM Tryz.prog orcI (tT Tryz.prog insL) 7000 159 6 [(.v (.int .u32 0),false)] pK=some (pv,own,p')/\VR U0 (.sl (.rc 15)) E pv:=by
 have hT:=Kx (U:=U0) (T:=tpI) (P:=Tryz.prog) Pv (aBs orcI (tJ insL)) (G:=AL Tryz.prog insL) (GP:=tT Tryz.prog insL) (λi s code rs h1 h2=>EJ V2 i s code rs h1 h2) XL 7000 159
 have hsig:tpI.sig 3=some ii3.sig:=(by kernel_rfl:tJ insL 3=some ii3.sig)
 obtain⟨pv,own,p',h1,h2⟩:=hT 3 ii3.sig _ _ hsig hE pK (λ_=>none) [(.v (.int .u32 0),false)] [(0,(.val ⟨.int .u32,(0:Int)⟩,[]))] ⟨[],[]⟩ {
  start:=rfl
  len:=rfl
  args:=λi y hy=>by
   match i,hy with
   |0,hy=>cases hy;exact⟨gN (U:=U0) .u32 _,bW _ _⟩
   |i+1,hy=>cases hy
  bx:=λj b h=>by cases h
  dom:=λ_ _=>rfl
  lt:=λj e id h=>by cases h
  inj:=λk k' e e' id h=>by cases h
  wr:=λid h=>by cases h}
 exact⟨pv,own,p',h1,h2.res.1⟩
def GV{E:List G.E}(hE:cG 7000 159 3 [⟨.int .u32,(0:Int)⟩]=some [⟨.sl (.rc 15),E⟩])(h0:0<E.length){w:World}(hg:Tryz.prog.globals.size<=w.heap.size)
    (hC: ∀w0:W0,w0.toWorld=w->NX w0 Tryz.prog Tryz.prog) (hO:Re Tryz.prog w orcI):
    (∃fn c,Tryz.prog.funcs[6]?=some fn/\fn.body=some c/\(fn.name== "runtime.NumGoroutine")=false)/\Calls Tryz.prog 6 #[.int .u32 0] w λe w'=>
      (∃b off cap C t fr,e= .returned (.slice (some ⟨b,off,none⟩) E.length cap)/\E.length<=cap/\w'.heap[b]?=some (.cells C t fr)/\(b<Tryz.prog.globals.size∨w.heap.size<=b))/\Kept w w':=by
 obtain⟨pv,own,p',hpi,hv⟩:=T4 hE;have hG:Gs Tryz.prog Tryz.prog (tT Tryz.prog insL):=wR Fe V1;obtain⟨u,H',J',I',h1,h2,_⟩:=Ei (O:=orcI) rfl hG 7000 159 _ _ _ _ _ _ hpi _ _ (aOB Tryz.prog) #[.int .u32 0] a0V ⟨rfl,λi x w hx hw=>by
  match i,hx,hw with
  |0,hx,hw=>cases hx;cases hw;exact .v _ rfl
  |i+1,hx,hw=>cases hx⟩ (λi x w hx _=>by
  match i,hx with
  |0,hx=>cases hx
  |i+1,hx=>cases hx)
 obtain⟨e,es,rfl⟩: ∃e es,E=e::es:=by
  cases E with
  |nil=>simp at h0
  |cons e es=>exact⟨e,es,rfl⟩
 have hp:=aFv hv.wk;subst hp
 let O:Nat->Option Obj:=λk=>if Tryz.prog.globals.size<=k then w.heap[k]? else none
 have hS:Sim (aYu (W0.of w) O) Tryz.prog (aLu Tryz.prog) (aOB Tryz.prog) w:=aBA (aQm hg) λk o hk=>by
  simp only[O]at hk;split at hk
  .rename_i hle;exact⟨hk,λid q hq=>by obtain⟨q1,q2⟩:=VQ hq;omega⟩
  .cases hk
 obtain⟨g,hc⟩:=B9 Bu hC hO 7000 159 (aYu (W0.of w) O) rfl _ #[.int .u32 0] #[.int .u32 0] _ _ w _ _ h1 hS (VRL.same rfl);refine⟨g,hc.mono ?_⟩;rintro x w' ⟨Y',r',rfl,ca,hZ,_,_⟩;refine⟨?_,hZ.kept.toKept⟩;cases h2 with
 |sl _ _ id off c rcs m _ _ hr _ _ _=>
  obtain⟨q1,q2⟩:=St.row_some hr.1;cases ca with
  |same _ h=>cases h
  |slc _ _ _ _ cap p hm _ hl _=>
   obtain⟨C,t,fr,r1,_⟩:=(hZ.row id p rcs m hm q1 q2).row;have hlen:(dB U0 (.rc 15) e::List.map (dB U0 (.rc 15)) es).length=(e::es).length:=congrArg (· +1) (List.length_map (dB U0 (.rc 15)));refine⟨p.b,p.o+off,cap,C,t,fr,congrArg (λn=>Ending.returned (.slice (some ⟨p.b,p.o+off,none⟩) n cap)) hlen,Nat.le_trans (Nat.le_of_eq hlen.symm) hl,r1,?_⟩
   rcases Nat.lt_or_ge p.b Tryz.prog.globals.size with h3|h3
   .exact .inl h3
   .rcases Nat.lt_or_ge p.b w.heap.size with h4|h4
    .have:=(hZ.kept.oth p.b w.heap[p.b] (by show O p.b=_;simp only[O,bI h3];simp[h4])).2 id p hm
     exact absurd rfl this
    .exact .inr h4
end Go.TV
