import Derived.Test.YtojjcdpfjabepaaGreatDoorKak
import Derived.Test.YtojjcdpfjabepaaGreatDoorKal
import Derived.Test.YtojjcdpfjabepaaGreatDoorKn
import Derived.Test.YtojjcdpfjabepaaGreatDoorKah
set_option linter.unusedVariables false
set_option linter.unusedSimpArgs false
set_option linter.constructorNameAsVariable false
namespace Go.TV
open Go.AI Go.PI Go.Proofs
set_option maxRecDepth 20000
def w0O(w0:W0)(O:Nat→Option Obj):W0:={w0 with O:=O}
theorem sim_w0O{P:Program}{w0:W0}{μ:Mp}{σ:St}{w:World}(S:Sim w0 P μ σ w){O:Nat→Option Obj}(h: ∀k o,O k=some o→w.heap[k]?=some o∧∀id p,μ id=some p→p.b≠k):Sim (w0O w0 O) P μ σ w:=
 ⟨⟨S.kept.toKept,h,S.kept.bnd⟩,S.dom,S.glob,fun id p cs m h1 h2 h3=>by
  obtain⟨a,b,c,d,e⟩:=S.row id p cs m h1 h2 h3;exact⟨a,b,c,d,e⟩,fun id p es h1 h2=>by
  obtain⟨a,b⟩:=S.map id p es h1 h2;exact⟨a,b⟩,S.off,S.tip,S.maps,S.vers,S.lim⟩
def pK:PSt:=⟨.nil,0,[],[]⟩
theorem memK:Mem (fun _=>none) (fun _=>none) pK (stK Tryz.prog) where
 le:=fun id x h=>by cases h
 lt:=fun id a h=>by cases h
 inj:=fun i j a h=>by cases h
 live:=fun id a h=>by cases h
 get:=fun id o h=>by
  unfold PSt.get at h;rw[show Nat.blt id pK.next=false from rfl]at h
  cases h
 free:=fun a ha=>yY a
 ver:=fun g=>by
  show(Tr.get Tr.nil g).getD 0=0;rw[Tr.get_nil];rfl
theorem world_pi{E:List G.E}(hE:CTp 7000 159 2 [⟨.int .u32,(0:Int)⟩]=some [⟨.sl (.rc 16),E⟩]):
    ∃pv own p',jT Tryz.prog orcI (qH Go.Rf.cdX insL) 7000 159 8 [(.v (.int .u32 0),false)] pK=some (pv,own,p')∧VR U0 (.sl (.rc 16)) E pv:=by
 have hT:=aEa (U:=U0) (T:=tpI) (P:=Tryz.prog) recOK (ttOK orcI (aAQ insL)) (G:=aGe Go.Rf.cdX insL) (GP:=qH Go.Rf.cdX insL) (fun i s code rs h1 h2=>aAN ka_ok i s code rs h1 h2) arI_ok 7000 159
 have hsig:tpI.sig 2=some ii2.sig:=(by kernel_rfl:aAQ insL 2=some ii2.sig)
 obtain⟨pv,own,p',h1,h2⟩:=hT 2 ii2.sig _ _ hsig hE pK (fun _=>none) [(.v (.int .u32 0),false)] [(0,(.val ⟨.int .u32,(0:Int)⟩,[]))] ⟨[],[]⟩ {
  start:=rfl
  len:=rfl
  args:=fun i y hy=>by
   match i,hy with
   |0,hy=>cases hy;exact⟨dT (U:=U0) .u32 _,aE _ _⟩
   |i+1,hy=>cases hy
  bx:=fun j b h=>by cases h
  dom:=fun _ _=>rfl
  lt:=fun j e id h=>by cases h
  inj:=fun k k' e e' id h=>by cases h
  wr:=fun id h=>by cases h}
 exact⟨pv,own,p',h1,h2.res.1⟩
theorem aAL{E:List G.E}(hE:CTp 7000 159 2 [⟨.int .u32,(0:Int)⟩]=some [⟨.sl (.rc 16),E⟩])(h0:0<E.length){w:World}(hg:Tryz.prog.globals.size≤w.heap.size)
    (hC: ∀w0:W0,w0.toWorld=w→kV w0 Tryz.prog Go.Rf.cdX) (hO:aFD Tryz.prog w orcI):
    (∃ fn c, Tryz.prog.funcs[8]? = some fn ∧ fn.body = some c ∧ (fn.name == "runtime.NumGoroutine") = false) ∧ Calls Tryz.prog 8 #[.int .u32 0] w fun e w' =>
      (∃b off cap C t fr,e= .returned (.slice (some ⟨b,off,none⟩) E.length cap)∧E.length≤cap∧w'.heap[b]?=some (.cells C t fr)∧(b<Tryz.prog.globals.size∨w.heap.size≤b))∧Kept w w':=by
 obtain⟨pv,own,p',hpi,hv⟩:=world_pi hE;have hG:aEQ Tryz.prog Go.Rf.cdX (qH Go.Rf.cdX insL):=qG aDJ kb_ok;obtain⟨u,σ',ν',γ',h1,h2,_⟩:=zZ (O:=orcI) rfl hG 7000 159 _ _ _ _ _ _ hpi _ _ (stK Tryz.prog) #[.int .u32 0] memK ⟨rfl,fun i x w hx hw=>by
  match i,hx,hw with
  |0,hx,hw=>cases hx;cases hw;exact .v _ rfl
  |i+1,hx,hw=>cases hx⟩ (fun i x w hx _=>by
  match i,hx with
  |0,hx=>cases hx
  |i+1,hx=>cases hx)
 obtain⟨e,es,rfl⟩: ∃e es,E=e::es:=by
  cases E with
  |nil=>simp at h0
  |cons e es=>exact⟨e,es,rfl⟩
 have hp:=wk_sl hv.wk;subst hp
 let O:Nat→Option Obj:=fun k=>if Tryz.prog.globals.size≤k then w.heap[k]? else none
 have hS:Sim (w0O (W0.of w) O) Tryz.prog (muK Tryz.prog) (stK Tryz.prog) w:=sim_w0O (simK hg) fun k o hk=>by
  simp only[O]at hk;split at hk
  ·rename_i hle;exact⟨hk,fun id q hq=>by obtain⟨q1,q2⟩:=muK_lt hq;omega⟩
  ·cases hk
 obtain⟨g,hc⟩:=pV yP hC hO 7000 159 (w0O (W0.of w) O) rfl _ #[.int .u32 0] #[.int .u32 0] _ _ w _ _ h1 hS (VRL.same rfl);refine⟨g,hc.mono ?_⟩;rintro x w' ⟨μ',r',rfl,hr',hZ,_,_⟩;refine⟨?_,hZ.kept.toKept⟩;cases h2 with
 |sl _ _ id off c rcs m _ _ hr _ _ _=>
  obtain⟨q1,q2⟩:=St.row_some hr.1;cases hr' with
  |same _ h=>cases h
  |slc _ _ _ _ cap p hm _ hl _=>
   obtain⟨C,t,fr,r1,_⟩:=(hZ.row id p rcs m hm q1 q2).row;have hlen:(enV U0 (.rc 16) e::List.map (enV U0 (.rc 16)) es).length=(e::es).length:=congrArg (· +1) (List.length_map (enV U0 (.rc 16)));refine⟨p.b,p.o+off,cap,C,t,fr,congrArg (fun n=>Ending.returned (.slice (some ⟨p.b,p.o+off,none⟩) n cap)) hlen,Nat.le_trans (Nat.le_of_eq hlen.symm) hl,r1,?_⟩
   rcases Nat.lt_or_ge p.b Tryz.prog.globals.size with h3|h3
   ·exact .inl h3
   ·rcases Nat.lt_or_ge p.b w.heap.size with h4|h4
    ·have:=(hZ.kept.oth p.b w.heap[p.b] (by show O p.b=_;simp only[O,if_pos h3];simp[h4])).2 id p hm
     exact absurd rfl this
    ·exact .inr h4
end Go.TV
