import Derived.Test.YtojjcdpfjabepaaGreatDoorKam
import Derived.Test.YtojjcdpfjabepaaGreatDoorKai
set_option linter.unusedVariables false
set_option linter.unusedSimpArgs false
set_option linter.constructorNameAsVariable false
namespace Go.TV
open Go.AI Go.PI Go.Proofs
set_option maxRecDepth 20000
def u8V(cs:List Int):List Value:=cs.map fun x=> .int .u8 x
def u8P(cs:List Int):PV:=cQ 1 (cs.map fun x=> .v (.int .u8 x))
def p00:PSt:=⟨.nil,0,[],[]⟩
def nu0:Nu:=fun _=>none
def ga0:Ga:=fun _=>none
def st2(cs ds:List Value):St:=St.put (St.put ⟨.nil,.nil,8⟩ 6 (.cells cs (rdM 1))) 7 (.cells ds (rdM 1))
def mu2(p q:Option AI.Place):Mp:=fun id=>if id=6 then p else if id=7 then q else if id<6 then some ⟨id,0,0,1⟩else none
theorem qA(cs ds:List Value)(id:Nat):(st2 cs ds).get id=if id=7 then some (.cells ds (rdM 1))else if id=6 then some (.cells cs (rdM 1))else none:=by
 unfold st2;rw[St.get_put,St.get_put];split
 ·rfl
 ·split
  ·rfl
  ·exact Tr.get_nil id
theorem gl6:Tryz.prog.globals.size=6:=by kernel_rfl
theorem sim2{W:World}{p0 p1:Option AI.Place}{cs ds:List Value}(h0: ∀q,p0=some q→RowW W q cs 1)(h1: ∀q,p1=some q→RowW W q ds 1)(hz:6≤W.heap.size):Sim (W0.of W) Tryz.prog (mu2 p0 p1) (st2 cs ds) W:=by
 have key: ∀id q es m,mu2 p0 p1 id=some q→(st2 cs ds).get id=some (.cells es m)→RowW W q es m.z∧m.wr=false∧m.tip=false∧m.grp=none:=by
  intro id q es m hm hget;rw[qA]at hget;unfold mu2 at hm;split at hget
  ·rename_i e;cases hget;rw[if_neg (by omega),if_pos e]at hm
   exact⟨h1 q hm,rfl,rfl,rfl⟩
  ·split at hget
   ·rename_i e;cases hget;rw[if_pos e]at hm;exact⟨h0 q hm,rfl,rfl,rfl⟩
   ·cases hget
 have nomap: ∀id es,(st2 cs ds).get id=some (.map es)→False:=by
  intro id es hget;rw[qA]at hget;split at hget
  ·cases hget
  ·split at hget<;>cases hget
 exact{
  kept:=KeptO.refl fun id q hm=>by
   unfold mu2 at hm;split at hm
   ·obtain⟨C,t,fr,r1,_⟩:=(h0 q hm).row;exact(Array.getElem?_eq_some_iff.1 r1).1
   ·split at hm
    ·obtain⟨C,t,fr,r1,_⟩:=(h1 q hm).row;exact(Array.getElem?_eq_some_iff.1 r1).1
    ·split at hm
     ·cases hm;show id<W.heap.size;omega
     ·cases hm
  dom:=fun id hid=>by
   have:8≤id:=hid;unfold mu2;rw[if_neg (by omega),if_neg (by omega),if_neg (by omega)]
  glob:=fun g hg'=>by
   rw[gl6]at hg';exact⟨⟨g,0,0,1⟩,by unfold mu2;rw[if_neg (by omega),if_neg (by omega),if_pos hg'],rfl,rfl⟩
  row:=fun id q es m hm hget _=>by
   obtain⟨⟨⟨C,t,fr,r1,r2⟩,r3,r4⟩,k1,k2,k3⟩:=key id q es m hm hget;exact⟨⟨C,t,fr,r1,fun i v hv=>⟨v,r2 i v hv,.same v (r3 v (List.mem_of_getElem? hv))⟩,(fun h=>by rw[k2]at h;cases h)⟩,(fun h=>by rw[k1]at h;cases h),(fun h=>by rw[k2]at h;cases h),r4,fun h=>by rw[k1]at h;cases h⟩
  map:=fun id q es hm hget=>(nomap id es hget).elim
  off:=fun a b q q' es fs m n _ hm _ hget _ _ _ hw=>by
   obtain⟨_,k1,_⟩:=key a q es m hm hget;rw[k1]at hw;cases hw
  tip:=fun a b q q' es fs m n _ hm _ hget _ _ _ hw=>by
   obtain⟨_,_,k2,_⟩:=key a q es m hm hget;rw[k2]at hw;cases hw
  maps:=fun a b q q' es fs _ _ _ hget=>(nomap a es hget).elim
  vers:=fun id es m g v hget hgr=>by
   rw[qA]at hget;split at hget
   ·cases hget;cases hgr
   ·split at hget
    ·cases hget;cases hgr
    ·cases hget
  lim:=fun a b q q' es fs m n _ hm _ hget _ _ _ hw=>by
   obtain⟨_,_,k2,_⟩:=key a q es m hm hget;rw[k2]at hw;cases hw}
theorem mem2{cs ds:List Value}:Mem nu0 ga0 p00 (st2 cs ds) where
 le:=fun id x h=>by cases h
 lt:=fun id a h=>by cases h
 inj:=fun i j a h=>by cases h
 live:=fun id a h=>by cases h
 get:=fun id o h=>by
  unfold PSt.get at h;rw[show Nat.blt id p00.next=false from rfl]at h
  cases h
 free:=fun a ha=>by
  have h4:8≤a:=ha;rw[qA,if_neg (by omega),if_neg (by omega)]
 ver:=fun g=>by
  show(Tr.get Tr.nil g).getD 0=0;rw[Tr.get_nil];rfl
theorem aHy: ∀cs:List Int,eG (cs.map fun x=>PV.v (.int .u8 x))=cs.map fun x=>PV.v (.int .u8 x)
 |[]=>rfl
 |x::l=>by
  have ih:=aHy l;simp only[eG]at ih⊢;rw[mpC,fmC,ih];rfl
def SlW(W:World)(v:Value)(cs:List Int):Prop:=(v= .slice none 0 0∧cs.length=0)∨∃a cap,v= .slice (some a) cs.length cap∧cs.length≤cap∧(0<cs.length→∃b off C t fr,a=⟨b,off,none⟩∧W.heap[b]?=some (Obj.cells C t fr)∧∀(i:Nat) (x:Value),(u8V cs)[i]?=some x→C[off+i]?=some x)
theorem arg_of{W:World}{v:Value}{cs:List Int}{σ:St}{id:Nat}(hσ:σ.get id=some (.cells (u8V cs) (rdM 1)))(hv:SlW W v cs):
    ∃(p:Option AI.Place) (u:Value),(∀q,p=some q→RowW W q (u8V cs) 1)∧R nu0 σ (u8P cs) u∧∀μ:Mp,μ id=p→AI.VR μ u v:=by
 rcases hv with⟨rfl,h0⟩|⟨a,cap,rfl,hc,hrow⟩
 ·have:cs=[]:=List.length_eq_zero_iff.1 h0;subst this;exact⟨none,.slice none 0 0,fun q hq=>(by cases hq),.emp0,fun _ _=> .same _ rfl⟩
 ·by_cases hn:0<cs.length
  ·obtain⟨b,off,C,t,fr,rfl,h1,h2⟩:=hrow hn;refine⟨some ⟨b,off,off+cap*1,1⟩,.slice (some ⟨id,0,none⟩) cs.length (cs.length+1),?_,?_,fun μ hμ=>?_⟩
   ·intro q hq;cases hq;refine⟨⟨C,t,fr,h1,h2⟩,?_,rfl⟩;intro x hx;obtain⟨k,_,rfl⟩:=List.mem_map.1 hx;rfl
   ·have hne:u8P cs= .sl 1 (cs.map fun x=> .v (.int .u8 x)):=by
     cases cs with
     |nil=>simp at hn
     |cons x l=>rfl
    rw[hne];have hl:cs.length=(cs.map fun x=>PV.v (.int .u8 x)).length:=by simp
    have hfl:=aHy cs;rw[hl];refine R.sl 1 _ id 0 _ (u8V cs) (rdM 1) (nlR _) (fun e he=>?_) ⟨?_,fun k hk=>by cases hk⟩ rfl ?_ (fun i x u hx hu=>?_)
    ·obtain⟨k,_,rfl⟩:=List.mem_map.1 he;exact⟨rfl,rfl⟩
    ·exact PI.row_of_get hσ rfl
    ·simp[u8V]
    ·rw[hfl,List.getElem?_map,mjE]at hx;obtain⟨k,hk,rfl⟩:=hx;rw[Nat.zero_add,u8V,List.getElem?_map,hk]at hu;cases hu;exact .v _ rfl
   ·exact .slc id 0 cs.length (cs.length+1) cap ⟨b,off,off+cap*1,1⟩ hμ (fun e=>by omega) hc (by simp)
  ·have:cs=[]:=List.length_eq_zero_iff.1 (by omega)
   subst this;exact⟨none,.slice (some ⟨0,0,some 0⟩) 0 0,fun q hq=>(by cases hq),.emp2 0 0 0 0,fun _ _=> .emp a 0 cap (fun h=>by cases h)⟩
end Go.TV
