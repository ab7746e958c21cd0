import Derived.Test.YtojjcdpfjabepaaGreatDoorCards
import Derived.Test.YtojjcdpfjabepaaGreatDoorTie
import Derived.Test.YtojjcdpfjabepaaGreatDoorKat
import Derived.Test.YtojjcdpfjabepaaGreatDoorKav
import Derived.WalkKit
import Derived.ProofKit
import Derived.OpenShut
import Derived.LaidMore
import Derived.ChangeSlices
import Derived.ChangeMaps5
import Derived.WideKeyArgs
import Derived.Stop.Joined
import Derived.Stop.LaidErr
import Derived.SevenTiedAt
set_option linter.unusedVariables false
set_option linter.unusedSimpArgs false
set_option linter.constructorNameAsVariable false
namespace Go.Proofs.YtojjcdpfjabepaaGreatDoor.ruleExch
open Go.ChangeShapes Go.WideShapes Go.ChangeAt Go.RowKit Go.AI Go.TV
theorem own:ownKnob Tryz.prog.godebug=none:=by kernel_rfl
theorem gPow:Tryz.prog.globalNamed pwN=some 1:=by kernel_rfl
theorem tPow:(Tryz.prog.globals[1]?).map (·.type)=some 294:=by kernel_rfl
theorem cE:Tryz.prog.cellsOf 93=1:=by kernel_rfl
theorem cT:Tryz.prog.cellsOf 294=20:=by kernel_rfl
theorem laidOut:laidOutB Tryz.prog=true:=by kernel_rfl
theorem door_met(os:Os)(args:Array Value):laidMetH Tryz.prog Rows.ruleExchangeRow.laid ((World.doorLaid Tryz.prog 400 os).forCall (fun _ _=>0) ⟨#[],args,[]⟩).memory:=
 laidMetH_of_parts3 (fuel:=8) (laidMet_of_run' 8 (by kernel_rfl) (by kernel_rfl)) (by kernel_rfl) (by kernel_rfl)
theorem tab_of{W:World}(h:laidMetH Tryz.prog Rows.ruleExchangeRow.laid W):Lib.TabIs Tryz.prog W pwN .u64 Lib.pow10Tab:=by
 rw[MakeChecks.laidMetH_plain _ _ _ (by kernel_rfl)]at h
 have h1:=laidMet.tail (laidMet.tail h);have e:(Rows.laid_internal_strconv_uint64pow10:DataW Unit)=Lib.tabData .u64 Lib.pow10Tab:=rfl;rw[e]at h1;exact Lib.tabIs_of_head gPow tPow Tryz.underlying294 Tryz.underlying93 cE cT h1
theorem size_of{P:Program}{W:World}{name:String}{d:DataW Unit}{rest:List (String×DataW Unit)}{g:Nat}(h:laidMet P ((name,d)::rest) W)(hg:P.globalNamed name=some g):g<W.heap.size:=by
 obtain⟨ps,⟨g',t',cs,fuel,p,q,hg',ht',hvar,hd,_,_⟩,_⟩:=h;unfold World.var? at hvar;simp only[hg,obS]at hvar;rcases Nat.lt_or_ge g W.heap.size with h'|h'
 ·exact h'
 ·rw[Array.getElem?_eq_none h']at hvar;simp at hvar
theorem size_5{W:World}(h:laidMetH Tryz.prog Rows.ruleExchangeRow.laid W):6≤W.heap.size:=by
 rw[MakeChecks.laidMetH_plain _ _ _ (by kernel_rfl)]at h
 have h1:=size_of (g:=5) (laidMet.tail (laidMet.tail (laidMet.tail h))) (by kernel_rfl)
 omega
theorem zW{w:World}{a:Addr}{v:Value}(h:w.cell? a=some v): ∃C t fr,w.heap[a.block]?=some (Obj.cells C t fr)∧a.spot=none∧C[a.off]?=some v:=by
 unfold World.cell? at h;split at h
 ·rename_i C t fr hh;split at h
  ·cases h
  ·rename_i hs;exact⟨C,t,fr,hh,by simpa using hs,h⟩
 ·cases h
theorem aIb{w:World}{a:Addr}{N:Nat}{V:Nat→Value}(hN:0<N)(h: ∀i,i<N→w.cell? (a.add i)=some (V i)):
    ∃b off C t fr,a=⟨b,off,none⟩∧w.heap[b]?=some (Obj.cells C t fr)∧∀i,i<N→C[off+i]?=some (V i):=by
 obtain⟨b,off,spot⟩:=a;have hspot:spot=none:=by simpa [Addr.add]using World.cell?_spot (h 0 hN)
 subst hspot;obtain⟨C,t,fr,h1,_,h3⟩:=zW (h 0 hN);have e0:(Addr.add ⟨b,off,none⟩ 0)=⟨b,off,none⟩:=by rw[Go.WideShapes.add_plain];rfl
 rw[e0]at h1 h3;refine⟨b,off,C,t,fr,rfl,h1,fun i hi=>?_⟩
 obtain⟨C',t',fr',g1,_,g3⟩:=zW (h i hi);rw[Go.WideShapes.add_plain]at g1 g3;simp only at g1 g3 h1;rw[h1]at g1;cases g1;exact g3
set_option maxRecDepth 100000 in
theorem open_u8s{H:Type}{enc:TypeId×Value→H}{w:World}{b0:Nat}{v:Value}{d:DataW H}{ps:List MemPlace}(hv:Value.okWide Tryz.prog w .any b0 22 v)(h:DataW.Trod enc Tryz.prog w 0 (fun _=>true) true 22 v d ps):
    ∃cs:List Int,(∀k∈cs,0≤k∧k<256)∧((v= .slice none 0 0∧cs.length=0)∨∃a cap,v= .slice (some a) cs.length cap∧cs.length≤cap∧(0<cs.length→∃b off C t fr,a=⟨b,off,none⟩∧w.heap[b]?=some (Obj.cells C t fr)∧∀(i:Nat) (x:Value),(u8V cs)[i]?=some x→C[off+i]?=some x)):=by
 obtain⟨fuel,hf⟩:=h;obtain⟨a0,len,cap,rfl⟩:=Go.WideShapes.okWide_slice Tryz.underlying22 hv;rcases Go.ChangeShapes.open_ints Tryz.underlying22 Tryz.underlying5 (by kernel_rfl) hf with⟨hcs,hx⟩|⟨a,len',cap',zs,hcs,_,hl,hm,hz,hx,hcell,hws⟩
 ·have:Value.slice a0 len cap= .slice none 0 0:=by simpa [Value.cells]using hcs
  exact⟨[],(by simp),Or.inl ⟨this,rfl⟩⟩
 ·have hvv:Value.slice a0 len cap= .slice (some a) len' cap':=by simpa [Value.cells]using hcs
  rw[if_pos rfl]at hz;have hb: ∀n∈zs,0≤n∧n≤255:=fun n hn=>Go.bounds_u8 (hws n hn)
  refine⟨zs.take len',?_,Or.inr ⟨a,cap',?_,?_,?_⟩⟩
  ·intro k hk;have:=hb k (List.mem_of_mem_take hk);omega
  ·rw[hvv];simp;omega
  ·simp;omega
  ·intro h0;simp only[List.length_take]at h0;obtain⟨b,off,C,t,fr,rfl,g1,g2⟩:=aIb (V:=fun i=> .int .u8 (zs.getD i 0)) (N:=zs.length) (by omega) hcell
   refine⟨b,off,C,t,fr,rfl,g1,fun i x hx=>?_⟩
   simp only[u8V,List.getElem?_map,mjE]at hx;obtain⟨y,hy,rfl⟩:=hx;rw[List.getElem?_take]at hy;split at hy
   ·have hi:=(List.getElem?_eq_some_iff.1 hy).1;rw[g2 i hi];simp only[List.getD_eq_getElem?_getD,hy,Option.getD_some]
   ·cases hy
theorem aHp{W W':World}(h:Kept W W'){p:MemPlace}(hp:p.block<W.heap.size):W.sameAt W' p:=by
 cases p with
 |cell b o=>exact World.cell?_of_block (w:=W) (h.old b hp)
 |map b=>exact h.old b hp
theorem oM{H:Type}{enc:TypeId×Value→H}{P:Program}{W W':World}(hl:laidOutB P=true)(hK:Kept W W'){sp:Nat→Bool}: ∀{ts:List TypeId} {vs:List Value} {ds:List (DataW H)} {ps:List MemPlace},(∀t∈ts,P.readableRec t=true∧t<P.types.size)→
    DataW.TrodAll enc P W 0 (fun _=>true) true ts vs ds ps→(∀p∈ps,p.block<W.heap.size)→(∀p∈ps,sp p.block=true)→DataW.TrodAll enc P W' 0 sp true ts vs ds ps
 |[],[],[],_,_,h,_,_=>h
 |t::_,_::_,_::_,_,hT,⟨p,q,h1,h2,e⟩,hb,hs=>⟨p,q,WideElems.Trod_stays hl (hT t (List.mem_cons.2 (Or.inl rfl))).1 (hT t (List.mem_cons.2 (Or.inl rfl))).2 h1 (fun x hx=>aHp hK (hb x (by rw[e];exact List.mem_append_left _ hx))) (fun x hx=>hs x (by rw[e];exact List.mem_append_left _ hx)),
      oM hl hK (fun t ht=>hT t (List.mem_cons.2 (Or.inr ht))) h2 (fun x hx=>hb x (by rw[e];exact List.mem_append_right _ hx)) (fun x hx=>hs x (by rw[e];exact List.mem_append_right _ hx)),e⟩
theorem aGQ{H:Type}{enc:TypeId×Value→H}{P:Program}{f:Func}{s:ChangeSpec}{wN fresh handsOn again:Bool}{W W':World}{args:Array Value}{v:Value}{ds gs:List (DataW H)}{before pa pv:List MemPlace}
    (hW:DataW.Whole enc P f.params.toList s.vars wN W args.toList ds gs before)
    (hres: ∀(b:Nat) (sp:Nat→Bool) (hd:Bool),DataW.TrodAll enc P W' b sp hd f.resultTypes.toList (v.resultList f.resultTypes.size) (s.fn H (ds++gs)).results [])
    (hargs: ∀sp:Nat→Bool,(∀p∈before,sp p.block=true)→DataW.TrodAll enc P W' 0 sp true f.params.toList args.toList (s.fn H (ds++gs)).args pa)
    (hvars: ∀sp:Nat→Bool,(∀p∈before,sp p.block=true)→DataW.TrodVars enc P W' sp s.vars (s.fn H (ds++gs)).vars pv)
    (hps:before=pa++pv) (hk:W.keptBut W' (· ∈before)) (hfz: ∀a:Addr,a.block<W.heap.size→W'.frozen? a=W.frozen? a)
    (hok: ∀(j:Nat) (t:TypeId) (r:Value),f.resultTypes[j]?=some t→(v.resultList f.resultTypes.size)[j]?=some r→Value.okWide P W' .any 0 t r):
    s.post enc P f wN fresh handsOn again W args v W':=by
 have hold: ∀p∈before,(fun b=>decide (b<W.heap.size)) p.block=true:=fun p hp=>by simpa using hW.lt p hp
 refine⟨ds,gs,before,[],pa,pv,hW,hres _ _ _,hargs _ hold,hvars _ hold,World.keptBut_mono (fun p hp=>⟨hp,Or.inr (by rw[hps,List.mem_append]at hp;exact hp)⟩) hk,fun _=>?_⟩
 obtain⟨_,_,_,_,_,hz,hn⟩:=hW;refine⟨hok,_,_,([]++pa)++pv,⟨[]++pa,pv,trodAll_append (hargs _ (fun _ _=>rfl)) (hres _ _ _),hvars _ (fun _ _=>rfl),rfl,fun b off hp=>?_,fun ha=>?_⟩,fun p hp _=>by rw[hps];simpa using hp⟩
 ·have hp':MemPlace.cell b off∈before:=by rw[hps];simpa using hp
  exact(hfz _ (of_decide_eq_true (hold _ hp'))).trans (hz b off hp')
 ·have:=hn ha;rw[hps]at this;simpa using this
set_option maxRecDepth 100000 in
theorem lifted(os:Os)(started:os.Started)(H:Type)(enc:TypeId×Value→H):
    ReturnsInHanded {} Tryz.checked os 6 .any (fun w args=>(Rows.ruleExchangeSpec.pre enc Tryz.prog Tryz.f6 [] false w args∧laidMetH Tryz.prog Rows.ruleExchangeRow.laid w)∧sizedMet enc Tryz.prog Tryz.f6 (OpenSpec.ofChange Rows.ruleExchangeSpec) false w args)
      (Rows.ruleExchangeSpec.post enc Tryz.prog Tryz.f6 false true false false):=by
 refine returnsInHanded_of_change_and (C:=Tryz.checked) (X:=fun w _=>laidMetH Tryz.prog Rows.ruleExchangeRow.laid w) (fun _ _ _ hh h=>h.of_heap hh) own started (by kernel_rfl) Tryz.func6
  (ChangeSpec.witness_shaped (enc:=enc) (C:=Tryz.checked) (os:=os) (X:=fun w _=>laidMetH Tryz.prog Rows.ruleExchangeRow.laid w) false (World.doorLaid Tryz.prog 400 os) #[.slice none 0 0] 8 rfl (World.shaped_of_RefB (by kernel_rfl) (by kernel_rfl)) (by kernel_rfl) (by kernel_rfl) (by kernel_rfl) (door_met os _)) ?_
 intro W base args ds gs before hval0 hW _ _ hL _;have hval: ∀(j:Nat) t v,Tryz.f6.params[j]?=some t→args[j]?=some v→Value.okWide Tryz.prog W .any base t v:=hval0;have hW':=hW;obtain⟨p,q,hA0,hV,rfl,hfz,hnd⟩:=hW;have hA:DataW.TrodAll enc Tryz.prog W 0 (fun _=>true) true Tryz.f6.params.toList args.toList ds p:=hA0
 have hlt: ∀x∈p,x.block<W.heap.size:=fun x hx=>by simpa using hW'.lt x (List.mem_append_left _ hx)
 rw[Tryz.params6]at hA hval;have hAk:=hA;obtain⟨v0,d0,rfl,rfl,h0⟩:=trodAll_one hA;obtain⟨rfl,rfl⟩:=trodVars_none hV;have o0:=hval 0 _ v0 rfl rfl;obtain⟨cs,hcs,s0⟩:=open_u8s o0 h0;clear hA0 hval0;refine(aHn hcs (tab_of hL) (size_5 hL) s0).mono fun e W' ⟨he,hK⟩=>?_
 subst he;exact⟨_,rfl,aGQ (pv:=[]) hW' (fun _ _ _=>(trodAll_cons_mk (shut_bool Tryz.underlying4 _) trodAll_mk0)) (fun sp hsp=>oM laidOut hK (by decide+kernel) hAk hlt (fun x hx=>hsp x (List.mem_append_left _ hx))) (fun _ _=>rfl) rfl
  (World.keptBut_mono (fun _ f=>f.elim) hK.keptBut) (fun a ha=>hK.frozen ha) (ok_one (by kernel_rfl) rfl (okWide_bool_mk Tryz.underlying4 _))⟩
theorem over:Rows.RuleExchangeSaid:=
 OpenClaim.holds_of_wide 6 Tryz.f6 rfl rfl rfl rfl rfl rfl rfl ⟨rfl,rfl,rfl,rfl,rfl⟩ rfl rfl rfl rfl rfl k_fn Tryz.func6 closed
  (of_decide_eq_true (by kernel_rfl)) (by unfold Func.isWrapper;first|(rw[if_pos (by decide+kernel)];kernel_rfl)|(rw[if_neg (by decide+kernel)];exact⟨rfl,rfl⟩))
  (fun os started H enc _=>lifted os started H enc)
theorem proved:Rows.RuleExchangeCardSaid:=
 Claim7.holds_tied_plain_at .later [] [.data, .data, .data, .sentinel, .sentinel] true (true, "ee9f6b9159276d6641dad702fc8217b52f1a449c4be85fb9d9987f38a9050d47") true
  over (fun _ h=>by cases h) (by kernel_rfl) (fun _ h=>by cases h) ruleExchange_row_tie rfl ⟨rfl,rfl⟩ k_mai rfl
  (fun f fn hf hfn=>by
   obtain rfl:f=6:=Option.some.inj (k_fn.symm.trans hf)|>.symm;obtain rfl:fn=Tryz.f6:=(Option.some.inj (Tryz.func6.symm.trans hfn)).symm;exact⟨k_loo,fun j t ht=>by
    rw[Tryz.params6]at ht;have h3:t=22:=by
     rcases j with _|j
     ·simpa using ht.symm
     ·simp at ht
    rw[h3];exact(show Tryz.prog.wantsStandIn 22=false by kernel_rfl)⟩)
  k_goe
end Go.Proofs.YtojjcdpfjabepaaGreatDoor.ruleExch
