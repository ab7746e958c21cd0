import Derived.Test.YtgddcoodncbkoaaGreatDoorCards
import Derived.Test.YtgddcoodncbkoaaGreatDoorTie
import Derived.Test.YtgddcoodncbkoaaGreatDoorKal
import Derived.Test.YtgddcoodncbkoaaGreatDoorKan
import Derived.WalkKit
import Derived.ProofKit
import Derived.OpenShut
import Derived.LaidMore
import Derived.ChangeSlices
import Derived.ChangeMaps5
import Derived.WideKeyArgs
import Derived.Stop.Joined
import Derived.Stop.LaidErr
import Derived.SevenTiedAt
set_option linter.unusedVariables false
set_option linter.unusedSimpArgs false
set_option linter.constructorNameAsVariable false
set_option linter.defProp false
namespace Go.Proofs.YtgddcoodncbkoaaGreatDoor.ruleLm
open Go.ChangeShapes Go.WideShapes Go.ChangeAt Go.RowKit Go.AI Go.TV
def own:ownKnob Tryz.prog.godebug=none:=by kernel_rfl
def gPow:Tryz.prog.globalNamed pwN=some 1:=by kernel_rfl
def tPow:(Tryz.prog.globals[1]?).map (·.type)=some 280:=by kernel_rfl
def cE:Tryz.prog.cellsOf 79=1:=by kernel_rfl
def cT:Tryz.prog.cellsOf 280=20:=by kernel_rfl
def laidOut:laidOutB Tryz.prog=true:=by kernel_rfl
def door_met(os:Os)(args:Array Value):laidMetH Tryz.prog Rows.ruleLemmasRow.laid ((World.doorLaid Tryz.prog 400 os).forCall (λ_ _=>0) ⟨#[],args,[]⟩).memory:=
 laidMetH_of_parts3 (fuel:=8) (laidMet_of_run' 8 (by kernel_rfl) (by kernel_rfl)) (by kernel_rfl) (by kernel_rfl)
def tab_of{β:World}(h:laidMetH Tryz.prog Rows.ruleLemmasRow.laid β):Lib.TabIs Tryz.prog β pwN .u64 Lib.pow10Tab:=by
 rw[MakeChecks.laidMetH_plain _ _ _ (by kernel_rfl)]at h
 have h1:=laidMet.tail (laidMet.tail h);have e:(Rows.laid_internal_strconv_uint64pow10:DataW Unit)=Lib.tabData .u64 Lib.pow10Tab:=rfl;rw[e]at h1;exact Lib.tabIs_of_head gPow tPow Tryz.underlying280 Tryz.underlying79 cE cT h1
def size_of{P:Program}{β:World}{name:String}{d:DataW Unit}{rest:List (String×DataW Unit)}{g:Nat}(h:laidMet P ((name,d)::rest) β)(hg:P.globalNamed name=some g):g<β.heap.size:=by
 obtain⟨ps,⟨g',t',cs,fuel,p,q,bn,ht',nt,hd,_,_⟩,_⟩:=h;unfold World.var? at nt;simp only[hg,obS]at nt;rcases Nat.lt_or_ge g β.heap.size with h'|h'
 ·exact h'
 ·rw[Array.getElem?_eq_none h']at nt;simp at nt
def size_5{β:World}(h:laidMetH Tryz.prog Rows.ruleLemmasRow.laid β):6<=β.heap.size:=by
 rw[MakeChecks.laidMetH_plain _ _ _ (by kernel_rfl)]at h
 have h1:=size_of (g:=5) (laidMet.tail (laidMet.tail (laidMet.tail h))) (by kernel_rfl)
 omega
def aKT{β W':World}(h:Kept β W'){p:MemPlace}(hp:p.block<β.heap.size):β.sameAt W' p:=by
 cases p with
 |cell b o=>exact World.cell?_of_block (w:=β) (h.old b hp)
 |map b=>exact h.old b hp
def qM{σ:Type}{enc:TypeId×Value->σ}{P:Program}{β W':World}(hl:laidOutB P=true)(hK:Kept β W'){sp:Nat->Bool}: ∀{ts:List TypeId} {vs:List Value} {ds:List (DataW σ)} {ps:List MemPlace},(∀t∈ts,P.readableRec t=true/\t<P.types.size)->
    DataW.TrodAll enc P β 0 (λ_=>true) true ts vs ds ps->(∀p∈ps,p.block<β.heap.size)->(∀p∈ps,sp p.block=true)->DataW.TrodAll enc P W' 0 sp true ts vs ds ps
 |[],[],[],_,_,h,_,_=>h
 |t::_,_::_,_::_,_,hT,⟨p,q,h1,h2,e⟩,hb,hs=>⟨p,q,WideElems.Trod_stays hl (hT t (List.mem_cons.2 (Or.inl rfl))).1 (hT t (List.mem_cons.2 (Or.inl rfl))).2 h1 (λx hx=>aKT hK (hb x (by rw[e];exact List.mem_append_left _ hx))) (λx hx=>hs x (by rw[e];exact List.mem_append_left _ hx)),
      qM hl hK (λt ht=>hT t (List.mem_cons.2 (Or.inr ht))) h2 (λx hx=>hb x (by rw[e];exact List.mem_append_right _ hx)) (λx hx=>hs x (by rw[e];exact List.mem_append_right _ hx)),e⟩
def aKl{σ:Type}{enc:TypeId×Value->σ}{P:Program}{f:Func}{s:ChangeSpec}{aAQ fresh handsOn again:Bool}{β W':World}{args:Array Value}{v:Value}{ds gs:List (DataW σ)}{before pa pv:List MemPlace}
    (hW:DataW.Whole enc P f.params.toList s.vars aAQ β args.toList ds gs before)
    (kc: ∀(b:Nat) (sp:Nat->Bool) (hd:Bool),DataW.TrodAll enc P W' b sp hd f.resultTypes.toList (v.resultList f.resultTypes.size) (s.fn σ (ds++gs)).results [])
    (hargs: ∀sp:Nat->Bool,(∀p∈before,sp p.block=true)->DataW.TrodAll enc P W' 0 sp true f.params.toList args.toList (s.fn σ (ds++gs)).args pa)
    (px: ∀sp:Nat->Bool,(∀p∈before,sp p.block=true)->DataW.TrodVars enc P W' sp s.vars (s.fn σ (ds++gs)).vars pv)
    (jv:before=pa++pv) (hk:β.keptBut W' (· ∈before)) (mc: ∀a:Addr,a.block<β.heap.size->W'.frozen? a=β.frozen? a)
    (bz: ∀(j:Nat) (t:TypeId) (r:Value),f.resultTypes[j]?=some t->(v.resultList f.resultTypes.size)[j]?=some r->Value.okWide P W' .any 0 t r):
    s.post enc P f aAQ fresh handsOn again β args v W':=by
 have hold: ∀p∈before,(λb=>decide (b<β.heap.size)) p.block=true:=λp hp=>by simpa using hW.lt p hp
 refine⟨ds,gs,before,[],pa,pv,hW,kc _ _ _,hargs _ hold,px _ hold,World.keptBut_mono (λp hp=>⟨hp,Or.inr (by rw[jv,List.mem_append]at hp;exact hp)⟩) hk,λ_=>?_⟩
 obtain⟨_,_,_,_,_,hz,hn⟩:=hW;refine⟨bz,_,_,([]++pa)++pv,⟨[]++pa,pv,trodAll_append (hargs _ (λ_ _=>rfl)) (kc _ _ _),px _ (λ_ _=>rfl),rfl,λb off hp=>?_,λha=>?_⟩,λp hp _=>by rw[jv];simpa using hp⟩
 ·have du:MemPlace.cell b off∈before:=by rw[jv];simpa using hp
  exact(mc _ (of_decide_eq_true (hold _ du))).trans (hz b off du)
 ·have:=hn ha;rw[jv]at this;simpa using this
set_option maxRecDepth 100000 in
def lifted(os:Os)(started:os.Started)(σ:Type)(enc:TypeId×Value->σ):
    ReturnsInHanded {} Tryz.checked os 4 .any (λw args=>(Rows.ruleLemmasSpec.pre enc Tryz.prog Tryz.f4 [] false w args/\laidMetH Tryz.prog Rows.ruleLemmasRow.laid w)/\sizedMet enc Tryz.prog Tryz.f4 (OpenSpec.ofChange Rows.ruleLemmasSpec) false w args)
      (Rows.ruleLemmasSpec.post enc Tryz.prog Tryz.f4 false true false false):=by
 refine returnsInHanded_of_change_and (C:=Tryz.checked) (X:=λw _=>laidMetH Tryz.prog Rows.ruleLemmasRow.laid w) (λ_ _ _ hh h=>h.of_heap hh) own started (by kernel_rfl) Tryz.func4
  (ChangeSpec.witness_shaped (enc:=enc) (C:=Tryz.checked) (os:=os) (X:=λw _=>laidMetH Tryz.prog Rows.ruleLemmasRow.laid w) false (World.doorLaid Tryz.prog 400 os) #[.int .u32 0,.int .u8 0,.int .u8 0] 8 rfl (World.shaped_of_RefB (by kernel_rfl) (by kernel_rfl)) (by kernel_rfl) (by kernel_rfl) (by kernel_rfl) (door_met os _)) ?_
 intro β base args ds gs before hval0 hW _ _ hL _;have lh: ∀(j:Nat) t v,Tryz.f4.params[j]?=some t->args[j]?=some v->Value.okWide Tryz.prog β .any base t v:=hval0;have hW':=hW;obtain⟨p,q,hA0,hV,rfl,mc,gb⟩:=hW;have hA:DataW.TrodAll enc Tryz.prog β 0 (λ_=>true) true Tryz.f4.params.toList args.toList ds p:=hA0
 have bi: ∀x∈p,x.block<β.heap.size:=λx hx=>by simpa using hW'.lt x (List.mem_append_left _ hx)
 rw[Tryz.params4]at hA lh;have hAk:=hA;obtain⟨v0,vs0,d0,ds0,p0,q0,hargs,rfl,rfl,h0,r0⟩:=trodAll_cons hA;obtain⟨v1,vs1,d1,ds1,p1,q1,rfl,rfl,rfl,h1,r1⟩:=trodAll_cons r0;obtain⟨v2,vs2,d2,ds2,p2,q2,rfl,rfl,rfl,h2,r2⟩:=trodAll_cons r1;obtain⟨rfl,rfl,rfl⟩:=trodAll_nil r2;obtain rfl:args= #[v0,v1,v2]:=by cases args;simp_all
 obtain⟨rfl,rfl⟩:=trodVars_none hV;obtain⟨a0,rfl,rfl,rfl,w0⟩:=open_int Tryz.underlying22 (lh 0 _ v0 rfl rfl) h0;obtain⟨a1,rfl,rfl,rfl,w1⟩:=open_int Tryz.underlying5 (lh 1 _ v1 rfl rfl) h1;have hb1:=Go.bounds_u8 w1;obtain⟨a2,rfl,rfl,rfl,w2⟩:=open_int Tryz.underlying5 (lh 2 _ v2 rfl rfl) h2;have hb2:=Go.bounds_u8 w2;clear hA0 hval0;refine(aKR _ (by omega) (by omega) (tab_of hL) (size_5 hL)).mono λe W' ⟨he,hK⟩=>?_
 subst he;exact⟨_,rfl,aKl (pv:=[]) hW' (λ_ _ _=>(trodAll_cons_mk (shut_bool Tryz.underlying4 _) trodAll_mk0)) (λsp hsp=>qM laidOut hK (by decide+kernel) hAk bi (λx hx=>hsp x (List.mem_append_left _ hx))) (λ_ _=>rfl) rfl
  (World.keptBut_mono (λ_ f=>f.elim) hK.keptBut) (λa ha=>hK.frozen ha) (ok_one (by kernel_rfl) rfl (okWide_bool_mk Tryz.underlying4 _))⟩
def over:Rows.RuleLemmasSaid:=
 OpenClaim.holds_of_wide 4 Tryz.f4 rfl rfl rfl rfl rfl rfl rfl ⟨rfl,rfl,rfl,rfl,rfl⟩ rfl rfl rfl rfl rfl k_fn Tryz.func4 closed
  (of_decide_eq_true (by kernel_rfl)) (by unfold Func.isWrapper;first|(rw[if_pos (by decide+kernel)];kernel_rfl)|(rw[if_neg (by decide+kernel)];exact⟨rfl,rfl⟩))
  (λos started σ enc _=>lifted os started σ enc)
theorem proved:Rows.RuleLemmasCardSaid:=
 Claim7.holds_tied_plain_at .later [] [.data, .data, .data, .sentinel, .sentinel] true (true, "cd35225b608d4f2a3434981042f314a9ca4b9fa07c5b8ae5fba89e513f159d5b") true
  over (λ_ h=>by cases h) (by kernel_rfl) (λ_ h=>by cases h) ruleLemmas_row_tie rfl ⟨rfl,rfl⟩ k_mai rfl
  (λf fn hf fi=>by
   obtain rfl:f=4:=Option.some.inj (k_fn.symm.trans hf)|>.symm;obtain rfl:fn=Tryz.f4:=(Option.some.inj (Tryz.func4.symm.trans fi)).symm;exact⟨k_loo,λj t ht=>by
    rw[Tryz.params4]at ht;have h3:t=22∨t=5∨t=5:=by
     rcases j with _|j
     ·exact .inl (by simpa using ht.symm)
     rcases j with _|j
     ·exact .inr (.inl (by simpa using ht.symm))
     rcases j with _|j
     ·exact .inr (.inr (by simpa using ht.symm))
     simp at ht
    rcases h3 with rfl|rfl|rfl
    ·exact(show Tryz.prog.wantsStandIn 22=false by kernel_rfl)
    ·exact(show Tryz.prog.wantsStandIn 5=false by kernel_rfl)
    ·exact(show Tryz.prog.wantsStandIn 5=false by kernel_rfl)⟩)
  k_goe
end Go.Proofs.YtgddcoodncbkoaaGreatDoor.ruleLm
