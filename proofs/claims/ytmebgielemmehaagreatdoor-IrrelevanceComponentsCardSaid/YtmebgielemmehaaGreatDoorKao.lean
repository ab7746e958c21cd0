import Derived.Test.YtmebgielemmehaaGreatDoorKal
import Derived.Test.YtmebgielemmehaaGreatDoorKan
import Derived.OpenShut
import Derived.LaidMore
import Derived.Stop.LaidErr
set_option linter.unusedVariables false
set_option linter.unusedSimpArgs false
set_option linter.constructorNameAsVariable false
set_option linter.defProp false
namespace Go.Proofs.YtmebgielemmehaaGreatDoor.irrComp
open Go.ChangeShapes Go.WideShapes Go.ChangeAt Go.RowKit Go.AI Go.TV
def own:ownKnob Tryz.prog.godebug=none:=by kernel_rfl
def a2i:Tryz.prog.globalNamed aK2=some 0:=by kernel_rfl
def aYS:(Tryz.prog.globals[0]?).map (·.type)=some 266:=by kernel_rfl
def cE:Tryz.prog.cellsOf 74=1:=by kernel_rfl
def cT:Tryz.prog.cellsOf 266=20:=by kernel_rfl
def aCB:laidOutB Tryz.prog=true:=by kernel_rfl
def Xa(os:Os)(args:Array Value):laidMetH Tryz.prog Rows.irrelevanceComponentsRow.laid ((World.doorLaid Tryz.prog 400 os).forCall (λ_ _=>0) ⟨#[],args,[]⟩).memory:=
 laidMetH_of_parts3 (fuel:=8) (laidMet_of_run' 8 (by kernel_rfl) (by kernel_rfl)) (by kernel_rfl) (by kernel_rfl)
def aJI{β:World}(h:laidMetH Tryz.prog Rows.irrelevanceComponentsRow.laid β):Lib.TabIs Tryz.prog β aK2 .u64 Lib.pow10Tab:=by
 rw[MakeChecks.laidMetH_plain _ _ _ (by kernel_rfl)]at h
 have h1:=laidMet.tail (laidMet.tail h);have e:(Rows.laid_internal_strconv_uint64pow10:DataW Unit)=Lib.tabData .u64 Lib.pow10Tab:=rfl;rw[e]at h1;exact Lib.tabIs_of_head a2i aYS Tryz.underlying266 Tryz.underlying74 cE cT h1
def aBz{P:Program}{β:World}{name:String}{d:DataW Unit}{rest:List (String×DataW Unit)}{g:Nat}(h:laidMet P ((name,d)::rest) β)(hg:P.globalNamed name=some g):g<β.heap.size:=by
 obtain⟨ps,⟨g',t',cs,fuel,p,q,bp,ht',pf,hd,_,_⟩,_⟩:=h;unfold World.var? at pf;simp only[hg,aL]at pf;rcases Nat.lt_or_ge g β.heap.size with h'|h'
 .exact h'
 .rw[Array.getElem?_eq_none h']at pf;simp at pf
def aJU{β:World}(h:laidMetH Tryz.prog Rows.irrelevanceComponentsRow.laid β):5<=β.heap.size:=by
 rw[MakeChecks.laidMetH_plain _ _ _ (by kernel_rfl)]at h
 have h1:=aBz (g:=4) (laidMet.tail (laidMet.tail (laidMet.tail h))) (by kernel_rfl)
 omega
def Ef{w:World}{a:Addr}{v:Value}(h:w.cell? a=some v): ∃C t fr,w.heap[a.block]?=some (Obj.cells C t fr)/\a.spot=none/\C[a.off]?=some v:=by
 unfold World.cell? at h;split at h
 .rename_i C t fr hh;split at h
  .cases h
  .rename_i hs;exact⟨C,t,fr,hh,by simpa using hs,h⟩
 .cases h
def SS{w:World}{a:Addr}{α:Nat}{V:Nat->Value}(hN:0<α)(h: ∀i,i<α->w.cell? (a.add i)=some (V i)):
    ∃b off C t fr,a=⟨b,off,none⟩/\w.heap[b]?=some (Obj.cells C t fr)/\∀i,i<α->C[off+i]?=some (V i):=by
 obtain⟨b,off,spot⟩:=a;have hspot:spot=none:=by simpa [Addr.add]using World.cell?_spot (h 0 hN)
 subst hspot;obtain⟨C,t,fr,h1,_,h3⟩:=Ef (h 0 hN);have e0:(Addr.add ⟨b,off,none⟩ 0)=⟨b,off,none⟩:=by rw[Go.WideShapes.add_plain];rfl
 rw[e0]at h1 h3;refine⟨b,off,C,t,fr,rfl,h1,λi hi=>?_⟩
 obtain⟨C',t',qu,g1,_,g3⟩:=Ef (h i hi);rw[Go.WideShapes.add_plain]at g1 g3;simp only at g1 g3 h1;rw[h1]at g1;cases g1;exact g3
set_option maxRecDepth 100000 in
def Vk{σ:Type}{enc:TypeId×Value->σ}{w:World}{b0:Nat}{v:Value}{d:DataW σ}{ps:List MemPlace}(hv:Value.okWide Tryz.prog w .any b0 22 v)(h:DataW.Trod enc Tryz.prog w 0 (λ_=>true) true 22 v d ps):
    ∃cs:List Int,(∀k∈cs,0<=k/\k<256)/\((v= .slice none 0 0/\cs.length=0)∨∃a cap,v= .slice (some a) cs.length cap/\cs.length<=cap/\(0<cs.length->∃b off C t fr,a=⟨b,off,none⟩/\w.heap[b]?=some (Obj.cells C t fr)/\∀(i:Nat) (x:Value),(Tu cs)[i]?=some x->C[off+i]?=some x)):=by
 obtain⟨fuel,hf⟩:=h;obtain⟨a0,len,cap,rfl⟩:=Go.WideShapes.okWide_slice Tryz.underlying22 hv;rcases Go.ChangeShapes.open_ints Tryz.underlying22 Tryz.underlying5 (by kernel_rfl) hf with⟨hcs,hx⟩|⟨a,qw,gk,zs,hcs,_,hl,hm,hz,hx,bu,hws⟩
 .have:Value.slice a0 len cap= .slice none 0 0:=by simpa [Value.cells]using hcs
  exact⟨[],(by simp),Or.inl ⟨this,rfl⟩⟩
 .have hvv:Value.slice a0 len cap= .slice (some a) qw gk:=by simpa [Value.cells]using hcs
  rw[bI rfl]at hz;have hb: ∀n∈zs,0<=n/\n<=255:=λn hn=>Go.bounds_u8 (hws n hn)
  refine⟨zs.take qw,?_,Or.inr ⟨a,gk,?_,?_,?_⟩⟩
  .intro k hk;have:=hb k (List.mem_of_mem_take hk);omega
  .rw[hvv];simp;omega
  .simp;omega
  .intro h0;simp only[List.length_take]at h0;obtain⟨b,off,C,t,fr,rfl,g1,g2⟩:=SS (V:=λi=> .int .u8 (zs.getD i 0)) (α:=zs.length) (by omega) bu
   refine⟨b,off,C,t,fr,rfl,g1,λi x hx=>?_⟩
   simp only[Tu,List.getElem?_map,aF]at hx;obtain⟨y,hy,rfl⟩:=hx;rw[List.getElem?_take]at hy;split at hy
   .have hi:=(List.getElem?_eq_some_iff.1 hy).1;rw[g2 i hi];simp only[List.getD_eq_getElem?_getD,hy,Option.getD_some]
   .cases hy
def SH{β W':World}(h:Kept β W'){p:MemPlace}(hp:p.block<β.heap.size):β.sameAt W' p:=by
 cases p with
 |cell b o=>exact World.cell?_of_block (w:=β) (h.old b hp)
 |map b=>exact h.old b hp
def vE{σ:Type}{enc:TypeId×Value->σ}{P:Program}{β W':World}(hl:laidOutB P=true)(hK:Kept β W'){sp:Nat->Bool}: ∀{ts:List TypeId} {vs:List Value} {ds:List (DataW σ)} {ps:List MemPlace},(∀t∈ts,P.readableRec t=true/\t<P.types.size)->
    DataW.TrodAll enc P β 0 (λ_=>true) true ts vs ds ps->(∀p∈ps,p.block<β.heap.size)->(∀p∈ps,sp p.block=true)->DataW.TrodAll enc P W' 0 sp true ts vs ds ps
 |[],[],[],_,_,h,_,_=>h
 |t::_,_::_,_::_,_,hT,⟨p,q,h1,h2,e⟩,hb,hs=>⟨p,q,WideElems.Trod_stays hl (hT t (List.mem_cons.2 (Or.inl rfl))).1 (hT t (List.mem_cons.2 (Or.inl rfl))).2 h1 (λx hx=>SH hK (hb x (by rw[e];exact List.mem_append_left _ hx))) (λx hx=>hs x (by rw[e];exact List.mem_append_left _ hx)),
      vE hl hK (λt ht=>hT t (List.mem_cons.2 (Or.inr ht))) h2 (λx hx=>hb x (by rw[e];exact List.mem_append_right _ hx)) (λx hx=>hs x (by rw[e];exact List.mem_append_right _ hx)),e⟩
def Su{σ:Type}{enc:TypeId×Value->σ}{P:Program}{f:Func}{s:ChangeSpec}{wH fresh handsOn again:Bool}{β W':World}{args:Array Value}{v:Value}{ds gs:List (DataW σ)}{before pa pv:List MemPlace}
    (hW:DataW.Whole enc P f.params.toList s.vars wH β args.toList ds gs before)
    (df: ∀(b:Nat) (sp:Nat->Bool) (hd:Bool),DataW.TrodAll enc P W' b sp hd f.resultTypes.toList (v.resultList f.resultTypes.size) (s.fn σ (ds++gs)).results [])
    (hargs: ∀sp:Nat->Bool,(∀p∈before,sp p.block=true)->DataW.TrodAll enc P W' 0 sp true f.params.toList args.toList (s.fn σ (ds++gs)).args pa)
    (qf: ∀sp:Nat->Bool,(∀p∈before,sp p.block=true)->DataW.TrodVars enc P W' sp s.vars (s.fn σ (ds++gs)).vars pv)
    (jo:before=pa++pv) (hk:β.keptBut W' (· ∈before)) (mb: ∀a:Addr,a.block<β.heap.size->W'.frozen? a=β.frozen? a)
    (bw: ∀(j:Nat) (t:TypeId) (r:Value),f.resultTypes[j]?=some t->(v.resultList f.resultTypes.size)[j]?=some r->Value.okWide P W' .any 0 t r):
    s.post enc P f wH fresh handsOn again β args v W':=by
 have hold: ∀p∈before,(λb=>decide (b<β.heap.size)) p.block=true:=λp hp=>by simpa using hW.lt p hp
 refine⟨ds,gs,before,[],pa,pv,hW,df _ _ _,hargs _ hold,qf _ hold,World.keptBut_mono (λp hp=>⟨hp,Or.inr (by rw[jo,List.mem_append]at hp;exact hp)⟩) hk,λ_=>?_⟩
 obtain⟨_,_,_,_,_,hz,hn⟩:=hW;refine⟨bw,_,_,([]++pa)++pv,⟨[]++pa,pv,trodAll_append (hargs _ (λ_ _=>rfl)) (df _ _ _),qf _ (λ_ _=>rfl),rfl,λb off hp=>?_,λha=>?_⟩,λp hp _=>by rw[jo];simpa using hp⟩
 .have ph:MemPlace.cell b off∈before:=by rw[jo];simpa using hp
  exact(mb _ (bK (hold _ ph))).trans (hz b off ph)
 .have:=hn ha;rw[jo]at this;simpa using this
set_option maxRecDepth 100000 in
def lifted(os:Os)(started:os.Started)(σ:Type)(enc:TypeId×Value->σ):
    ReturnsInHanded {} Tryz.checked os 3 .any (λw args=>(Rows.irrelevanceComponentsSpec.pre enc Tryz.prog Tryz.f3 [] false w args/\laidMetH Tryz.prog Rows.irrelevanceComponentsRow.laid w)/\sizedMet enc Tryz.prog Tryz.f3 (OpenSpec.ofChange Rows.irrelevanceComponentsSpec) false w args)
      (Rows.irrelevanceComponentsSpec.post enc Tryz.prog Tryz.f3 false true false false):=by
 refine returnsInHanded_of_change_and (C:=Tryz.checked) (X:=λw _=>laidMetH Tryz.prog Rows.irrelevanceComponentsRow.laid w) (λ_ _ _ hh h=>h.of_heap hh) own started (by kernel_rfl) Tryz.func3
  (ChangeSpec.witness_shaped (enc:=enc) (C:=Tryz.checked) (os:=os) (X:=λw _=>laidMetH Tryz.prog Rows.irrelevanceComponentsRow.laid w) false (World.doorLaid Tryz.prog 400 os) #[.slice none 0 0] 8 rfl (World.shaped_of_RefB (by kernel_rfl) (by kernel_rfl)) (by kernel_rfl) (by kernel_rfl) (by kernel_rfl) (Xa os _)) ?_
 intro β base args ds gs before hval0 hW _ _ hL _;have pg: ∀(j:Nat) t v,Tryz.f3.params[j]?=some t->args[j]?=some v->Value.okWide Tryz.prog β .any base t v:=hval0;have hW':=hW;obtain⟨p,q,hA0,hV,rfl,mb,ge⟩:=hW;have hA:DataW.TrodAll enc Tryz.prog β 0 (λ_=>true) true Tryz.f3.params.toList args.toList ds p:=hA0
 have bh: ∀x∈p,x.block<β.heap.size:=λx hx=>by simpa using hW'.lt x (List.mem_append_left _ hx)
 rw[Tryz.params3]at hA pg;have hAk:=hA;obtain⟨v0,d0,rfl,rfl,h0⟩:=trodAll_one hA;obtain⟨rfl,rfl⟩:=trodVars_none hV;have o0:=pg 0 _ v0 rfl rfl;obtain⟨cs,hcs,rg⟩:=Vk o0 h0;clear hA0 hval0;refine(SF hcs (aJI hL) (aJU hL) rg).mono λe W' ⟨he,hK⟩=>?_
 subst he;exact⟨_,rfl,Su (pv:=[]) hW' (λ_ _ _=>(trodAll_cons_mk (shut_bool Tryz.underlying4 _) trodAll_mk0)) (λsp lq=>vE aCB hK (by decide+kernel) hAk bh (λx hx=>lq x (List.mem_append_left _ hx))) (λ_ _=>rfl) rfl
  (World.keptBut_mono (λ_ f=>f.elim) hK.keptBut) (λa ha=>hK.frozen ha) (ok_one (by kernel_rfl) rfl (okWide_bool_mk Tryz.underlying4 _))⟩
def over:Rows.IrrelevanceComponentsSaid:=
 OpenClaim.holds_of_wide 3 Tryz.f3 rfl rfl rfl rfl rfl rfl rfl ⟨rfl,rfl,rfl,rfl,rfl⟩ rfl rfl rfl rfl rfl k_fn Tryz.func3 closed
  (bK (by kernel_rfl)) (by unfold Func.isWrapper;first|(rw[bI (by decide+kernel)];kernel_rfl)|(rw[bH (by decide+kernel)];exact⟨rfl,rfl⟩))
  (λos started σ enc _=>lifted os started σ enc)
theorem proved:Rows.IrrelevanceComponentsCardSaid:=
 Claim7.holds_tied_plain_at .later [] [.data,.data,.data,.sentinel,.sentinel] true (true, "32673837859dd6236d1c6885efea6b5bb3011b51394295dea89f3d0553329e8b") true
  over (λ_ h=>by cases h) (by kernel_rfl) (λ_ h=>by cases h) irrelevanceComponents_row_tie rfl ⟨rfl,rfl⟩ aTL rfl
  (λf fn hf gh=>by
   obtain rfl:f=3:=Option.some.inj (k_fn.symm.trans hf)|>.symm;obtain rfl:fn=Tryz.f3:=(Option.some.inj (Tryz.func3.symm.trans gh)).symm;exact⟨aTM,λj t ht=>by
    rw[Tryz.params3]at ht;have h3:t=22:=by
     rcases j with _|j
     .simpa using ht.symm
     .simp at ht
    subst h3;exact(show Tryz.prog.wantsStandIn 22=false by kernel_rfl)⟩)
  aTQ
end Go.Proofs.YtmebgielemmehaaGreatDoor.irrComp
