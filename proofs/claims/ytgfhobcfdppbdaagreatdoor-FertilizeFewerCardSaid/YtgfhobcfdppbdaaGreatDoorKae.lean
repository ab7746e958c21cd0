import Derived.Test.YtgfhobcfdppbdaaGreatDoorKab
import Derived.Test.YtgfhobcfdppbdaaGreatDoorKad
import Derived.OpenShut
import Derived.LaidMore
import Derived.Stop.LaidErr
open Option renaming some->aa
open Bool renaming true->ae
open Go renaming Value->au
set_option linter.unusedVariables false
set_option linter.unusedSimpArgs false
set_option linter.constructorNameAsVariable false
set_option linter.defProp false
namespace Go.Proofs.YtgfhobcfdppbdaaGreatDoor.fertFew
open Go.ChangeShapes Go.WideShapes Go.ChangeAt Go.RowKit Go.AI Go.TV
def own:ownKnob Tryz.prog.godebug=none:=by kernel_rfl
def bNf:Tryz.prog.globalNamed a8M=aa 0:=by kernel_rfl
def bJs:(Tryz.prog.globals[0]?).map (·.type)=aa 276:=by kernel_rfl
def cE:Tryz.prog.cellsOf 68=1:=by kernel_rfl
def cT:Tryz.prog.cellsOf 276=20:=by kernel_rfl
def aO6:laidOutB Tryz.prog=ae:=by kernel_rfl
def aHX(os:Os)(args:Array au):laidMetH Tryz.prog Rows.fertilizeFewerRow.laid ((World.doorLaid Tryz.prog 400 os).forCall (λ_ _=>0) ⟨#[],args,[]⟩).memory:=
 laidMetH_of_parts3 (fuel:=8) (laidMet_of_run' 8 (by kernel_rfl) (by kernel_rfl)) (by kernel_rfl) (by kernel_rfl)
def aXe{β:World}(h:laidMetH Tryz.prog Rows.fertilizeFewerRow.laid β):Lib.TabIs Tryz.prog β a8M .u64 Lib.pow10Tab:=by
 rw[MakeChecks.laidMetH_plain _ _ _ (by kernel_rfl)]at h
 have h1:=laidMet.tail (laidMet.tail h);have e:(Rows.laid_internal_strconv_uint64pow10:DataW Unit)=Lib.tabData .u64 Lib.pow10Tab:=rfl;rw[e]at h1;exact Lib.tabIs_of_head bNf bJs Tryz.underlying276 Tryz.underlying68 cE cT h1
def aNT{P:Program}{β:World}{name:String}{d:DataW Unit}{rest:List (String×DataW Unit)}{g:Nat}(h:laidMet P ((name,d)::rest) β)(hg:P.globalNamed name=aa g):g<β.heap.size:=by
 obtain⟨ps,⟨g',t',cs,fuel,p,q,bm,ht',py,hd,_,_⟩,_⟩:=h;unfold World.var? at py;simp only[hg,aL]at py;rcases Nat.lt_or_ge g β.heap.size with h'|h'
 .exact h'
 .rw[Array.getElem?_eq_none h']at py;simp at py
def aXt{β:World}(h:laidMetH Tryz.prog Rows.fertilizeFewerRow.laid β):5<=β.heap.size:=by
 rw[MakeChecks.laidMetH_plain _ _ _ (by kernel_rfl)]at h
 have h1:=aNT (g:=4) (laidMet.tail (laidMet.tail (laidMet.tail h))) (by kernel_rfl)
 omega
def IP{w:World}{a:Addr}{v:au}(h:w.cell? a=aa v): ∃C t fr,w.heap[a.block]?=aa (Obj.cells C t fr)/\a.spot=none/\C[a.off]?=aa v:=by
 unfold World.cell? at h;split at h
 .rename_i C t fr hh;split at h
  .cases h
  .rename_i hs;exact⟨C,t,fr,hh,by simpa using hs,h⟩
 .cases h
def aC5{w:World}{a:Addr}{α:Nat}{V:Nat->au}(hN:0<α)(h: ∀i,i<α->w.cell? (a.add i)=aa (V i)):
    ∃b off C t fr,a=⟨b,off,none⟩/\w.heap[b]?=aa (Obj.cells C t fr)/\∀i,i<α->C[off+i]?=aa (V i):=by
 obtain⟨b,off,spot⟩:=a;have hspot:spot=none:=by simpa [Addr.add]using World.cell?_spot (h 0 hN)
 subst hspot;obtain⟨C,t,fr,h1,_,h3⟩:=IP (h 0 hN);have e0:(Addr.add ⟨b,off,none⟩ 0)=⟨b,off,none⟩:=by rw[Go.WideShapes.add_plain];rfl
 rw[e0]at h1 h3;refine⟨b,off,C,t,fr,rfl,h1,λi hi=>?_⟩
 obtain⟨C',t',fr',g1,_,g3⟩:=IP (h i hi);rw[Go.WideShapes.add_plain]at g1 g3;simp only at g1 g3 h1;rw[h1]at g1;cases g1;exact g3
set_option maxRecDepth 100000 in
def QM{σ:Type}{enc:TypeId×au->σ}{w:World}{b0:Nat}{v:au}{d:DataW σ}{ps:List MemPlace}(hv:Value.okWide Tryz.prog w .any b0 22 v)(h:DataW.Trod enc Tryz.prog w 0 (λ_=>ae) ae 22 v d ps):
    ∃cs:List Int,(∀k∈cs,0<=k/\k<256)/\((v= .slice none 0 0/\cs.length=0)∨∃a cap,v= .slice (aa a) cs.length cap/\cs.length<=cap/\(0<cs.length->∃b off C t fr,a=⟨b,off,none⟩/\w.heap[b]?=aa (Obj.cells C t fr)/\∀(i:Nat) (x:au),(ZA cs)[i]?=aa x->C[off+i]?=aa x)):=by
 obtain⟨fuel,hf⟩:=h;obtain⟨a0,len,cap,rfl⟩:=Go.WideShapes.okWide_slice Tryz.underlying22 hv;rcases Go.ChangeShapes.open_ints Tryz.underlying22 Tryz.underlying5 (by kernel_rfl) hf with⟨hcs,hx⟩|⟨a,se,vp,zs,hcs,_,hl,hm,hz,hx,ny,hws⟩
 .have:Value.slice a0 len cap= .slice none 0 0:=by simpa [Value.cells]using hcs
  exact⟨[],(by simp),Or.inl ⟨this,rfl⟩⟩
 .have hvv:Value.slice a0 len cap= .slice (aa a) se vp:=by simpa [Value.cells]using hcs
  rw[bI rfl]at hz;have hb: ∀n∈zs,0<=n/\n<=255:=λn hn=>Go.bounds_u8 (hws n hn)
  refine⟨zs.take se,?_,Or.inr ⟨a,vp,?_,?_,?_⟩⟩
  .intro k hk;have:=hb k (List.mem_of_mem_take hk);omega
  .rw[hvv];simp;omega
  .simp;omega
  .intro h0;simp only[List.length_take]at h0;obtain⟨b,off,C,t,fr,rfl,g1,g2⟩:=aC5 (V:=λi=> .int .u8 (zs.getD i 0)) (α:=zs.length) (by omega) ny
   refine⟨b,off,C,t,fr,rfl,g1,λi x hx=>?_⟩
   simp only[ZA,List.getElem?_map,aF]at hx;obtain⟨y,hy,rfl⟩:=hx;rw[List.getElem?_take]at hy;split at hy
   .have hi:=(List.getElem?_eq_some_iff.1 hy).1;rw[g2 i hi];simp only[List.getD_eq_getElem?_getD,hy,Option.getD_some]
   .cases hy
def aCO{β W':World}(h:Kept β W'){p:MemPlace}(hp:p.block<β.heap.size):β.sameAt W' p:=by
 cases p with
 |cell b o=>exact World.cell?_of_block (w:=β) (h.old b hp)
 |map b=>exact h.old b hp
def Az{σ:Type}{enc:TypeId×au->σ}{P:Program}{β W':World}(hl:laidOutB P=ae)(hK:Kept β W'){sp:Nat->Bool}: ∀{ts:List TypeId} {vs:List au} {ds:List (DataW σ)} {ps:List MemPlace},(∀t∈ts,P.readableRec t=ae/\t<P.types.size)->
    DataW.TrodAll enc P β 0 (λ_=>ae) ae ts vs ds ps->(∀p∈ps,p.block<β.heap.size)->(∀p∈ps,sp p.block=ae)->DataW.TrodAll enc P W' 0 sp ae ts vs ds ps
 |[],[],[],_,_,h,_,_=>h
 |t::_,_::_,_::_,_,hT,⟨p,q,h1,h2,e⟩,hb,hs=>⟨p,q,WideElems.Trod_stays hl (hT t (List.mem_cons.2 (Or.inl rfl))).1 (hT t (List.mem_cons.2 (Or.inl rfl))).2 h1 (λx hx=>aCO hK (hb x (by rw[e];exact List.mem_append_left _ hx))) (λx hx=>hs x (by rw[e];exact List.mem_append_left _ hx)),
      Az hl hK (λt ht=>hT t (List.mem_cons.2 (Or.inr ht))) h2 (λx hx=>hb x (by rw[e];exact List.mem_append_right _ hx)) (λx hx=>hs x (by rw[e];exact List.mem_append_right _ hx)),e⟩
def aCx{σ:Type}{enc:TypeId×au->σ}{P:Program}{f:Func}{s:ChangeSpec}{Bu fresh handsOn again:Bool}{β W':World}{args:Array au}{v:au}{ds gs:List (DataW σ)}{before pa pv:List MemPlace}
    (hW:DataW.Whole enc P f.params.toList s.vars Bu β args.toList ds gs before)
    (kn: ∀(b:Nat) (sp:Nat->Bool) (hd:Bool),DataW.TrodAll enc P W' b sp hd f.resultTypes.toList (v.resultList f.resultTypes.size) (s.fn σ (ds++gs)).results [])
    (hargs: ∀sp:Nat->Bool,(∀p∈before,sp p.block=ae)->DataW.TrodAll enc P W' 0 sp ae f.params.toList args.toList (s.fn σ (ds++gs)).args pa)
    (qw: ∀sp:Nat->Bool,(∀p∈before,sp p.block=ae)->DataW.TrodVars enc P W' sp s.vars (s.fn σ (ds++gs)).vars pv)
    (ke:before=pa++pv) (hk:β.keptBut W' (· ∈before)) (mc: ∀a:Addr,a.block<β.heap.size->W'.frozen? a=β.frozen? a)
    (bz: ∀(j:Nat) (t:TypeId) (r:au),f.resultTypes[j]?=aa t->(v.resultList f.resultTypes.size)[j]?=aa r->Value.okWide P W' .any 0 t r):
    s.post enc P f Bu fresh handsOn again β args v W':=by
 have hold: ∀p∈before,(λb=>decide (b<β.heap.size)) p.block=ae:=λp hp=>by simpa using hW.lt p hp
 refine⟨ds,gs,before,[],pa,pv,hW,kn _ _ _,hargs _ hold,qw _ hold,World.keptBut_mono (λp hp=>⟨hp,Or.inr (by rw[ke,List.mem_append]at hp;exact hp)⟩) hk,λ_=>?_⟩
 obtain⟨_,_,_,_,_,hz,hn⟩:=hW;refine⟨bz,_,_,([]++pa)++pv,⟨[]++pa,pv,trodAll_append (hargs _ (λ_ _=>rfl)) (kn _ _ _),qw _ (λ_ _=>rfl),rfl,λb off hp=>?_,λha=>?_⟩,λp hp _=>by rw[ke];simpa using hp⟩
 .have qc:MemPlace.cell b off∈before:=by rw[ke];simpa using hp
  exact(mc _ (of_decide_eq_true (hold _ qc))).trans (hz b off qc)
 .have:=hn ha;rw[ke]at this;simpa using this
set_option maxRecDepth 100000 in
def lifted(os:Os)(started:os.Started)(σ:Type)(enc:TypeId×au->σ):
    ReturnsInHanded {} Tryz.checked os 3 .any (λw args=>(Rows.fertilizeFewerSpec.pre enc Tryz.prog Tryz.f3 [] false w args/\laidMetH Tryz.prog Rows.fertilizeFewerRow.laid w)/\sizedMet enc Tryz.prog Tryz.f3 (OpenSpec.ofChange Rows.fertilizeFewerSpec) false w args)
      (Rows.fertilizeFewerSpec.post enc Tryz.prog Tryz.f3 false ae false false):=by
 refine returnsInHanded_of_change_and (C:=Tryz.checked) (X:=λw _=>laidMetH Tryz.prog Rows.fertilizeFewerRow.laid w) (λ_ _ _ hh h=>h.of_heap hh) own started (by kernel_rfl) Tryz.func3
  (ChangeSpec.witness_shaped (enc:=enc) (C:=Tryz.checked) (os:=os) (X:=λw _=>laidMetH Tryz.prog Rows.fertilizeFewerRow.laid w) false (World.doorLaid Tryz.prog 400 os) #[.slice none 0 0,.slice none 0 0] 8 rfl (World.shaped_of_RefB (by kernel_rfl) (by kernel_rfl)) (by kernel_rfl) (by kernel_rfl) (by kernel_rfl) (aHX os _)) ?_
 intro β base args ds gs before hval0 hW _ _ hL _;have mu: ∀(j:Nat) t v,Tryz.f3.params[j]?=aa t->args[j]?=aa v->Value.okWide Tryz.prog β .any base t v:=hval0;have hW':=hW;obtain⟨p,q,hA0,hV,rfl,mc,gi⟩:=hW;have hA:DataW.TrodAll enc Tryz.prog β 0 (λ_=>ae) ae Tryz.f3.params.toList args.toList ds p:=hA0
 have bi: ∀x∈p,x.block<β.heap.size:=λx hx=>by simpa using hW'.lt x (List.mem_append_left _ hx)
 rw[Tryz.params3]at hA mu;have hAk:=hA;obtain⟨v0,vs0,d0,ds0,p0,q0,hargs,rfl,rfl,h0,r0⟩:=trodAll_cons hA;obtain⟨v1,vs1,d1,ds1,p1,q1,rfl,rfl,rfl,h1,r1⟩:=trodAll_cons r0;obtain⟨rfl,rfl,rfl⟩:=trodAll_nil r1;obtain rfl:args= #[v0,v1]:=by cases args;simp_all
 obtain⟨rfl,rfl⟩:=trodVars_none hV;obtain⟨cs0,hcs0,s0⟩:=QM (mu 0 _ v0 rfl rfl) h0;obtain⟨cs1,hcs1,s1⟩:=QM (mu 1 _ v1 rfl rfl) h1;clear hA0 hval0;refine(aCN hcs0 hcs1 (aXe hL) (aXt hL) s0 s1).mono λe W' ⟨he,hK⟩=>?_
 subst he;exact⟨_,rfl,aCx (pv:=[]) hW' (λ_ _ _=>(trodAll_cons_mk (shut_bool Tryz.underlying4 _) trodAll_mk0)) (λsp hsp=>Az aO6 hK (by decide+kernel) hAk bi (λx hx=>hsp x (List.mem_append_left _ hx))) (λ_ _=>rfl) rfl
  (World.keptBut_mono (λ_ f=>f.elim) hK.keptBut) (λa ha=>hK.frozen ha) (ok_one (by kernel_rfl) rfl (okWide_bool_mk Tryz.underlying4 _))⟩
def over:Rows.FertilizeFewerSaid:=
 OpenClaim.holds_of_wide 3 Tryz.f3 rfl rfl rfl rfl rfl rfl rfl ⟨rfl,rfl,rfl,rfl,rfl⟩ rfl rfl rfl rfl rfl k_fn Tryz.func3 closed
  (of_decide_eq_true (by kernel_rfl)) (by unfold Func.isWrapper;first|(rw[bI (by decide+kernel)];kernel_rfl)|(rw[bH (by decide+kernel)];exact⟨rfl,rfl⟩))
  (λos started σ enc _=>lifted os started σ enc)
theorem proved:Rows.FertilizeFewerCardSaid:=
 Claim7.holds_tied_plain_at .later [] [.data, .data, .data, .sentinel, .sentinel] ae (ae, "08c867662e5499c7ed352b55573d8cb49a0bfa99378dd4ccdb7d08da757bd26e") ae
  over (λ_ h=>by cases h) (by kernel_rfl) (λ_ h=>by cases h) fertilizeFewer_row_tie rfl ⟨rfl,rfl⟩ bD7 rfl
  (λf fn hf fy=>by
   obtain rfl:f=3:=Option.some.inj (k_fn.symm.trans hf)|>.symm;obtain rfl:fn=Tryz.f3:=(Option.some.inj (Tryz.func3.symm.trans fy)).symm;exact⟨bD8,λj t ht=>by
    rw[Tryz.params3]at ht;have h3:t=22∨t=22:=by
     rcases j with _|j
     .exact .inl (by simpa using ht.symm)
     rcases j with _|j
     .exact .inr (by simpa using ht.symm)
     simp at ht
    rcases h3 with rfl|rfl
    .exact(show Tryz.prog.wantsStandIn 22=false by kernel_rfl)
    .exact(show Tryz.prog.wantsStandIn 22=false by kernel_rfl)⟩)
  bEc
end Go.Proofs.YtgfhobcfdppbdaaGreatDoor.fertFew
