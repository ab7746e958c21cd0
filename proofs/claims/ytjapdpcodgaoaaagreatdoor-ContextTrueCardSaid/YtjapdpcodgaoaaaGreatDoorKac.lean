import Derived.Test.YtjapdpcodgaoaaaGreatDoorKz
import Derived.Test.YtjapdpcodgaoaaaGreatDoorKab
import Derived.OpenShut
import Derived.LaidMore
import Derived.Stop.LaidErr
open Option renaming some->aa
open Bool renaming true->ah
open Go renaming Value->av
open Go.Proofs.Tryz renaming prog->f4
set_option linter.all false
namespace Go.Proofs.YtjapdpcodgaoaaaGreatDoor.ctxTrue
open Go.ChangeShapes Go.WideShapes Go.ChangeAt Go.RowKit Go.AI Go.TV
def own:ownKnob Tryz.prog.godebug=none:=by kernel_rfl
def bLP:Tryz.prog.globalNamed a6z=aa 0:=by kernel_rfl
def bHZ:(Tryz.prog.globals[0]?).map (·.type)=aa 273:=by kernel_rfl
def cE:Tryz.prog.cellsOf 66=1:=by kernel_rfl
def cT:Tryz.prog.cellsOf 273=20:=by kernel_rfl
def aPh:laidOutB f4=ah:=by kernel_rfl
def aIh(os:Os)(args:Array av):laidMetH f4 Rows.contextTrueRow.laid ((World.doorLaid f4 400 os).forCall (λ_ _=>0) ⟨#[],args,[]⟩).memory:=
 laidMetH_of_parts3 (fuel:=8) (laidMet_of_run' 8 (by kernel_rfl) (by kernel_rfl)) (by kernel_rfl) (by kernel_rfl)
def aXa{β:World}(h:laidMetH f4 Rows.contextTrueRow.laid β):Lib.TabIs f4 β a6z .u64 Lib.pow10Tab:=by
 rw[MakeChecks.laidMetH_plain _ _ _ (by kernel_rfl)]at h
 have h1:=laidMet.tail (laidMet.tail h);have e:(Rows.laid_internal_strconv_uint64pow10:DataW Unit)=Lib.tabData .u64 Lib.pow10Tab:=rfl;rw[e]at h1;exact Lib.tabIs_of_head bLP bHZ Tryz.underlying273 Tryz.underlying66 cE cT h1
def aNU{P:Program}{β:World}{name:String}{d:DataW Unit}{rest:au (String×DataW Unit)}{g:Nat}(h:laidMet P ((name,d)::rest) β)(hg:P.globalNamed name=aa g):g<β.heap.size:=by
 obtain⟨ps,⟨g',t',cs,fuel,p,q,bj,ht',qj,hd,_,_⟩,_⟩:=h;unfold World.var? at qj;simp only[hg,aL]at qj;rcases Nat.lt_or_ge g β.heap.size with h'|h'
 .exact h'
 .rw[Array.getElem?_eq_none h']at qj;simp at qj
def aXm{β:World}(h:laidMetH f4 Rows.contextTrueRow.laid β):3<=β.heap.size:=by
 rw[MakeChecks.laidMetH_plain _ _ _ (by kernel_rfl)]at h
 have h1:=aNU (g:=2) (laidMet.tail h) (by kernel_rfl)
 omega
def Kk{w:World}{a:Addr}{v:av}(h:w.cell? a=aa v): ∃C t fr,w.heap[a.block]?=aa (Obj.cells C t fr)/\a.spot=none/\C[a.off]?=aa v:=by
 unfold World.cell? at h;split at h
 .rename_i C t fr hh;split at h
  .cases h
  .rename_i hs;exact⟨C,t,fr,hh,by simpa using hs,h⟩
 .cases h
def aDv{w:World}{a:Addr}{α:Nat}{V:Nat->av}(hN:0<α)(h: ∀i,i<α->w.cell? (a.add i)=aa (V i)):
    ∃b off C t fr,a=⟨b,off,none⟩/\w.heap[b]?=aa (Obj.cells C t fr)/\∀i,i<α->C[off+i]?=aa (V i):=by
 obtain⟨b,off,spot⟩:=a;have hspot:spot=none:=by simpa [Addr.add]using World.cell?_spot (h 0 hN)
 subst hspot;obtain⟨C,t,fr,h1,_,h3⟩:=Kk (h 0 hN);have e0:(Addr.add ⟨b,off,none⟩ 0)=⟨b,off,none⟩:=by rw[Go.WideShapes.add_plain];rfl
 rw[e0]at h1 h3;refine⟨b,off,C,t,fr,rfl,h1,λi hi=>?_⟩
 obtain⟨C',t',fr',g1,_,g3⟩:=Kk (h i hi);rw[Go.WideShapes.add_plain]at g1 g3;simp only at g1 g3 h1;rw[h1]at g1;cases g1;exact g3
set_option maxRecDepth 100000 in
def Rj{σ:Type}{enc:TypeId×av->σ}{w:World}{b0:Nat}{v:av}{d:DataW σ}{ps:au MemPlace}(hv:Value.okWide f4 w .any b0 22 v)(h:DataW.Trod enc f4 w 0 (λ_=>ah) ah 22 v d ps):
    ∃cs:au Int,(∀k∈cs,0<=k/\k<256)/\((v= .slice none 0 0/\cs.length=0)∨∃a cap,v= .slice (aa a) cs.length cap/\cs.length<=cap/\(0<cs.length->∃b off C t fr,a=⟨b,off,none⟩/\w.heap[b]?=aa (Obj.cells C t fr)/\∀(i:Nat) (x:av),(ZF cs)[i]?=aa x->C[off+i]?=aa x)):=by
 obtain⟨fuel,hf⟩:=h;obtain⟨a0,len,cap,rfl⟩:=Go.WideShapes.okWide_slice Tryz.underlying22 hv;rcases Go.ChangeShapes.open_ints Tryz.underlying22 Tryz.underlying5 (by kernel_rfl) hf with⟨hcs,hx⟩|⟨a,ti,cap',zs,hcs,_,hl,hm,hz,hx,hcell,hws⟩
 .have:Value.slice a0 len cap= .slice none 0 0:=by simpa [Value.cells]using hcs
  exact⟨[],(by simp),Or.inl ⟨this,rfl⟩⟩
 .have hvv:Value.slice a0 len cap= .slice (aa a) ti cap':=by simpa [Value.cells]using hcs
  rw[bJ rfl]at hz;have hb: ∀n∈zs,0<=n/\n<=255:=λn hn=>Go.bounds_u8 (hws n hn)
  refine⟨zs.take ti,?_,Or.inr ⟨a,cap',?_,?_,?_⟩⟩
  .intro k hk;have:=hb k (List.mem_of_mem_take hk);omega
  .rw[hvv];simp;omega
  .simp;omega
  .intro h0;simp only[List.length_take]at h0;obtain⟨b,off,C,t,fr,rfl,g1,g2⟩:=aDv (V:=λi=> .int .u8 (zs.getD i 0)) (α:=zs.length) (by omega) hcell
   refine⟨b,off,C,t,fr,rfl,g1,λi x hx=>?_⟩
   simp only[ZF,List.getElem?_map,aF]at hx;obtain⟨y,hy,rfl⟩:=hx;rw[List.getElem?_take]at hy;split at hy
   .have hi:=(List.getElem?_eq_some_iff.1 hy).1;rw[g2 i hi];simp only[List.getD_eq_getElem?_getD,hy,Option.getD_some]
   .cases hy
def aDk{β W':World}(h:Kept β W'){p:MemPlace}(hp:p.block<β.heap.size):β.sameAt W' p:=by
 cases p with
 |cell b o=>exact World.cell?_of_block (w:=β) (h.old b hp)
 |map b=>exact h.old b hp
def Br{σ:Type}{enc:TypeId×av->σ}{P:Program}{β W':World}(hl:laidOutB P=ah)(hK:Kept β W'){sp:Nat->Bool}: ∀{ts:au TypeId} {vs:au av} {ds:au (DataW σ)} {ps:au MemPlace},(∀t∈ts,P.readableRec t=ah/\t<P.types.size)->
    DataW.TrodAll enc P β 0 (λ_=>ah) ah ts vs ds ps->(∀p∈ps,p.block<β.heap.size)->(∀p∈ps,sp p.block=ah)->DataW.TrodAll enc P W' 0 sp ah ts vs ds ps
 |[],[],[],_,_,h,_,_=>h
 |t::_,_::_,_::_,_,hT,⟨p,q,h1,h2,e⟩,hb,hs=>⟨p,q,WideElems.Trod_stays hl (hT t (List.mem_cons.2 (Or.inl rfl))).1 (hT t (List.mem_cons.2 (Or.inl rfl))).2 h1 (λx hx=>aDk hK (hb x (by rw[e];exact List.mem_append_left _ hx))) (λx hx=>hs x (by rw[e];exact List.mem_append_left _ hx)),
      Br hl hK (λt ht=>hT t (List.mem_cons.2 (Or.inr ht))) h2 (λx hx=>hb x (by rw[e];exact List.mem_append_right _ hx)) (λx hx=>hs x (by rw[e];exact List.mem_append_right _ hx)),e⟩
def aC4{σ:Type}{enc:TypeId×av->σ}{P:Program}{f:Func}{s:ChangeSpec}{Ck fresh handsOn again:Bool}{β W':World}{args:Array av}{v:av}{ds gs:au (DataW σ)}{before pa pv:au MemPlace}
    (hW:DataW.Whole enc P f.params.toList s.vars Ck β args.toList ds gs before)
    (gc: ∀(b:Nat) (sp:Nat->Bool) (hd:Bool),DataW.TrodAll enc P W' b sp hd f.resultTypes.toList (v.resultList f.resultTypes.size) (s.fn σ (ds++gs)).results [])
    (hargs: ∀sp:Nat->Bool,(∀p∈before,sp p.block=ah)->DataW.TrodAll enc P W' 0 sp ah f.params.toList args.toList (s.fn σ (ds++gs)).args pa)
    (rq: ∀sp:Nat->Bool,(∀p∈before,sp p.block=ah)->DataW.TrodVars enc P W' sp s.vars (s.fn σ (ds++gs)).vars pv)
    (kj:before=pa++pv) (hk:β.keptBut W' (· ∈before)) (nc: ∀a:Addr,a.block<β.heap.size->W'.frozen? a=β.frozen? a)
    (bw: ∀(j:Nat) (t:TypeId) (r:av),f.resultTypes[j]?=aa t->(v.resultList f.resultTypes.size)[j]?=aa r->Value.okWide P W' .any 0 t r):
    s.post enc P f Ck fresh handsOn again β args v W':=by
 have hold: ∀p∈before,(λb=>decide (b<β.heap.size)) p.block=ah:=λp hp=>by simpa using hW.lt p hp
 refine⟨ds,gs,before,[],pa,pv,hW,gc _ _ _,hargs _ hold,rq _ hold,World.keptBut_mono (λp hp=>⟨hp,Or.inr (by rw[kj,List.mem_append]at hp;exact hp)⟩) hk,λ_=>?_⟩
 obtain⟨_,_,_,_,_,hz,hn⟩:=hW;refine⟨bw,_,_,([]++pa)++pv,⟨[]++pa,pv,trodAll_append (hargs _ (λ_ _=>rfl)) (gc _ _ _),rq _ (λ_ _=>rfl),rfl,λb off hp=>?_,λha=>?_⟩,λp hp _=>by rw[kj];simpa using hp⟩
 .have qk:MemPlace.cell b off∈before:=by rw[kj];simpa using hp
  exact(nc _ (bL (hold _ qk))).trans (hz b off qk)
 .have:=hn ha;rw[kj]at this;simpa using this
set_option maxRecDepth 100000 in
def lifted(os:Os)(started:os.Started)(σ:Type)(enc:TypeId×av->σ):
    ReturnsInHanded {} Tryz.checked os 3 .any (λw args=>(Rows.contextTrueSpec.pre enc f4 Tryz.f3 [] false w args/\laidMetH f4 Rows.contextTrueRow.laid w)/\sizedMet enc f4 Tryz.f3 (OpenSpec.ofChange Rows.contextTrueSpec) false w args)
      (Rows.contextTrueSpec.post enc f4 Tryz.f3 false ah false false):=by
 refine returnsInHanded_of_change_and (C:=Tryz.checked) (X:=λw _=>laidMetH f4 Rows.contextTrueRow.laid w) (λ_ _ _ hh h=>h.of_heap hh) own started (by kernel_rfl) Tryz.func3
  (ChangeSpec.witness_shaped (enc:=enc) (C:=Tryz.checked) (os:=os) (X:=λw _=>laidMetH f4 Rows.contextTrueRow.laid w) false (World.doorLaid f4 400 os) #[.slice none 0 0,.slice none 0 0] 8 rfl (World.shaped_of_RefB (by kernel_rfl) (by kernel_rfl)) (by kernel_rfl) (by kernel_rfl) (by kernel_rfl) (aIh os _)) ?_
 intro β base args ds gs before hval0 hW _ _ hL _;have ny: ∀(j:Nat) t v,Tryz.f3.params[j]?=aa t->args[j]?=aa v->Value.okWide f4 β .any base t v:=hval0;have hW':=hW;obtain⟨p,q,hA0,hV,rfl,nc,gp⟩:=hW;have hA:DataW.TrodAll enc f4 β 0 (λ_=>ah) ah Tryz.f3.params.toList args.toList ds p:=hA0
 have hlt: ∀x∈p,x.block<β.heap.size:=λx hx=>by simpa using hW'.lt x (List.mem_append_left _ hx)
 rw[Tryz.params3]at hA ny;have hAk:=hA;obtain⟨v0,vs0,d0,ds0,p0,q0,hargs,rfl,rfl,h0,r0⟩:=trodAll_cons hA;obtain⟨v1,vs1,d1,ds1,p1,q1,rfl,rfl,rfl,h1,r1⟩:=trodAll_cons r0;obtain⟨rfl,rfl,rfl⟩:=trodAll_nil r1;obtain rfl:args= #[v0,v1]:=by cases args;simp_all
 obtain⟨rfl,rfl⟩:=trodVars_none hV;obtain⟨cs0,hcs0,s0⟩:=Rj (ny 0 _ v0 rfl rfl) h0;obtain⟨cs1,hcs1,s1⟩:=Rj (ny 1 _ v1 rfl rfl) h1;clear hA0 hval0;refine(aDj hcs0 hcs1 (aXa hL) (aXm hL) s0 s1).mono λe W' ⟨he,hK⟩=>?_
 subst he;exact⟨_,rfl,aC4 (pv:=[]) hW' (λ_ _ _=>(trodAll_cons_mk (shut_bool Tryz.underlying4 _) trodAll_mk0)) (λsp hsp=>Br aPh hK (by decide+kernel) hAk hlt (λx hx=>hsp x (List.mem_append_left _ hx))) (λ_ _=>rfl) rfl
  (World.keptBut_mono (λ_ f=>f.elim) hK.keptBut) (λa ha=>hK.frozen ha) (ok_one (by kernel_rfl) rfl (okWide_bool_mk Tryz.underlying4 _))⟩
def over:Rows.ContextTrueSaid:=
 OpenClaim.holds_of_wide 3 Tryz.f3 rfl rfl rfl rfl rfl rfl rfl ⟨rfl,rfl,rfl,rfl,rfl⟩ rfl rfl rfl rfl rfl k_fn Tryz.func3 closed
  (bL (by kernel_rfl)) (by unfold Func.isWrapper;first|(rw[bJ (by decide+kernel)];kernel_rfl)|(rw[bI (by decide+kernel)];exact⟨rfl,rfl⟩))
  (λos started σ enc _=>lifted os started σ enc)
theorem proved:Rows.ContextTrueCardSaid:=
 Claim7.holds_tied_plain_at .later [] [.data,.data,.data] ah (ah, "d218b4f6f2fe8beb65bb2348d8ba79806ff7a49e071f9046479ca1b5a5c465e2") false
  over (λ_ h=>by cases h) (by kernel_rfl) (λ_ h=>by cases h) contextTrue_row_tie rfl ⟨rfl,rfl⟩ bCB rfl
  (λf fn hf gt=>by
   obtain rfl:f=3:=Option.some.inj (k_fn.symm.trans hf)|>.symm;obtain rfl:fn=Tryz.f3:=(Option.some.inj (Tryz.func3.symm.trans gt)).symm;exact⟨bCC,λj t ht=>by
    rw[Tryz.params3]at ht;have h3:t=22∨t=22:=by
     rcases j with _|j
     .exact .inl (by simpa using ht.symm)
     rcases j with _|j
     .exact .inr (by simpa using ht.symm)
     simp at ht
    rcases h3 with rfl|rfl
    .exact(show Tryz.prog.wantsStandIn 22=false by kernel_rfl)
    .exact(show Tryz.prog.wantsStandIn 22=false by kernel_rfl)⟩)
  bCG
end Go.Proofs.YtjapdpcodgaoaaaGreatDoor.ctxTrue
