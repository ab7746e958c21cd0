import Derived.Test.YtjoliomfkdkjgaaGreatDoorKs
set_option linter.unusedVariables false
set_option linter.unusedSimpArgs false
set_option linter.constructorNameAsVariable false
namespace Go.Rf
open Go.AI Go.Proofs Go.RowKit Go.Shelf
attribute [local go_sem] Oper.semAt_some
noncomputable def pA:Code:=match tyB with| .seq a _=>a|_=> .skip
noncomputable def pB:Code:=match tyB with| .seq _ (.seq a _)=>a|_=> .skip
noncomputable def pC:Code:=match tyB with| .seq _ (.seq _ (.seq a _))=>a|_=> .skip
noncomputable def pD:Code:=match tyB with| .seq _ (.seq _ (.seq _ (.seq (.seq a _) _)))=>a|_=> .skip
noncomputable def pE:Code:=match tyB with| .seq _ (.seq _ (.seq _ (.seq _ (.seq a _))))=>a|_=> .skip
theorem tyB_eq:tyB= .seq pA (.seq pB (.seq pC (.seq (.seq pD (.block 3 (.rangeFunc (.tmp 61) #[62] parts.1 parts.2))) (.seq pE .ret)))):=by kernel_rfl
theorem ty_body:Tryz.f8.body=some tyB:=by kernel_rfl
theorem swap_eq:swapC tyB= .seq pA (.seq pB (.seq pC (.seq cdA cdZ))):=by rw[tyB_eq];rfl
theorem okA_:cI Tryz.prog 68 pA=true:=by kernel_rfl
theorem okB_:cI Tryz.prog 68 pB=true:=by kernel_rfl
theorem okC_:cI Tryz.prog 68 pC=true:=by kernel_rfl
theorem vr_slice{μ:Mp}{a:Option Addr}{n c:Nat}{u:Value}(h:VR μ (.slice a n c) u): ∃a' c',u= .slice a' n c':=by
 cases h with
 |same _ h=>exact⟨_,_,rfl⟩
 |slc _ _ _ _ cap p hp=>exact⟨_,_,rfl⟩
 |emp a s cap h=>exact⟨_,_,rfl⟩
theorem as_run{ρ:Operand→Value}{o:Oper}{x:Operand}(ho:o.op= .assign x)(w:World):(execOp ρ o).run Tryz.prog w= .ok (.value (ρ x)) w:=by
 unfold execOp;rw[ho];rfl
theorem sw_enter{n:Nat}{P:Program}{ops:Array Oper}{Q:Exit→Act→World→Prop}{rest:List Oper}{o:Oper}{a:Act}{w w':World}{f:FuncId}{args:Array Value}(hg:o.guard=none)
    (h:(execOp a.eval o).run P w= .ok (.enter f args) w') (k:CallsIn Fence.wide (n-1) P f args w' fun e w''=> ∃v,e= .returned v∧wpListIn Fence.wide n P ops Q rest (a.put o.dst v) w''):wpListIn Fence.wide n P ops Q (o::rest) a w:=by
 refine wpListIn_plain hg fun K hK=>?_
 unfold Oper.wpIn;rw[Fence.wide_round,Oper.semAt_none];refine⟨fun f _=>trivial,?_⟩
 rw[h,Oper.uponIn_enter];refine⟨(fun h=>(by cases h)),k.mono ?_⟩
 rintro e w ⟨v,rfl,hk⟩;exact hK _ _ hk
theorem find_run : ∃ fn code, Tryz.prog.funcs[30]? = some fn ∧ fn.body = some code ∧ (fn.name == "runtime.NumGoroutine") = false := ⟨_, _, Tryz.func30, rfl, by kernel_rfl⟩
theorem tM:Tryz.prog.toTables.follows .mixedOrders=true:=by kernel_rfl
set_option maxHeartbeats 2000000 in
set_option maxRecDepth 100000 in
theorem aFQ(w0:W0):RepOK w0 Tryz.prog 8 tyF (swapC tyB):=by
 refine⟨⟨_,_,Tryz.func8,rfl,by kernel_rfl⟩,?_⟩
 intro call L0 hcall args args' σ σ' w μ r h Z hargs;refine(callsIn_wide (n:=3)).1 (callsIn_of_wp_marks Tryz.func8 ty_body trivial ?_ rfl);rw[Tryz.ntmps8,tyB_eq];rw[swap_eq]at h;have A0:AR μ (mZ args.toList 0 .nil) 68 {tmps:=args'++Array.replicate (68-args'.size) undef,defers:=[]}:=by
  have hsz:=hargs.size;refine⟨by simp;omega,rfl,fun i=>?_⟩
  rw[vX];simp only[Nat.zero_le,true_and,Nat.zero_add,Nat.sub_zero,Array.length_toList];rw[Array.getD_eq_getD_getElem?];by_cases hi:i<args.size
  ·rw[if_pos hi,Array.getElem?_append_left (by omega)]
   have h1:args.toList[i]?=some args[i]:=by simp[hi]
   obtain⟨u,hu,hr⟩:=hargs.get h1;have hu':args'[i]?=some u:=by simpa using hu
   rw[h1,hu'];exact hr
  ·rw[if_neg hi,Array.getElem?_append_right (by omega)]
   have:((Array.replicate (68-args'.size) undef)[i-args'.size]?).getD undef=undef:=by
    by_cases h2:i-args'.size<68-args'.size
    ·simp[h2]
    ·simp[h2]
   rw[this];exact .undef
 generalize hR:(fun(e:Ending) (w':World)=> ∃μ' r',e= .returned r'∧VR μ' r r'∧Sim w0 Tryz.prog μ' σ' w'∧Ext σ.next μ μ'∧σ.next≤σ'.next)=Rr
 have hres:tyF.results.toList=[.tmp 4]:=by kernel_rfl
 have fin: ∀fl S' σ1,kX Tryz.prog tyF (some (fl,S',σ1))=some (r,σ')→Post w0 Tryz.prog μ σ.next 68 S' σ1 (bodyPostM Fence.wide 3 Tryz.prog Tryz.f8 Rr fl.out):=by
  intro fl S' σ1 he a' w' μ' A' Z' E' hn;have key:r=S'.at 4∧σ'=σ1∧∀k,fl≠ .exit k:=by
   cases fl with
   |exit k=>simp[kX]at he
   |normal=>simp only[kX,hres,cC,mL,omS,ojE,pjE,lD]at he;exact⟨he.1.symm,he.2.symm,fun k e=>by cases e⟩
   |ret=>simp only[kX,hres,cC,mL,omS,ojE,pjE,lD]at he;exact⟨he.1.symm,he.2.symm,fun k e=>by cases e⟩
  obtain⟨rfl,rfl,hne⟩:=key;have hm:LeavesInM Fence.wide 3 Tryz.prog Tryz.f8 a'.tmps Rr a'.defers .returning w':=by
   rw[A'.defers];exact⟨_,results_tmp rfl _ _ _,by rw[←hR];exact⟨μ',_,rfl,A'.slot 4,Z',E',hn⟩⟩
  cases fl with
  |exit k=>exact absurd rfl (hne k)
  |normal=>exact hm
  |ret=>exact hm
 have thenQ: ∀(fl:Fl) (K:Act→World→Prop) (Q:Exit→Act→World→Prop),fl≠ .normal→Exit.then K Q fl.out=Q fl.out:=fun fl K Q h=>by cases fl<;>first|exact absurd rfl h|rfl
 cases hx:cZ Tryz.prog call L0 (.seq pA (.seq pB (.seq pC (.seq cdA cdZ)))) (mZ args.toList 0 .nil) σ with
 |none=>rw[hx]at h;simp[kX]at h
 |some r0=>
 obtain⟨fl,S',σ1⟩:=r0;rw[hx]at h;have hfin:=fin fl S' σ1 h;have hc0:=hcall w0 rfl;refine wpIn_seq (wpIn_wide.2 ?_);rcases eR hx with⟨S1,σa,e1,hx1⟩|⟨hne,e1⟩
 rotate_left
 ·exact jV hc0 tM L0 68 pA _ _ _ _ _ _ _ _ _ e1 okA_ A0 Z (by rw[thenQ _ _ _ hne];exact hfin)
 refine jV hc0 tM L0 68 pA _ _ _ _ _ _ _ _ _ e1 okA_ A0 Z ?_;intro a1 w1 μ1 A1 Z1 E1 n1;refine wpIn_seq (wpIn_wide.2 ?_);have hfin1:=hfin.later E1 n1;rcases eR hx1 with⟨S2,σb,e2,hx2⟩|⟨hne,e2⟩
 rotate_left
 ·exact jV hc0 tM L0 68 pB _ _ _ _ _ _ _ _ _ e2 okB_ A1 Z1 (by rw[thenQ _ _ _ hne];exact hfin1)
 refine jV hc0 tM L0 68 pB _ _ _ _ _ _ _ _ _ e2 okB_ A1 Z1 ?_;intro a2 w2 μ2 A2 Z2 E2 n2;refine wpIn_seq (wpIn_wide.2 ?_);have hfin2:=hfin1.later E2 n2;rcases eR hx2 with⟨S3,σc,e3,hx3⟩|⟨hne,e3⟩
 rotate_left
 ·exact jV hc0 tM L0 68 pC _ _ _ _ _ _ _ _ _ e3 okC_ A2 Z2 (by rw[thenQ _ _ _ hne];exact hfin2)
 refine jV hc0 tM L0 68 pC _ _ _ _ _ _ _ _ _ e3 okC_ A2 Z2 ?_;intro a3 w3 μ3 A3 Z3 E3 n3;have EE3:Ext σ.next μ μ3:=(E1.trans E2 n1).trans E3 (by omega)
 have NN3:σ.next≤σc.next:=by omega
 clear hx hx1 hx2 e1 e2 e3 A0 A1 A2 Z Z1 Z2 E1 E2 E3 hfin1 hfin2;obtain⟨flx,S4,σ4,hcd,hrest⟩: ∃flx S4 σ4,cZ Tryz.prog call L0 cdA S3 σc=some (flx,S4,σ4)∧(flx= .normal→cZ Tryz.prog call L0 cdZ S4 σ4=some (fl,S',σ1)):=by
  rcases eR hx3 with⟨S4,σ4,e4,hx4⟩|⟨hne,e4⟩
  ·exact⟨_,_,_,e4,fun _=>hx4⟩
  ·exact⟨_,_,_,e4,fun h=>absurd h hne⟩
 unfold cdA at hcd;rcases eR hcd with⟨S5,σ5,e5,hlp⟩|⟨hne,e5⟩
 rotate_left
 ·exact absurd (bS e5).1 hne
 obtain⟨-,rfl,u,sa,nn,cc,hlu,s0,g70,g71,g72,g73,g5⟩:=opsA_inv e5;obtain⟨sl',c',hsl⟩:=vr_slice (by have:=A3.slot 0;rw[s0]at this;exact this)
 have rsl:VR μ3 (.slice sa nn cc) (.slice sl' nn c'):=by have:=A3.slot 0;rw[s0,hsl]at this;exact this
 have Z4:Sim w0 Tryz.prog μ3 (up σc 4) w3:=Z3.next (n:=σc.next+4) (Nat.le_add_right _ _)
 obtain⟨lu,rfl,hlu11⟩:=aC6 hlu;obtain⟨u',hu1,ru⟩:=nH Z4 (A3.slot 3) hlu;obtain⟨lu',rfl,rlu⟩:=vr_agg ru;obtain⟨u0,u1,u2,u3,u4,u5,u6,u7,u8,u9,u10,rfl⟩:=aC7 (l:=lu') (by rw[←rlu.1];exact hlu11)
 obtain⟨ts,ds⟩:=a3;have hd3:ds=[]:=A3.defers;subst hd3;have hsz:68≤ts.size:=A3.size;have hsl':ts.getD 0 undef= .slice sl' nn c':=hsl;have q5:VR μ3 (S3.at 5) (ts.getD 5 undef):=A3.slot 5;change Code.wpIn Fence.wide 3 Tryz.prog _ _ (fr ts) w3;refine wpIn_seq (wpIn_seq ?_)
 conv=>arg 4;unfold pD tyB;dsimp only[Tryz.f8,Option.getD]
 refine wpIn_region_lit ?_;refine mH rfl (mR rfl _) ?_;rw[cP,hsl'];simp only[eO];refine mH rfl (iU rfl (by rw[cP,aI (by omega)];exact hu1)) ?_
 simp only[eO];refine sw_enter rfl (qG rfl rfl rfl find_run) ?_;simp only[List.map_toArray,mpC,List.map_nil];rw[cP,cP,aI (by omega),bK (by omega),bK (by simp;omega)]
 refine((callsIn_wide (n:=2)).2 (aBg w3 sl' nn c' u0 u1 u2 u3 u4 u5 u6 u7 u8 u9 u10)).mono ?_;rintro e w4 ⟨rfl,rfl⟩;refine⟨_,rfl,?_⟩;simp only[eO];refine wpListIn_nil ?_;simp only[Exit.then];generalize hts:((ts.setIfInBounds 59 (.slice sl' nn c')).setIfInBounds 60 (.agg #[u0,u1,u2,u3,u4,u5,u6,u7,u8,u9,u10])).setIfInBounds 61 (.func (.func 84) #[] #[.pointer (some ⟨w3.heap.size,0,none⟩),.pointer (some ⟨w3.heap.size+1,0,none⟩)])=ts';have hsz':68≤ts'.size:=by rw[←hts];simp;omega
 have h61:ts'.getD 61 undef= .func (.func 84) #[] #[.pointer (some ⟨w3.heap.size,0,none⟩),.pointer (some ⟨w3.heap.size+1,0,none⟩)]:=by rw[←hts,bK (by simp;omega)]
 have h5:ts'.getD 5 undef=ts.getD 5 undef:=by rw[←hts,aI (by omega),aI (by omega),aI (by omega)]
 obtain⟨oA,hoA⟩: ∃o,o=Obj.cells #[Value.slice sl' nn c'] 30 (0,0):=⟨_,rfl⟩;obtain⟨oU,hoU⟩: ∃o,o=Obj.cells #[u0,u1,u2,u3,u4,u5,u6,u7,u8,u9,u10] 41 (0,0):=⟨_,rfl⟩;have hnA: ∀C t fr,oA= .cells C t fr→fr=(0,0):=fun C t fr h=>by rw[hoA]at h;cases h;rfl
 have hnU: ∀C t fr,oU= .cells C t fr→fr=(0,0):=fun C t fr h=>by rw[hoU]at h;cases h;rfl
 rw[show(Obj.cells #[Value.slice sl' nn c'] 30)=oA from hoA.symm,show(Obj.cells #[u0,u1,u2,u3,u4,u5,u6,u7,u8,u9,u10] 41)=oU from hoU.symm]
 obtain⟨wA,hwA⟩: ∃x,x=w3.alloc oA:=⟨_,rfl⟩;obtain⟨wU,hwU⟩: ∃x,x=wA.alloc oU:=⟨_,rfl⟩;rw[←hwA,←hwU];have sA:wA.heap.size=w3.heap.size+1:=by rw[hwA];exact World.size_alloc _ _
 have sU:wU.heap.size=w3.heap.size+2:=by rw[hwU,World.size_alloc,sA]
 have Z5:Sim (wO w0 (lY (lY w0.O w3.heap.size oA) wA.heap.size oU)) Tryz.prog μ3 (up σc 4) wU:=by
  have ZA:Sim (wO w0 (lY w0.O w3.heap.size oA)) Tryz.prog μ3 (up σc 4) wA:=by
   rw[hwA];exact iJ (O:=w0.O) (kH Z4 hnA) (World.alloc_heap_new _ _) (kP Z4)
  rw[hwU];exact iJ (kH ZA hnU) (World.alloc_heap_new _ _) (kP ZA)
 refine wpIn_block ?_;refine wpIn_rangeFunc ?_;intro fn _;obtain⟨wD,hwD⟩: ∃x,x=wU.alloc (.deferred (some [])):=⟨_,rfl⟩;obtain⟨wL,hwL⟩: ∃x,x=wD.alloc (.loop (aAx fn ts' wU.heap.size .ready none)):=⟨_,rfl⟩;have sD:wD.heap.size=w3.heap.size+3:=by rw[hwD,World.size_alloc,sU]
 obtain⟨O',hO'⟩: ∃O',O'=lY (lY (lY (lY w0.O w3.heap.size oA) wA.heap.size oU) wU.heap.size (.deferred (some []))) wD.heap.size (.loop (aAx fn ts' wU.heap.size .ready none)):=⟨_,rfl⟩;have Z6:Sim (wO w0 O') Tryz.prog μ3 (up σc 4) wL:=by
  have ZD:Sim (wO w0 (lY (lY (lY w0.O w3.heap.size oA) wA.heap.size oU) wU.heap.size (.deferred (some [])))) Tryz.prog μ3 (up σc 4) wD:=by
   rw[hwD];exact iJ (kH Z5 (fun C t fr h=>by cases h)) (World.alloc_heap_new _ _) (kP Z5)
  rw[hO',hwL];exact iJ (kH ZD (fun C t fr h=>by cases h)) (World.alloc_heap_new _ _) (kP ZD)
 have oL:O' wD.heap.size=some (.loop (aAx fn ts' wU.heap.size .ready none)):=by rw[hO'];exact oY _ _ _
 have oD:O' wU.heap.size=some (.deferred (some [])):=by rw[hO'];unfold lY;rw[if_neg (by omega),if_pos rfl]
 have oU2:O' wA.heap.size=some oU:=by rw[hO'];unfold lY;rw[if_neg (by omega),if_neg (by omega),if_pos rfl]
 have oA2:O' w3.heap.size=some oA:=by rw[hO'];unfold lY;rw[if_neg (by omega),if_neg (by omega),if_neg (by omega),if_pos rfl]
 have leW:w0.heap.size≤w3.heap.size:=Z4.kept.size;have o0: ∀k o,w0.O k=some o→O' k=some o:=fun k o hk=>by
  have:=(Array.getElem?_eq_some_iff.1 (Z4.kept.oth k o hk).1).1;rw[hO'];unfold lY;rw[if_neg (by omega),if_neg (by omega),if_neg (by omega),if_neg (by omega)];exact hk
 refine⟨wD.heap.size,[{target:= .collected wU.heap.size,args:= #[]}],wL,{target:= .fn (.func 84) #[.pointer (some ⟨w3.heap.size,0,none⟩),.pointer (some ⟨w3.heap.size+1,0,none⟩)],args:= #[.func (.yield wD.heap.size) #[] #[]]},wL,84,
  #[.func (.yield wD.heap.size) #[] #[]]++ #[.pointer (some ⟨w3.heap.size,0,none⟩),.pointer (some ⟨w3.heap.size+1,0,none⟩)],wL,?_,?_,?_,?_,?_,?_⟩
 ·rw[show wD.heap.size=wU.heap.size+1 by omega,hwL,hwD]
  exact run_enterLoop_outer (P:=Tryz.prog) (w:=wU) fn ts' #[62] parts.1 parts.2
 ·simp only[resolve];rw[cP,h61];simp[go_sem]
 ·intro f' hf';trivial
 ·have eg:=enters_of Tryz.func84 (by kernel_rfl) rfl
  simp[invoke,go_sem,eg]
 ·intro h;cases h
 ·rw[←sA];have eargs:(#[.func (.yield wD.heap.size) #[] #[]]++ #[.pointer (some ⟨w3.heap.size,0,none⟩),.pointer (some ⟨wA.heap.size,0,none⟩)]:Array Value)= #[.func (.yield wD.heap.size) #[] #[],.pointer (some ⟨w3.heap.size,0,none⟩),.pointer (some ⟨wA.heap.size,0,none⟩)]:=rfl;rw[eargs];have r5:VR μ3 (S3.at 5) (ts'.getD 5 undef):=by rw[h5];exact q5
  refine(c127 (w0:=w0) (O:=O') (D:=wU.heap.size) (fn:=fn) hcall hsz' oL (by omega) (by rw[←hoU];exact oU2) (by rw[←hoA];exact oA2) hlp g70 ru g71 rsl g72 g73 g5 r5 Z6).mono ?_
  rintro e W7 ⟨⟨v,rfl⟩,hfl,hs5,μ7,Z7,E7,n7⟩;obtain⟨rfl,rfl,x,hlx,hx4⟩:=cdZ_inv (hrest hfl);have hkey:r=x∧σ'=up σ4 2:=by
   simp only[kX,hres,cC,mL,omS,ojE,pjE,lD,hx4]at h;exact⟨h.1.symm,h.2.symm⟩
  obtain⟨rfl,rfl⟩:=hkey;have leL:w0.heap.size≤wD.heap.size:=by omega
  refine⟨none,_,run_endLoop (Z7.kept.oth _ _ oL).1 (by intro h;cases h),?_⟩
  have Z8:=pY Z7 oL leL (o':= .loop {aAx fn ts' wU.heap.size .ready none with state:= .exhausted}) (fun C t fr h=>by cases h)
  generalize W7.putObj wD.heap.size (.loop {aAx fn ts' wU.heap.size .ready none with state:= .exhausted})=w8 at*;have oD8:lY (aIA O' wD.heap.size) wD.heap.size (.loop {aAx fn ts' wU.heap.size .ready none with state:= .exhausted}) wU.heap.size=some (.deferred (some [])):=by
   unfold lY aIA;rw[if_neg (by omega),if_neg (by omega)];exact oD
  have Z9:=pY Z8 oD8 (by omega) (o':= .deferred none) (fun C t fr h=>by cases h)
  have hD8:=(Z8.kept.oth _ _ oD8).1;show Exit.inBlock 3 _ .normal _ _;simp only[Exit.inBlock,Exit.then];have r7:VR μ7 (S4.at 5) (ts'.getD 5 undef):=by rw[hs5];exact r5.mono E7
  obtain⟨x',hx1,rx⟩:=nH (Z8.next (n:=σ4.next+2) (Nat.le_add_right _ _)) r7 hlx
  refine wpIn_seq ?_
  conv=>arg 4;unfold pE tyB;dsimp only[Tryz.f8,Option.getD]
  refine wpIn_region_lit ?_;refine mH rfl (iU rfl hx1) ?_;refine mH rfl (as_run rfl _) ?_;refine wpListIn_nil ?_;simp only[Exit.then];refine wpIn_ret ?_;refine⟨by simp,.inl ⟨wU.heap.size,_,rfl,run_takeDeferred hD8,?_⟩⟩
  refine⟨_,results_tmp rfl _ _ _,?_⟩;rw[←hR];have hv:(((ts'.setIfInBounds 67 x').setIfInBounds 4 ((ts'.setIfInBounds 67 x').getD 67 undef)).getD 4 undef)=x':=by rw[bK (by simp;omega),bK (by omega)]
  refine⟨μ7,x',?_,rx,?_,EE3.trans (E7.mono (n':=σc.next) (by show σc.next≤σc.next+4;omega)) NN3,?_⟩
  ·exact congrArg Ending.returned hv
  ·have Z10:=mI (O':=w0.O) Z9 (fun k o hk=>by
    have hb:=(Array.getElem?_eq_some_iff.1 (Z4.kept.oth k o hk).1).1;simp only[lY,aIA];rw[if_neg (by omega),if_neg (by omega),if_neg (by omega),if_neg (by omega)];exact o0 k o hk)
   exact Sim.next (n:=σ4.next+2) Z10 (Nat.le_add_right _ _)
  ·have:σc.next+4≤σ4.next:=n7
   show σ.next≤σ4.next+2;omega
end Go.Rf
namespace Go.Rf
open Go.AI Go.Proofs
theorem cd_get{f:Nat}{fn:Func}(h:cdP.funcs[f]?=some fn):(f=8∧fn=tyF)∨(Tryz.prog.funcs[f]?=some fn∧fn∈cdP.funcs.toList):=by
 have h1:(Tryz.prog.funcs.toList.set 8 tyF)[f]?=some fn:=by simpa [cdP]using h
 have hm:fn∈cdP.funcs.toList:=List.mem_of_getElem? h1;by_cases e:f=8
 ·subst e;left;rw[List.getElem?_set]at h1;simp only[if_true]at h1;split at h1
  ·exact⟨rfl,(Option.some.inj h1).symm⟩
  ·cases h1
 ·right;rw[List.getElem?_set,if_neg (Ne.symm e)]at h1;exact⟨by simpa using h1,hm⟩
theorem code_ok(h:cdP.funcs.toList.all (lA Tryz.prog)=true)(w0:W0):CodeOK w0 Tryz.prog cdP:=fun f fn c hf hb=>by
 rcases cd_get hf with⟨rfl,rfl⟩|⟨h1,h2⟩
 ·right;have:c=swapC tyB:=(Option.some.inj hb).symm;subst this;exact aFQ w0
 ·exact .inl ⟨h1,List.all_eq_true.1 h _ h2⟩
end Go.Rf
