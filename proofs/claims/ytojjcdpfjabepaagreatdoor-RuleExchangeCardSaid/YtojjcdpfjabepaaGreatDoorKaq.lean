import Derived.Test.YtojjcdpfjabepaaGreatDoorKq
import Derived.Orders
import Derived.Test.YtojjcdpfjabepaaGreatDoorKs
import Derived.Test.YtojjcdpfjabepaaGreatDoorKao
import Derived.Test.YtojjcdpfjabepaaGreatDoorKap
import Derived.Test.YtojjcdpfjabepaaGreatDoorKam
set_option linter.unusedVariables false
set_option linter.unusedSimpArgs false
set_option linter.constructorNameAsVariable false
namespace Go.Rf
open Go.AI Go.Proofs
set_option maxRecDepth 100000
section
variable{call:FuncId→Array Value→St→Option (Value×St)}{L:Nat}{P:Program}
def Tri(σ:St)(v:Value)(x0 x1 x2:Int):Prop:= ∃id o cs m,v= .pointer (some ⟨id,o,none⟩)∧σ.row id=some (cs,m)∧cs[o]?=some (.int .i64 x0)∧cs[o+1]?=some (.int .i64 x1)∧cs[o+2]?=some (.int .i64 x2)
theorem jJ{a b c d:Nat}(h:Value.pointer (some ⟨a,b,none⟩)= .pointer (some ⟨c,d,none⟩)):a=c∧b=d:=by cases h;exact⟨rfl,rfl⟩
theorem tri_of{σ:St}{v:Value}{i0 i1 i2 o0 o1 o2:Nat}{c0 c1 c2:List Value}{m0 m1 m2:Mta}{x0 x1 x2:Int}(h0:v= .pointer (some ⟨i0,o0,none⟩))(h1:v= .pointer (some ⟨i1,o1,none⟩))(h2:v= .pointer (some ⟨i2,o2,none⟩))
    (r0:σ.row i0=some (c0,m0)) (r1:σ.row i1=some (c1,m1)) (r2:σ.row i2=some (c2,m2)) (e0:c0[o0+0]?=some (.int .i64 x0)) (e1:c1[o1+1]?=some (.int .i64 x1)) (e2:c2[o2+2]?=some (.int .i64 x2)):Tri σ v x0 x1 x2:=by
 obtain⟨rfl,rfl⟩:=jJ (h0.symm.trans h1);obtain⟨rfl,rfl⟩:=jJ (h0.symm.trans h2);rw[r0]at r1 r2;cases r1;cases r2;exact⟨_,_,_,_,h0,r0,e0,e1,e2⟩
theorem ops_mid{S S':Slots}{σ σ':St}(h:cK Tryz.prog call cmO σ.next cmO.toList 0 S {σ with next:=σ.next+cmO.size}=some (S',σ')):
    σ'={σ with next:=σ.next+21}∧(∀j,j<23→S'.at j=S.at j)∧∃x0 x1 x2 y0 y1 y2,Tri σ (S.at 5) x0 x1 x2∧Tri σ (S.at 6) y0 y1 y2∧
      S'.at 35= .bool (decide (x0<y0))∧S'.at 36= .bool (decide (y0<x0))∧S'.at 37= .bool (decide (x1<y1))∧S'.at 38= .bool (decide (y1<x1))∧S'.at 39= .bool (decide (x2<y2))∧S'.at 40= .bool (decide (y2<x2)):=by
 obtain⟨S0,hS0⟩: ∃S0,S0=S:=⟨S,rfl⟩;obtain⟨τ0,hτ⟩: ∃τ,τ=({σ with next:=σ.next+cmO.size}:St):=⟨_,rfl⟩
 have rw0: ∀id,τ0.row id=σ.row id:=fun id=>by rw[hτ];rfl
 rw[←hτ]at h;have h0:=h;clear h;rw[show cmO.toList=[iaO 23 5 ((0:Nat):Int),ldO 24 23,iaO 25 6 ((0:Nat):Int),ldO 26 25,iaO 27 5 ((1:Nat):Int),ldO 28 27,iaO 29 6 ((1:Nat):Int),ldO 30 29,iaO 31 5 ((2:Nat):Int),ldO 32 31,iaO 33 6 ((2:Nat):Int),ldO 34 33,ezO 41 24,ezO 42 28,ezO 43 32,ltO 35 24 26,ltO 36 26 24,ltO 37 28 30,ltO 38 30 28,ltO 39 32 34,ltO 40 34 32] from rfl]at h0
 obtain⟨v0,τ1,e0,h1⟩:=aN (o:=iaO 23 5 ((0:Nat):Int)) rfl h0;clear h0;obtain⟨s0,id0,of0,a0,b0⟩:=tM (by omega) e0
 subst s0;clear e0
 try simp only[mkO,iaO,ldO,ezO,ltO,at_store,reduceIte,Nat.reduceEqDiff]at a0
 obtain⟨v1,τ2,e1,h2⟩:=aN (o:=ldO 24 23) rfl h1;clear h1;obtain⟨s1,id1,of1,cs1,m1,a1,b1,c1⟩:=tK e1;subst s1;clear e1
 try simp only[mkO,iaO,ldO,ezO,ltO,at_store,reduceIte,Nat.reduceEqDiff]at a1
 obtain⟨v2,τ3,e2,h3⟩:=aN (o:=iaO 25 6 ((0:Nat):Int)) rfl h2;clear h2;obtain⟨s2,id2,of2,a2,b2⟩:=tM (by omega) e2
 subst s2;clear e2
 try simp only[mkO,iaO,ldO,ezO,ltO,at_store,reduceIte,Nat.reduceEqDiff]at a2
 obtain⟨v3,τ4,e3,h4⟩:=aN (o:=ldO 26 25) rfl h3;clear h3;obtain⟨s3,id3,of3,cs3,m3,a3,b3,c3⟩:=tK e3;subst s3;clear e3
 try simp only[mkO,iaO,ldO,ezO,ltO,at_store,reduceIte,Nat.reduceEqDiff]at a3
 obtain⟨v4,τ5,e4,h5⟩:=aN (o:=iaO 27 5 ((1:Nat):Int)) rfl h4;clear h4;obtain⟨s4,id4,of4,a4,b4⟩:=tM (by omega) e4
 subst s4;clear e4
 try simp only[mkO,iaO,ldO,ezO,ltO,at_store,reduceIte,Nat.reduceEqDiff]at a4
 obtain⟨v5,τ6,e5,h6⟩:=aN (o:=ldO 28 27) rfl h5;clear h5;obtain⟨s5,id5,of5,cs5,m5,a5,b5,c5⟩:=tK e5;subst s5;clear e5
 try simp only[mkO,iaO,ldO,ezO,ltO,at_store,reduceIte,Nat.reduceEqDiff]at a5
 obtain⟨v6,τ7,e6,h7⟩:=aN (o:=iaO 29 6 ((1:Nat):Int)) rfl h6;clear h6;obtain⟨s6,id6,of6,a6,b6⟩:=tM (by omega) e6
 subst s6;clear e6
 try simp only[mkO,iaO,ldO,ezO,ltO,at_store,reduceIte,Nat.reduceEqDiff]at a6
 obtain⟨v7,τ8,e7,h8⟩:=aN (o:=ldO 30 29) rfl h7;clear h7;obtain⟨s7,id7,of7,cs7,m7,a7,b7,c7⟩:=tK e7;subst s7;clear e7
 try simp only[mkO,iaO,ldO,ezO,ltO,at_store,reduceIte,Nat.reduceEqDiff]at a7
 obtain⟨v8,τ9,e8,h9⟩:=aN (o:=iaO 31 5 ((2:Nat):Int)) rfl h8;clear h8;obtain⟨s8,id8,of8,a8,b8⟩:=tM (by omega) e8
 subst s8;clear e8
 try simp only[mkO,iaO,ldO,ezO,ltO,at_store,reduceIte,Nat.reduceEqDiff]at a8
 obtain⟨v9,τ10,e9,h10⟩:=aN (o:=ldO 32 31) rfl h9;clear h9;obtain⟨s9,id9,of9,cs9,m9,a9,b9,c9⟩:=tK e9;subst s9;clear e9
 try simp only[mkO,iaO,ldO,ezO,ltO,at_store,reduceIte,Nat.reduceEqDiff]at a9
 obtain⟨v10,τ11,e10,h11⟩:=aN (o:=iaO 33 6 ((2:Nat):Int)) rfl h10;clear h10;obtain⟨s10,id10,of10,a10,b10⟩:=tM (by omega) e10
 subst s10;clear e10
 try simp only[mkO,iaO,ldO,ezO,ltO,at_store,reduceIte,Nat.reduceEqDiff]at a10
 obtain⟨v11,τ12,e11,h12⟩:=aN (o:=ldO 34 33) rfl h11;clear h11;obtain⟨s11,id11,of11,cs11,m11,a11,b11,c11⟩:=tK e11;subst s11;clear e11
 try simp only[mkO,iaO,ldO,ezO,ltO,at_store,reduceIte,Nat.reduceEqDiff]at a11
 obtain⟨v12,τ13,e12,h13⟩:=aN (o:=ezO 41 24) rfl h12;clear h12;obtain⟨s12,n12,a12⟩:=aHG e12;subst s12;clear e12
 try simp only[mkO,iaO,ldO,ezO,ltO,at_store,reduceIte,Nat.reduceEqDiff]at a12
 obtain⟨v13,τ14,e13,h14⟩:=aN (o:=ezO 42 28) rfl h13;clear h13;obtain⟨s13,n13,a13⟩:=aHG e13;subst s13;clear e13
 try simp only[mkO,iaO,ldO,ezO,ltO,at_store,reduceIte,Nat.reduceEqDiff]at a13
 obtain⟨v14,τ15,e14,h15⟩:=aN (o:=ezO 43 32) rfl h14;clear h14;obtain⟨s14,n14,a14⟩:=aHG e14;subst s14;clear e14
 try simp only[mkO,iaO,ldO,ezO,ltO,at_store,reduceIte,Nat.reduceEqDiff]at a14
 obtain⟨v15,τ16,e15,h16⟩:=aN (o:=ltO 35 24 26) rfl h15;clear h15;obtain⟨s15,n15,a15,b15⟩:=aDD (a:=n12) (by simp only[mkO,iaO,ldO,ezO,ltO,at_store,reduceIte,Nat.reduceEqDiff];exact a12) e15
 subst s15;clear e15
 try simp only[mkO,iaO,ldO,ezO,ltO,at_store,reduceIte,Nat.reduceEqDiff]at a15
 obtain⟨v16,τ17,e16,h17⟩:=aN (o:=ltO 36 26 24) rfl h16;clear h16;obtain⟨s16,b16⟩:=aHs (a:=n15) (c:=n12) (by simp only[mkO,iaO,ldO,ezO,ltO,at_store,reduceIte,Nat.reduceEqDiff];exact a15) (by simp only[mkO,iaO,ldO,ezO,ltO,at_store,reduceIte,Nat.reduceEqDiff];exact a12) e16
 subst s16;clear e16;obtain⟨v17,τ18,e17,h18⟩:=aN (o:=ltO 37 28 30) rfl h17;clear h17;obtain⟨s17,n17,a17,b17⟩:=aDD (a:=n13) (by simp only[mkO,iaO,ldO,ezO,ltO,at_store,reduceIte,Nat.reduceEqDiff];exact a13) e17
 subst s17;clear e17
 try simp only[mkO,iaO,ldO,ezO,ltO,at_store,reduceIte,Nat.reduceEqDiff]at a17
 obtain⟨v18,τ19,e18,h19⟩:=aN (o:=ltO 38 30 28) rfl h18;clear h18;obtain⟨s18,b18⟩:=aHs (a:=n17) (c:=n13) (by simp only[mkO,iaO,ldO,ezO,ltO,at_store,reduceIte,Nat.reduceEqDiff];exact a17) (by simp only[mkO,iaO,ldO,ezO,ltO,at_store,reduceIte,Nat.reduceEqDiff];exact a13) e18
 subst s18;clear e18;obtain⟨v19,τ20,e19,h20⟩:=aN (o:=ltO 39 32 34) rfl h19;clear h19;obtain⟨s19,n19,a19,b19⟩:=aDD (a:=n14) (by simp only[mkO,iaO,ldO,ezO,ltO,at_store,reduceIte,Nat.reduceEqDiff];exact a14) e19
 subst s19;clear e19
 try simp only[mkO,iaO,ldO,ezO,ltO,at_store,reduceIte,Nat.reduceEqDiff]at a19
 obtain⟨v20,τ21,e20,h21⟩:=aN (o:=ltO 40 34 32) rfl h20;clear h20;obtain⟨s20,b20⟩:=aHs (a:=n19) (c:=n14) (by simp only[mkO,iaO,ldO,ezO,ltO,at_store,reduceIte,Nat.reduceEqDiff];exact a19) (by simp only[mkO,iaO,ldO,ezO,ltO,at_store,reduceIte,Nat.reduceEqDiff];exact a14) e20
 subst s20;clear e20;have f1:=(hY h21).1;have f2:=(hY h21).2;clear h21;subst f2;rw[f1];clear f1;refine⟨hτ.trans rfl,fun j hj=>?_,n12,n13,n14,n15,n17,n19,?_,?_,?_,?_,?_,?_,?_,?_⟩
 ·simp only[mkO,iaO,ldO,ezO,ltO,at_store]
  repeat rw[if_neg (by omega)]
 ·
  obtain⟨p1,q1⟩:=jJ (b0.symm.trans a1);obtain⟨p5,q5⟩:=jJ (b4.symm.trans a5);obtain⟨p9,q9⟩:=jJ (b8.symm.trans a9);exact tri_of a0 a4 a8 (by rw[←rw0,p1];exact b1) (by rw[←rw0,p5];exact b5) (by rw[←rw0,p9];exact b9) (by rw[q1,c1,a12]) (by rw[q5,c5,a13]) (by rw[q9,c9,a14])
 ·
  obtain⟨p3,q3⟩:=jJ (b2.symm.trans a3);obtain⟨p7,q7⟩:=jJ (b6.symm.trans a7);obtain⟨p11,q11⟩:=jJ (b10.symm.trans a11);exact tri_of a2 a6 a10 (by rw[←rw0,p3];exact b3) (by rw[←rw0,p7];exact b7) (by rw[←rw0,p11];exact b11) (by rw[q3,c3,a15]) (by rw[q7,c7,a17]) (by rw[q11,c11,a19])
 ·simp only[mkO,iaO,ldO,ezO,ltO,at_store,reduceIte,Nat.reduceEqDiff];exact b15
 ·simp only[mkO,iaO,ldO,ezO,ltO,at_store,reduceIte,Nat.reduceEqDiff];exact b16
 ·simp only[mkO,iaO,ldO,ezO,ltO,at_store,reduceIte,Nat.reduceEqDiff];exact b17
 ·simp only[mkO,iaO,ldO,ezO,ltO,at_store,reduceIte,Nat.reduceEqDiff];exact b18
 ·simp only[mkO,iaO,ldO,ezO,ltO,at_store,reduceIte,Nat.reduceEqDiff];exact b19
 ·simp only[mkO,iaO,ldO,ezO,ltO,at_store,reduceIte,Nat.reduceEqDiff];exact b20
end
end Go.Rf
namespace Go.Rf
open Go.AI Go.Proofs Go.RowKit
def frm(ts:Array Value):Act:={tmps:=ts,defers:=[]}
theorem vX(ts:Array Value)(i:Nat)(v:Value):(frm ts).put (some i) v=frm (ts.setIfInBounds i v):=rfl
theorem gN(ts:Array Value)(j:Nat):(frm ts).eval (.tmp j)=ts.getD j undef:=rfl
theorem bA{ts:Array Value}{i j:Nat}{v:Value}(hi:i<ts.size):(ts.setIfInBounds i v).getD j undef=if i=j then v else ts.getD j undef:=by
 simp only[Array.getD_eq_getD_getElem?,Array.getElem?_setIfInBounds];by_cases e:i=j
 ·subst e;simp[hi]
 ·simp[e]
section
variable{ts:Array Value}{d:Nat}{P:Program}{ops:Array Oper}{Q:Exit→Act→World→Prop}{rest:List Oper}{o:Oper}{a:Act}{w w':World}{fuel i:Nat}{listed:Array Bool}{v:Value}{f:FuncId}{args:Array Value}
theorem aA4(hg:o.guard=none)(ho:o.dst=some d)(h:(execOp (frm ts).eval o).run P w= .ok (.value v) w')(k:wpList P ops Q rest (frm (ts.setIfInBounds d v)) w'):wpList P ops Q (o::rest) (frm ts) w:=by
 refine wpList_plain hg fun K hK=>?_
 unfold Oper.wp;rw[h,Oper.upon_value,ho,vX];exact hK _ _ k
theorem l_enter(hg:o.guard=none)(ho:o.dst=some d)(h:(execOp (frm ts).eval o).run P w= .ok (.enter f args) w')(k:Calls P f args w' fun e w''=> ∃v,e= .returned v∧wpList P ops Q rest (frm (ts.setIfInBounds d v)) w''):wpList P ops Q (o::rest) (frm ts) w:=by
 refine wpList_plain hg fun K hK=>?_
 unfold Oper.wp;rw[h,Oper.upon_enter];refine k.mono ?_;rintro e w ⟨v,rfl,hk⟩;show K ((frm ts).put o.dst v) w;rw[ho,vX];exact hK _ _ hk
theorem d_val(hi:ops[i]?=some o)(hs:Region.noSelect ops=true)(hf:Region.free .any ops listed i=true)(hr:(Region.ready .any ops listed).contains i=true)(hQ: ∀c a w,¬Q (.panic c) a w)
    (hg:o.guard=none) (ho:o.dst=some d) (hv: ∀w,(execOp (frm ts).eval o).run P w= .ok (.value v) w) (k:wpAny P .any ops Q fuel (listed.setIfInBounds i true) (frm (ts.setIfInBounds d v)) w):wpAny P .any ops Q (fuel+1) listed (frm ts) w:=
 wpAny_take hi hs hf hr (fun c a w h=>absurd h (hQ c _ w)) (Or.inl ⟨by simp[Region.wanted,hg],hv⟩) (by rw[ho,vX];exact k)
theorem d_call(hi:ops[i]?=some o)(hr:Region.ready .any ops listed=[i])(hg:o.guard=none)(ho:o.dst=some d)(h:(execOp (frm ts).eval o).run P w= .ok (.enter f args) w')
    (k:Calls P f args w' fun e w''=> ∃v,e= .returned v∧wpAny P .any ops Q fuel (listed.setIfInBounds i true) (frm (ts.setIfInBounds d v)) w''):wpAny P .any ops Q (fuel+1) listed (frm ts) w:=by
 refine wpAny_all hr (by simp) fun j hj=>?_
 simp only[List.mem_singleton]at hj;subst hj;unfold wpOp;rw[hi];simp only[Region.wanted,hg,if_true];refine .inl ?_;unfold Oper.wp;rw[h,Oper.upon_enter];refine k.mono ?_;rintro e w ⟨v,rfl,hk⟩;show wpAny P .any ops Q fuel (listed.setIfInBounds j true) ((frm ts).put o.dst v) w;rw[ho,vX];exact hk
end
def onlyN'(K:Act→World→Prop):Exit→Act→World→Prop
 | .normal=>K
 |_=>fun _ _=>False
noncomputable def cmR0:Code:=match cmB with| .seq a _=>a|_=> .skip
noncomputable def cmR1:Code:=match cmB with| .seq _ (.seq a _)=>a|_=> .skip
noncomputable def cmR2:Code:=match cmB with| .seq _ (.seq _ (.seq (.seq a _) _))=>a|_=> .skip
noncomputable def cmD:Code:=match cmB with| .seq _ (.seq _ (.seq (.seq _ a) _))=>a|_=> .skip
noncomputable def cmE:Code:=match cmB with| .seq _ (.seq _ (.seq _ a))=>a|_=> .skip
theorem cmB_eq:cmB= .seq cmR0 (.seq cmR1 (.seq (.seq cmR2 cmD) cmE)):=by kernel_rfl
theorem cm_body:Tryz.f66.body=some cmB:=by kernel_rfl
noncomputable def r2O:Array Oper:=match cmR2 with| .region _ ops _=>ops|_=> #[]
theorem xI{ρ:Operand→Value}{o:Oper}{x:Operand}{b off:Nat}(ho:o.op= .slice 148 x none none none)(hx:ρ x= .pointer (some ⟨b,off,none⟩))(w:World):
    (execOp ρ o).run Tryz.prog w= .ok (.value (.slice (some ⟨b,off,none⟩) 3 3)) w:=by
 unfold execOp;rw[ho];simp only[hx,Option.map_none];kernel_rfl
theorem aCn{ρ:Operand→Value}{o:Oper}{x:Operand}(ho:o.op= .assign x)(w:World):(execOp ρ o).run Tryz.prog w= .ok (.value (ρ x)) w:=by
 unfold execOp;rw[ho];rfl
theorem aHf{ρ:Operand→Value}{o:Oper}{x:Operand}(ho:o.op= .move x)(w:World):(execOp ρ o).run Tryz.prog w= .ok (.value (ρ x)) w:=by
 unfold execOp;rw[ho];rfl
theorem fn_run {ρ : Operand → Value} {o : Oper} {c : Call} {f : FuncId} {W : World} (ho : o.op = .call c) (hc : c.callee = .value (.func f)) (hρ : ρ (.func f) = .func (.func f) #[] #[]) (hf : ∃ fn code, Tryz.prog.funcs[f]? = some fn ∧ fn.body = some code ∧ (fn.name == "runtime.NumGoroutine") = false) :
    (execOp ρ o).run Tryz.prog W= .ok (.enter f (c.args.map ρ)) W:=by
 obtain⟨fn,code,h1,h2,h3⟩:=hf;unfold execOp;rw[ho];simp only[resolve,hc,hρ,Deferred.ofValue,Sem.run_bind,Sem.run_pure,Result.andThen_ok,invoke,callFunc,run_program,h1,h2,h3,Option.isNone_some,Bool.false_eq_true,if_false];simp
set_option maxRecDepth 100000 in
theorem r2_ok{K:Act→World→Prop}{ts:Array Value}{w:World}{b o c q:Nat}{x0 x1 x2 y0 y1 y2:Int}(hsz:23≤ts.size)(h5:ts.getD 5 undef= .pointer (some ⟨b,o,none⟩))(h6:ts.getD 6 undef= .pointer (some ⟨c,q,none⟩))
    (hx0:w.cell? ⟨b,o,none⟩=some (.int .i64 x0)) (hx1:w.cell? ⟨b,o+1,none⟩=some (.int .i64 x1)) (hx2:w.cell? ⟨b,o+2,none⟩=some (.int .i64 x2))
    (hy0:w.cell? ⟨c,q,none⟩=some (.int .i64 y0)) (hy1:w.cell? ⟨c,q+1,none⟩=some (.int .i64 y1)) (hy2:w.cell? ⟨c,q+2,none⟩=some (.int .i64 y2))
    (h: ∀ts':Array Value,ts'.size=ts.size→(∀j,j<7→ts'.getD j undef=ts.getD j undef)→ts'.getD 7 undef= .int .i64 (sg3 x0 x1 x2 y0 y1 y2)→K (frm ts') {w with drawn:=w.drawn+1}):
    cmR2.wp Tryz.prog (onlyN' K) (frm ts) w:=by
 have e:cmR2= .region 2 r2O true:=by kernel_rfl
 rw[e];refine wp_region_any aDB ?_;have hQ: ∀c a w,¬onlyN' K (.panic c) a w:=fun _ _ _ h=>h
 have hsel:Region.noSelect r2O=true:=by kernel_rfl
 have hn:r2O.size=4:=by kernel_rfl
 rw[hn];refine d_val (i:=0) rfl hsel (by kernel_rfl) (by kernel_rfl) hQ rfl rfl (xI (b:=b) (off:=o) rfl (by rw[gN];exact h5)) ?_
 refine d_val (i:=1) rfl hsel (by kernel_rfl) (by kernel_rfl) hQ rfl rfl (xI (b:=c) (off:=q) rfl (by show((ts.setIfInBounds 14 _).getD 6 undef)=_;rw[bA (by omega),if_neg (by omega)];exact h6)) ?_
 obtain⟨o2,c2,g1,g2,g3,g4,g5,g6⟩: ∃o2 c2,r2O[2]?=some o2∧o2.guard=none∧o2.dst=some 16∧o2.op= .call c2∧c2.callee= .value (.func 115)∧c2.args= #[.tmp 14,.tmp 15]:=⟨_,_,rfl,rfl,rfl,rfl,rfl,rfl⟩;refine d_call (i:=2) (f:=115) g1 (by kernel_rfl) g2 g3 (fn_run g4 g5 rfl ⟨_,_,Tryz.func115,rfl,by kernel_rfl⟩) ?_
 rw[g6];simp only[List.map_toArray,mpC,List.map_nil];rw[gN,gN];rw[bA (i:=15) (j:=14) (by simp;omega),if_neg (by omega),bA (i:=14) (j:=14) (by omega),if_pos rfl,bA (i:=15) (j:=15) (by simp;omega),if_pos rfl]
 refine Calls.mono (aFq b o c q x0 x1 x2 y0 y1 y2 {w with drawn:=w.drawn+1} hx0 hx1 hx2 hy0 hy1 hy2) ?_;rintro e w' ⟨rfl,rfl⟩;refine⟨_,rfl,?_⟩;generalize hs:sg3 x0 x1 x2 y0 y1 y2=s at h⊢;refine d_val (i:=3) rfl hsel (by kernel_rfl) (by kernel_rfl) hQ rfl rfl (aCn rfl) ?_
 refine wpAny_done (by kernel_rfl) ?_ _
 show K (frm ((((ts.setIfInBounds 14 (.slice (some ⟨b,o,none⟩) 3 3)).setIfInBounds 15 (.slice (some ⟨c,q,none⟩) 3 3)).setIfInBounds 16 (.int .i64 s)).setIfInBounds 7 ((((ts.setIfInBounds 14 (.slice (some ⟨b,o,none⟩) 3 3)).setIfInBounds 15 (.slice (some ⟨c,q,none⟩) 3 3)).setIfInBounds 16 (.int .i64 s)).getD 16 undef))) _;refine h _ (by simp) (fun j hj=>?_) ?_
 ·rw[bA (by simp;omega),if_neg (by omega),bA (by simp;omega),if_neg (by omega),bA (by simp;omega),if_neg (by omega),bA (by omega),if_neg (by omega)]
 ·rw[bA (by simp;omega),if_pos rfl,bA (by simp;omega),if_pos rfl]
end Go.Rf
namespace Go.Rf
open Go.AI Go.Proofs Go.RowKit
set_option maxRecDepth 100000
section
variable{call:FuncId→Array Value→St→Option (Value×St)}{L:Nat}{P:Program}{S S':Slots}{σ σ':St}{b i:Nat}{o:Oper}{x:Operand}{t:TypeId}
theorem a_mov(ho:o.op= .move x):aop P call b i o S σ=some (ev S x,σ):=by unfold aop aP;rw[ho];simp only;unfold fL fQ;rw[ho];rfl
theorem a_asn(ho:o.op= .assign x):aop P call b i o S σ=some (ev S x,σ):=by unfold aop aP;rw[ho];simp only;unfold fL fQ;rw[ho];rfl
theorem a_load(ho:o.op= .load t x):aop P call b i o S σ=(fD P σ t (ev S x)).map fun v=>(v,σ):=by unfold aop aP;rw[ho];simp only;unfold gO;rw[ho]
theorem a_call{c:Call}{f:FuncId}(ho:o.op= .call c)(hc:c.callee= .value (.func f)):aop P call b i o S σ=call f (c.args.map (ev S)) σ:=by
 unfold aop aP;rw[ho];simp only[hc];unfold aAK;rw[ho];simp only[hc];unfold rX;simp only[hc,ev];simp
theorem a_neq{u:TypeId}{c:Int}(ho:o.op= .binOp .neq 3 x (.const (.int .i64 0)) u)(hx:ev S x= .int .i64 c):aop Tryz.prog call b i o S σ=some (.bool (c !=0),σ):=by
 unfold aop aP;rw[ho];simp only;unfold fL fQ;rw[ho];simp only[hx];kernel_rfl
end
noncomputable def d3O:Array Oper:=match cmD with| .seq (.region _ o _) _=>o|_=> #[]
noncomputable def d4O:Array Oper:=match cmD with| .seq _ (.cond _ (.seq (.region _ o _) _) _)=>o|_=> #[]
noncomputable def d5O:Array Oper:=match cmE with| .seq (.region _ o _) _=>o|_=> #[]
theorem cmD_eq:cmD= .seq (.region 3 d3O false) (.cond (.tmp 18) (.seq (.region 4 d4O false) .ret) .skip):=by kernel_rfl
theorem cmE_eq:cmE= .seq (.region 5 d5O false) .ret:=by kernel_rfl
theorem d3_is: ∃o1 o2 u,d3O=[o1,o2].toArray∧o1.guard=none∧o1.dst=some 17∧o1.op= .move (.tmp 7)∧o2.guard=none∧o2.dst=some 18∧o2.op= .binOp .neq 3 (.tmp 17) (.const (.int .i64 0)) u:=⟨_,_,_,rfl,rfl,rfl,rfl,rfl,rfl,rfl⟩
theorem d4_is: ∃o1 o2,d4O=[o1,o2].toArray∧o1.guard=none∧o1.dst=some 19∧o1.op= .move (.tmp 7)∧o2.guard=none∧o2.dst=some 4∧o2.op= .assign (.tmp 19):=⟨_,_,rfl,rfl,rfl,rfl,rfl,rfl,rfl⟩
theorem d5_is: ∃o1 o2 o3 o4 c,d5O=[o1,o2,o3,o4].toArray∧(o1.guard=none∧o1.dst=some 20∧o1.op= .load 37 (.tmp 2))∧(o2.guard=none∧o2.dst=some 21∧o2.op= .load 37 (.tmp 3))∧
    (o3.guard=none∧o3.dst=some 22∧o3.op= .call c∧c.callee= .value (.func 116)∧c.args= #[.tmp 20,.tmp 21])∧(o4.guard=none∧o4.dst=some 4∧o4.op= .assign (.tmp 22)):=⟨_,_,_,_,_,rfl,⟨rfl,rfl,rfl⟩,⟨rfl,rfl,rfl⟩,⟨rfl,rfl,rfl,rfl,rfl⟩,⟨rfl,rfl,rfl⟩⟩
section
variable{call:FuncId→Array Value→St→Option (Value×St)}{L:Nat}{S S':Slots}{σ σ':St}{fl:Fl}
theorem aHg(h:aS Tryz.prog call L cmM S σ=some (fl,S',σ')):fl= .normal∧σ'={σ with next:=σ.next+22}∧(∀j,j<7→S'.at j=S.at j)∧
    ∃x0 x1 x2 y0 y1 y2,Tri σ (S.at 5) x0 x1 x2∧Tri σ (S.at 6) y0 y1 y2∧S'.at 7= .int .i64 (sg3 x0 x1 x2 y0 y1 y2):=by
 obtain⟨S1,σ1,h1,h2⟩:=gY h;obtain⟨rfl,hl,x0,x1,x2,y0,y1,y2,t5,t6,f35,f36,f37,f38,f39,f40⟩:=ops_mid (qE h1);have fin: ∀v,aS Tryz.prog call L (asC v) S1 {σ with next:=σ.next+21}=some (fl,S',σ')→sg3 x0 x1 x2 y0 y1 y2=v→fl= .normal∧σ'={σ with next:=σ.next+22}∧(∀j,j<7→S'.at j=S.at j)∧
  ∃x0 x1 x2 y0 y1 y2,Tri σ (S.at 5) x0 x1 x2∧Tri σ (S.at 6) y0 y1 y2∧S'.at 7= .int .i64 (sg3 x0 x1 x2 y0 y1 y2):=by
  intro v hv e;obtain⟨rfl,rfl,rfl⟩:=as_inv hv;refine⟨rfl,rfl,fun j hj=>?_,x0,x1,x2,y0,y1,y2,t5,t6,?_⟩
  ·rw[at_store,if_neg (by omega)];exact hl j (by omega)
  ·rw[at_store,if_pos rfl,e]
 have c35:=iJ (q:=decide (x0<y0)) (x:= .tmp 35) (by exact f35) h2
 cases p0:decide (x0<y0)with
 |true=>rw[p0]at c35;exact fin _ c35 (by have:=of_decide_eq_true p0;simp only[sg3,sg];simp[this])
 |false=>
 rw[p0]at c35;have c36:=iJ (q:=decide (y0<x0)) (x:= .tmp 36) (by exact f36) c35
 have n0:=of_decide_eq_false p0;cases p1:decide (y0<x0)with
 |true=>rw[p1]at c36;exact fin _ c36 (by have:=of_decide_eq_true p1;simp only[sg3,sg];simp[this,n0])
 |false=>
 rw[p1]at c36;have c37:=iJ (q:=decide (x1<y1)) (x:= .tmp 37) (by exact f37) c36
 have n1:=of_decide_eq_false p1;cases p2:decide (x1<y1)with
 |true=>rw[p2]at c37;exact fin _ c37 (by have:=of_decide_eq_true p2;simp only[sg3,sg];simp[this,n0,n1])
 |false=>
 rw[p2]at c37;have c38:=iJ (q:=decide (y1<x1)) (x:= .tmp 38) (by exact f38) c37
 have n2:=of_decide_eq_false p2;cases p3:decide (y1<x1)with
 |true=>rw[p3]at c38;exact fin _ c38 (by have:=of_decide_eq_true p3;simp only[sg3,sg];simp[this,n0,n1,n2])
 |false=>
 rw[p3]at c38;have c39:=iJ (q:=decide (x2<y2)) (x:= .tmp 39) (by exact f39) c38
 have n3:=of_decide_eq_false p3;cases p4:decide (x2<y2)with
 |true=>rw[p4]at c39;exact fin _ c39 (by have:=of_decide_eq_true p4;simp only[sg3,sg];simp[this,n0,n1,n2,n3])
 |false=>
 rw[p4]at c39;have c40:=iJ (q:=decide (y2<x2)) (x:= .tmp 40) (by exact f40) c39
 have n4:=of_decide_eq_false p4;cases p5:decide (y2<x2)with
 |true=>rw[p5]at c40;exact fin _ c40 (by have:=of_decide_eq_true p5;simp only[sg3,sg];simp[this,n0,n1,n2,n3,n4])
 |false=>
  rw[p5]at c40;have n5:=of_decide_eq_false p5;exact fin _ c40 (by simp only[sg3,sg];simp[n0,n1,n2,n3,n4,n5])
theorem d_inv{c:Int}(h7:S.at 7= .int .i64 c)(h:aS Tryz.prog call L cmD S σ=some (fl,S',σ')):
    (c≠0∧fl= .ret∧S'.at 4= .int .i64 c∧σ'={σ with next:=σ.next+4})∨(c=0∧fl= .normal∧σ'={σ with next:=σ.next+2}∧∀j,j<7→S'.at j=S.at j):=by
 rw[cmD_eq]at h;obtain⟨S1,σ1,h1,h2⟩:=gY h;have h1:=qE h1;obtain⟨o1,o2,u,e,g1,g2,g3,g4,g5,g6⟩:=d3_is;rw[e]at h1;obtain⟨v1,τ1,k1,h1⟩:=aN g1 h1;rw[a_mov g3]at k1;cases k1;obtain⟨v2,τ2,k2,h1⟩:=aN g4 h1;rw[a_neq g6 (c:=c) (by rw[g2];show Slots.at _ 17=_;rw[at_store,if_pos rfl];exact h7)]at k2
 cases k2;obtain⟨rfl,rfl⟩:=hY h1;rw[g2,g5]at h2;have h3:=iJ (q:=c !=0) (by show Slots.at _ 18=_;rw[at_store,if_pos rfl]) h2
 cases hc:(c !=0)with
 |true=>
  left;rw[hc,cdt]at h3;obtain⟨S3,σ3,h4,h5⟩:=gY h3;have h4:=qE h4;obtain⟨o3,o4,e',q1,q2,q3,q4,q5,q6⟩:=d4_is;rw[e']at h4;obtain⟨v3,τ3,k3,h4⟩:=aN q1 h4;rw[a_mov q3]at k3;cases k3;obtain⟨v4,τ4,k4,h4⟩:=aN q4 h4;rw[a_asn q6]at k4;cases k4;obtain⟨rfl,rfl⟩:=hY h4;simp only[aS,ojE,pjE]at h5;obtain⟨rfl,rfl,rfl⟩:=h5;refine⟨by simpa using hc,rfl,?_,rfl⟩
  rw[q2,q5,at_store,if_pos rfl];show Slots.at _ 19=_;rw[at_store,if_pos rfl];show Slots.at _ 7=_;rw[at_store,if_neg (by omega),at_store,if_neg (by omega)];exact h7
 |false=>
  right;rw[hc,cdf]at h3;simp only[aS,ojE,pjE]at h3;obtain⟨rfl,rfl,rfl⟩:=h3;refine⟨by simpa using hc,rfl,rfl,fun j hj=>?_⟩
  rw[at_store,if_neg (by omega),at_store,if_neg (by omega)]
theorem e_inv(h:aS Tryz.prog call L cmE S σ=some (fl,S',σ')): ∃u v,fD Tryz.prog σ 37 (S.at 2)=some u∧fD Tryz.prog σ 37 (S.at 3)=some v∧call 116 #[u,v] {σ with next:=σ.next+4}=some (S'.at 4,σ')∧fl= .ret:=by
 rw[cmE_eq]at h;obtain⟨S1,σ1,h1,h2⟩:=gY h;have h1:=qE h1;obtain⟨o1,o2,o3,o4,c,e,⟨g1,g2,g3⟩,⟨g4,g5,g6⟩,⟨g7,g8,g9,g10,g11⟩,⟨g12,g13,g14⟩⟩:=d5_is;rw[e]at h1;obtain⟨v1,τ1,k1,h1⟩:=aN g1 h1;rw[a_load g3,mjE]at k1;obtain⟨w1,l1,k1⟩:=k1;cases k1;obtain⟨v2,τ2,k2,h1⟩:=aN g4 h1;rw[a_load g6,mjE]at k2;obtain⟨w2,l2,k2⟩:=k2;cases k2;obtain⟨v3,τ3,k3,h1⟩:=aN g7 h1;rw[a_call g9 g10,g11,g2,g5]at k3;obtain⟨v4,τ4,k4,h1⟩:=aN g12 h1;rw[a_asn g14]at k4;cases k4;obtain⟨rfl,rfl⟩:=hY h1;simp only[aS,ojE,pjE]at h2;obtain⟨rfl,rfl,rfl⟩:=h2;refine⟨v1,v2,l1,?_,?_,rfl⟩
 ·rw[g2]at l2;have:ev (S.store (some 20) v1) (.tmp 3)=S.at 3:=by show Slots.at _ 3=_;rw[at_store,if_neg (by omega)]
  rw[this]at l2;exact l2
 ·rw[g13,at_store,if_pos rfl];show call _ _ _=some (Slots.at _ 22,_);rw[g8,at_store,if_pos rfl,←k3];have ea:(#[Operand.tmp 20,Operand.tmp 21].map (ev ((S.store (some 20) v1).store (some 21) v2)))= #[v1,v2]:=by
   simp only[List.map_toArray,mpC,List.map_nil];rw[show ev ((S.store (some 20) v1).store (some 21) v2) (.tmp 20)=v1 from by show Slots.at _ 20=_;rw[at_store,if_neg (by omega),at_store,if_pos rfl],show ev ((S.store (some 20) v1).store (some 21) v2) (.tmp 21)=v2 from by show Slots.at _ 21=_;rw[at_store,if_pos rfl]]
  rw[ea];rfl
end
end Go.Rf
namespace Go.Rf
open Go.AI Go.Proofs Go.RowKit
set_option maxRecDepth 100000
section
variable{call:FuncId→Array Value→St→Option (Value×St)}{L:Nat}{S S':Slots}{σ σ':St}{fl:Fl}
theorem tail_inv(h:aS Tryz.prog call L (.seq (.seq cmM cmD) cmE) S σ=some (fl,S',σ')):fl= .ret∧∃x0 x1 x2 y0 y1 y2,Tri σ (S.at 5) x0 x1 x2∧Tri σ (S.at 6) y0 y1 y2∧
    ((sg3 x0 x1 x2 y0 y1 y2≠0∧S'.at 4= .int .i64 (sg3 x0 x1 x2 y0 y1 y2)∧σ'={σ with next:=σ.next+26})∨
     (sg3 x0 x1 x2 y0 y1 y2=0∧∃u v,fD Tryz.prog σ 37 (S.at 2)=some u∧fD Tryz.prog σ 37 (S.at 3)=some v∧call 116 #[u,v] {σ with next:=σ.next+28}=some (S'.at 4,σ'))):=by
 have key: ∀{fl2 S5 σ5},aS Tryz.prog call L (.seq cmM cmD) S σ=some (fl2,S5,σ5)→∃x0 x1 x2 y0 y1 y2,Tri σ (S.at 5) x0 x1 x2∧Tri σ (S.at 6) y0 y1 y2∧
      ((sg3 x0 x1 x2 y0 y1 y2≠0∧fl2= .ret∧S5.at 4= .int .i64 (sg3 x0 x1 x2 y0 y1 y2)∧σ5={σ with next:=σ.next+26})∨(sg3 x0 x1 x2 y0 y1 y2=0∧fl2= .normal∧σ5={σ with next:=σ.next+24}∧∀j,j<7→S5.at j=S.at j)):=by
  intro fl2 S5 σ5 h2;rcases uR h2 with⟨S3,σ3,h3,h4⟩|⟨hn,h3⟩
  ·obtain⟨_,rfl,hl,x0,x1,x2,y0,y1,y2,t5,t6,f7⟩:=aHg h3;refine⟨x0,x1,x2,y0,y1,y2,t5,t6,?_⟩;rcases d_inv f7 h4 with⟨d1,d2,d3,d4⟩|⟨d1,d2,d3,d4⟩
   ·exact .inl ⟨d1,d2,d3,d4⟩
   ·exact .inr ⟨d1,d2,d3,fun j hj=>(d4 j hj).trans (hl j hj)⟩
  ·exact absurd (aHg h3).1 hn
 rcases uR h with⟨S5,σ5,h5,h6⟩|⟨hn,h5⟩
 ·obtain⟨x0,x1,x2,y0,y1,y2,t5,t6,⟨d1,d2,d3,d4⟩|⟨d1,d2,d3,d4⟩⟩:=key h5
  ·cases d2
  ·subst d3;obtain⟨u,v,l1,l2,l3,l4⟩:=e_inv h6;rw[d4 2 (by omega)]at l1
   rw[d4 3 (by omega)]at l2
   exact⟨l4,x0,x1,x2,y0,y1,y2,t5,t6,.inr ⟨d1,u,v,l1,l2,l3⟩⟩
 ·obtain⟨x0,x1,x2,y0,y1,y2,t5,t6,⟨d1,d2,d3,d4⟩|⟨d1,d2,d3,d4⟩⟩:=key h5
  ·exact⟨d2,x0,x1,x2,y0,y1,y2,t5,t6,.inl ⟨d1,d3,d4⟩⟩
  ·exact absurd d2 hn
end
theorem wX{w0:W0}{μ:Mp}{σ:St}{w:World}{v u:Value}{x0 x1 x2:Int}(Z:Sim w0 Tryz.prog μ σ w)(hv:VR μ v u)(ht:Tri σ v x0 x1 x2):
    ∃b o,u= .pointer (some ⟨b,o,none⟩)∧w.cell? ⟨b,o,none⟩=some (.int .i64 x0)∧w.cell? ⟨b,o+1,none⟩=some (.int .i64 x1)∧w.cell? ⟨b,o+2,none⟩=some (.int .i64 x2):=by
 obtain⟨id,o,cs,m,rfl,hr,c0,c1,c2⟩:=ht;obtain⟨q1,q2⟩:=St.row_some hr;cases hv with
 |same _ h=>cases h
 |ptr _ _ p hp=>
  obtain⟨C,t,fr,r1,r2,_⟩:=(Z.row id p cs m hp q1 q2).row;have cell: ∀{i x},cs[i]?=some (.int .i64 x)→w.cell? ⟨p.b,p.o+i,none⟩=some (.int .i64 x):=fun{i x} hi=>by
   obtain⟨u,h1,h2⟩:=r2 i _ hi;have:u= .int .i64 x:=by cases h2;rfl
   subst this;unfold World.cell?;rw[r1];simpa using h1
  exact⟨p.b,p.o+o,rfl,cell c0,cell c1,cell c2⟩
theorem neq_run{ρ:Operand→Value}{o:Oper}{x:Operand}{u:TypeId}{c:Int}(ho:o.op= .binOp .neq 3 x (.const (.int .i64 0)) u)(hc0:ρ (.const (.int .i64 0))= .int .i64 0)(hx:ρ x= .int .i64 c)(w:World):(execOp ρ o).run Tryz.prog w= .ok (.value (.bool (c !=0))) w:=by
 unfold execOp;rw[ho];simp only[hx,hc0];kernel_rfl
theorem aHj{ρ:Operand→Value}{o:Oper}{t:TypeId}{a:Operand}{W:World}{v:Value}{P:Program}(ho:o.op= .load t a)(h:(Instr.loadAt t (ρ a)).run P W= .ok v W):(execOp ρ o).run P W= .ok (.value v) W:=by
 unfold execOp;rw[ho];simp[h]
theorem ok0:bV Tryz.prog 23 cmR0=true:=by kernel_rfl
theorem ok1:bV Tryz.prog 23 cmR1=true:=by kernel_rfl
theorem is0: ∃id ops d,cmR0= .region id ops d:=⟨_,_,_,rfl⟩
theorem is1: ∃id ops d,cmR1= .region id ops d:=⟨_,_,_,rfl⟩
theorem rs4:Tryz.f66.results.toList=[.tmp 4]:=by kernel_rfl
set_option maxHeartbeats 2000000 in
theorem aCf(w0:W0):aJq w0 Tryz.prog 66 cmF (aGf cmB):=by
 refine⟨⟨_,_,Tryz.func66,rfl,by kernel_rfl⟩,?_⟩
 intro call L hcall args args' σ σ' w μ r h Z hargs _;have hc:=hcall w0 rfl;have hsw:aGf cmB= .seq cmR0 (.seq cmR1 (.seq (.seq cmM cmD) cmE)):=by rw[cmB_eq];rfl
 rw[hsw]at h;have hres:cmF.results.toList=[.tmp 4]:=rs4;cases hx:aS Tryz.prog call L (.seq cmR0 (.seq cmR1 (.seq (.seq cmM cmD) cmE))) (gF args.toList 0 .nil) σ with
 |none=>rw[hx]at h;simp[bT]at h
 |some r0=>
 obtain⟨fl,S',σe⟩:=r0;rw[hx]at h;obtain⟨i0,p0,d0,q0⟩:=is0;obtain⟨i1,p1,d1,q1⟩:=is1;obtain⟨S1,σ1,e0,hx1⟩: ∃S1 σ1,aS Tryz.prog call L cmR0 (gF args.toList 0 .nil) σ=some (.normal,S1,σ1)∧aS Tryz.prog call L (.seq cmR1 (.seq (.seq cmM cmD) cmE)) S1 σ1=some (fl,S',σe):=by
  rw[q0]at hx⊢;exact gY hx
 obtain⟨S2,σ2,e1,hx2⟩: ∃S2 σ2,aS Tryz.prog call L cmR1 S1 σ1=some (.normal,S2,σ2)∧aS Tryz.prog call L (.seq (.seq cmM cmD) cmE) S2 σ2=some (fl,S',σe):=by
  rw[q1]at hx1⊢;exact gY hx1
 obtain⟨rfl,x0,x1,x2,y0,y1,y2,t5,t6,hend⟩:=tail_inv hx2;have hE:r=S'.at 4∧σ'=σe:=by
  simp only[bT,hres,cG,qD,omS,ojE,pjE,rU]at h;exact⟨h.1.symm,h.2.symm⟩
 obtain⟨rfl,rfl⟩:=hE;clear hx hx1 hx2 h;have A0:AR μ (gF args.toList 0 .nil) 23 {tmps:=args'++Array.replicate (23-args'.size) undef,defers:=[]}:=by
  have hsz:=hargs.size;refine⟨by simp;omega,rfl,fun i=>?_⟩
  rw[pS];simp only[Nat.zero_le,true_and,Nat.zero_add,Nat.sub_zero,Array.length_toList];rw[Array.getD_eq_getD_getElem?];by_cases hi:i<args.size
  ·rw[if_pos hi,Array.getElem?_append_left (by omega)]
   have h1:args.toList[i]?=some args[i]:=by simp[hi]
   obtain⟨u,hu,hr⟩:=hargs.get h1;have hu':args'[i]?=some u:=by simpa using hu
   rw[h1,hu'];exact hr
  ·rw[if_neg hi,Array.getElem?_append_right (by omega)]
   have:((Array.replicate (23-args'.size) undef)[i-args'.size]?).getD undef=undef:=by
    by_cases h2:i-args'.size<23-args'.size
    ·simp[h2]
    ·simp[h2]
   rw[this];exact .undef
 refine calls_of_wp Tryz.func66 cm_body ?_;rw[Tryz.ntmps66,cmB_eq];refine wp_seq (wF hc aDB L 23 cmR0 _ _ _ _ _ _ _ _ _ e0 ok0 A0 Z ?_);intro a1 w1 μ1 A1 Z1 E1 n1;refine wp_seq (wF hc aDB L 23 cmR1 _ _ _ _ _ _ _ _ _ e1 ok1 A1 Z1 ?_);intro a2 w2 μ2 A2 Z2 E2 n2;refine wp_seq (wp_seq ?_);obtain⟨ts,ds⟩:=a2;have hd:ds=[]:=A2.defers;subst hd;have hsz:23≤ts.size:=A2.size;obtain⟨b,o,hb,bx0,bx1,bx2⟩:=wX Z2 (A2.slot 5) t5;obtain⟨c,q,hcq,cy0,cy1,cy2⟩:=wX Z2 (A2.slot 6) t6;have EE:Ext σ.next μ μ2:=E1.trans E2 n1
 refine wp_mono (r2_ok (K:=fun a w=>cmD.wp Tryz.prog _ a w) hsz hb hcq bx0 bx1 bx2 cy0 cy1 cy2 ?_) (fun e a w hq=>by cases e<;>first|exact hq|exact hq.elim)
 intro ts' hs' hl h7;have Z3:Sim w0 Tryz.prog μ2 σ2 {w2 with drawn:=w2.drawn+1}:=Z2.drawn _;generalize hw3:({w2 with drawn:=w2.drawn+1}:World)=w3 at Z3⊢;generalize hsg:sg3 x0 x1 x2 y0 y1 y2=s at hend h7;show cmD.wp Tryz.prog _ (frm ts') w3;rw[cmD_eq];obtain⟨o1,o2,u0,e3,g1,g2,g3,g4,g5,g6⟩:=d3_is;rw[e3];refine wp_seq (wp_region_lit ?_);refine aA4 g1 g2 (aHf g3 _) ?_;rw[gN,h7];refine aA4 g4 g5 (neq_run (c:=s) g6 rfl (by rw[gN,bA (by omega),if_pos rfl]) _) ?_
 refine wpList_nil ?_;rcases hend with⟨hne,h4,rfl⟩|⟨hz,u,v,l1,l2,l3⟩
 ·have hne':(s !=0)=true:=by simpa using hne
  rw[hne'];refine wp_cond (t:=true) (by rw[gN,bA (by simp;omega),if_pos rfl]) ?_
  rw[if_pos rfl];obtain⟨o3,o4,e4,k1,k2,k3,k4,k5,k6⟩:=d4_is;rw[e4];refine wp_seq (wp_region_lit ?_);refine aA4 k1 k2 (aHf k3 _) ?_;refine aA4 k4 k5 (aCn k6 _) ?_;refine wpList_nil ?_;refine wp_ret ?_;refine⟨rfl,_,results_tmp rfl _ _ _,?_⟩;refine⟨μ2,.int .i64 s,congrArg Ending.returned ?_,by rw[h4];exact .same _ rfl,Z3.next (n:=σ2.next+26) (by omega),EE,?_⟩
  ·show Array.getD (Array.setIfInBounds _ 4 _) 4 undef=_;rw[bA (by simp;omega),if_pos rfl,gN,bA (by simp;omega),if_pos rfl,gN,bA (by simp;omega),if_neg (by omega),bA (by omega),if_neg (by omega)]
   exact h7
  ·show σ.next≤σ2.next+26
   omega
 ·subst hz;refine wp_cond (t:=false) (by rw[gN,bA (by simp;omega),if_pos rfl];rfl) ?_
  rw[if_neg (by decide)]
  refine wp_skip ?_;show cmE.wp Tryz.prog _ _ w3;generalize hts:(ts'.setIfInBounds 17 (.int .i64 0)).setIfInBounds 18 (.bool ((0:Int) !=0))=t3;have hs3:t3.size=ts'.size:=by rw[←hts];simp
  have hl3: ∀j,j<7→t3.getD j undef=ts.getD j undef:=fun j hj=>by
   rw[←hts,bA (by simp;omega),if_neg (by omega),bA (by omega),if_neg (by omega)];exact hl j hj
  obtain⟨u',lu,ru⟩:=pX Z3 (b:=t3.getD 2 undef) (by rw[hl3 2 (by omega)];exact A2.slot 2) l1
  obtain⟨v',lv,rv⟩:=pX Z3 (b:=t3.getD 3 undef) (by rw[hl3 3 (by omega)];exact A2.slot 3) l2
  have Z4:Sim w0 Tryz.prog μ2 {σ2 with next:=σ2.next+28} w3:=Z3.next (n:=σ2.next+28) (by omega)
  obtain⟨hf,hcs⟩:=hc _ _ #[u',v'] _ _ _ _ _ l3 Z4 ⟨rfl,fun i x w hx hw=>by
   match i,hx,hw with
   |0,hx,hw=>cases hx;cases hw;exact ru
   |1,hx,hw=>cases hx;cases hw;exact rv
   |i+2,hx,hw=>cases hx⟩
  rw[cmE_eq];obtain⟨o3,o4,o5,o6,cc,e5,⟨k1,k2,k3⟩,⟨k4,k5,k6⟩,⟨k7,k8,k9,k10,k11⟩,⟨k12,k13,k14⟩⟩:=d5_is;rw[e5];refine wp_seq (wp_region_lit ?_);refine aA4 k1 k2 (aHj k3 lu) ?_;refine aA4 k4 k5 (aHj k6 (by rw[gN,bA (by omega),if_neg (by omega)];exact lv)) ?_
  refine l_enter k7 k8 (fn_run k9 k10 rfl hf) ?_;rw[k11];simp only[List.map_toArray,mpC,List.map_nil];rw[gN,gN,bA (by simp;omega),if_neg (by omega),bA (by omega),if_pos rfl,bA (by simp;omega),if_pos rfl]
  refine hcs.mono ?_;rintro e w4 ⟨μ4,r',rfl,hr,hZ,hE4,hn4⟩;refine⟨r',rfl,?_⟩;refine aA4 k12 k13 (aCn k14 _) ?_;refine wpList_nil ?_;refine wp_ret ?_;refine⟨rfl,_,results_tmp rfl _ _ _,?_⟩;refine⟨μ4,r',congrArg Ending.returned ?_,hr,hZ,?_,?_⟩
  ·show Array.getD (Array.setIfInBounds _ 4 _) 4 undef=_;rw[bA (by simp;omega),if_pos rfl,gN,bA (by simp;omega),if_pos rfl]
  ·exact EE.trans (hE4.mono (n':=σ2.next) (by show σ2.next≤σ2.next+28;omega)) (by omega)
  ·have:σ2.next+28≤σ'.next:=hn4
   omega
end Go.Rf
namespace Go.Rf
open Go.AI Go.Proofs Go.RowKit
theorem aD4(h:cdM.funcs.toList.all (dJ Tryz.prog)=true)(w0:W0):kV w0 Tryz.prog cdM:=by
 intro g fn c h1 h2;have hk:dJ Tryz.prog fn=true:=List.all_eq_true.1 h _ (List.mem_of_getElem? (show cdM.funcs.toList[g]?=some fn by simpa using h1))
 rcases lW h1 with⟨rfl,rfl⟩|h3
 ·right;have e:c=scT:=by
   have:some scT=some c:=h2;exact(Option.some.inj this).symm
  rw[e];exact jI ⟨_,_,Tryz.func193,rfl,by kernel_rfl⟩ (sc_known w0)
 ·rcases lW h3 with⟨rfl,rfl⟩|h3
  ·cases h2
  rcases lW h3 with⟨rfl,rfl⟩|h4
  ·right;have e:c=aGf cmB:=by
    have:some (aGf cmB)=some c:=h2;exact(Option.some.inj this).symm
   rw[e];exact aCf w0
  ·exact .inl ⟨h4,hk⟩
end Go.Rf
namespace Go.Rf
open Go.AI Go.Proofs Go.RowKit Go.TV
set_option maxRecDepth 100000
theorem tL{w w':World}(h:Below w.heap.size w w'):Kept w w':=⟨h.os,h.output,h.size,h.block⟩
theorem pu_calls(w:World)(l:List UInt8)(u:Nat)(hl:l.length≤100)(h:Lib.parseUintB 32 l= .ok u):Calls Tryz.prog 281 #[sV l,.int .i64 10,.int .i64 32] w fun e w'=>e= .returned (.tuple #[.int .u64 u,.nilIface])∧Kept w w':=by
 refine(Tryz.strconv_ParseUint_10_at32_ok ⟨l.toArray⟩ (by show l.toArray.size≤_;simp;omega) u (by simpa using h) w).mono ?_
 rintro e w' ⟨rfl,rfl|rfl⟩
 ·exact⟨rfl,Kept.refl _⟩
 ·exact⟨rfl,tL (Lib.bytesWorld_below _ _ _)⟩
theorem pi_calls(w:World)(l:List UInt8)(u:Int)(hl:l.length≤100)(h:Lib.parseIntB 64 l= .ok u):Calls Tryz.prog 284 #[sV l,.int .i64 10,.int .i64 64] w fun e w'=>e= .returned (.tuple #[.int .i64 u,.nilIface])∧Kept w w':=by
 refine(Tryz.strconv_ParseInt_10_at64_ok ⟨l.toArray⟩ (by show l.toArray.size≤_;simp;omega) u (by simpa using h) w).mono ?_
 rintro e w' ⟨rfl,rfl|⟨t,rfl⟩⟩
 ·exact⟨rfl,Kept.refl _⟩
 ·exact⟨rfl,tL (Lib.bytesWorld_below _ _ _)⟩
def pu_is(x:List UInt8×Value):Bool:=Nat.ble x.1.length 100&&(match Lib.parseUintB 32 x.1,x.2 with
 | .ok u,.int .u64 v=>decide ((u:Int)=v)
 |_,_=>false)
def pi_is(x:List UInt8×Value):Bool:=Nat.ble x.1.length 100&&(match Lib.parseIntB 64 x.1,x.2 with
 | .ok u,.int .i64 v=>decide (u=v)
 |_,_=>false)
theorem pu_all:uiT.all pu_is=true:=by decide+kernel
theorem pi_all:inT.all pi_is=true:=by decide+kernel
theorem pu_of{x:List UInt8×Value}(h:pu_is x=true)(w:World):Calls Tryz.prog 281 #[sV x.1,.int .i64 10,.int .i64 32] w fun e w'=>e= .returned (.tuple #[x.2,.nilIface])∧Kept w w':=by
 obtain⟨l,v⟩:=x;simp only[pu_is,bjE,Nat.ble_eq]at h;obtain⟨h1,h2⟩:=h;split at h2
 ·rename_i u k e1;rw[←of_decide_eq_true h2];exact pu_calls w l u h1 e1
 ·cases h2
theorem pi_of{x:List UInt8×Value}(h:pi_is x=true)(w:World):Calls Tryz.prog 284 #[sV x.1,.int .i64 10,.int .i64 64] w fun e w'=>e= .returned (.tuple #[x.2,.nilIface])∧Kept w w':=by
 obtain⟨l,v⟩:=x;simp only[pi_is,bjE,Nat.ble_eq]at h;obtain⟨h1,h2⟩:=h;split at h2
 ·rename_i u k e1;rw[←of_decide_eq_true h2];exact pi_calls w l u h1 e1
 ·cases h2
theorem pl_of{T:Tb}(h:(T.all fun x=>aB x.2)=true): ∀x∈T,aB x.2=true:=fun x hx=>List.all_eq_true.1 h x hx
theorem pu_known(w0:W0):aFE w0 Tryz.prog 281 puF puT:=
 wZ (by kernel_rfl) (by decide) (by decide) (by decide) (by decide) (by decide) (by decide) (by decide) (by decide) (fun call L S σ=>by kernel_rfl) (pl_of (by kernel_rfl)) (fun x hx w _=>pu_of (List.all_eq_true.1 pu_all x hx) w)
theorem pi_known(w0:W0):aFE w0 Tryz.prog 284 piF piT:=
 wZ (by kernel_rfl) (by decide) (by decide) (by decide) (by decide) (by decide) (by decide) (by decide) (by decide) (fun call L S σ=>by kernel_rfl) (pl_of (by kernel_rfl)) (fun x hx w _=>pi_of (List.all_eq_true.1 pi_all x hx) w)
theorem fm_ok: ∀a s,fmK a=some s→∃u:Nat,1≤u∧u≤10∧a= -(u:Int)∧45::Lib.decDigits u=s:=by
 have d1:Lib.decDigits 1=[49]:=by rw[Lib.decDigits];rfl
 have d2:Lib.decDigits 2=[50]:=by rw[Lib.decDigits];rfl
 have d3:Lib.decDigits 3=[51]:=by rw[Lib.decDigits];rfl
 have d4:Lib.decDigits 4=[52]:=by rw[Lib.decDigits];rfl
 have d5:Lib.decDigits 5=[53]:=by rw[Lib.decDigits];rfl
 have d6:Lib.decDigits 6=[54]:=by rw[Lib.decDigits];rfl
 have d7:Lib.decDigits 7=[55]:=by rw[Lib.decDigits];rfl
 have d8:Lib.decDigits 8=[56]:=by rw[Lib.decDigits];rfl
 have d9:Lib.decDigits 9=[57]:=by rw[Lib.decDigits];rfl
 have d10:Lib.decDigits 10=[49,48]:=by rw[Lib.decDigits,Lib.decDigits];rfl
 intro a s h;unfold fmK at h;cases h1:decide (a= -10)with
 |true=>
  rw[h1,cdt]at h;exact⟨10,by omega,by omega,of_decide_eq_true h1,by rw[d10];exact Option.some.inj h⟩
 |false=>
  rw[h1,cdf]at h;cases h2:(decide (-9≤a)&&decide (a≤ -1))with
  |false=>rw[h2,cdf]at h;cases h
  |true=>
   rw[h2,cdt]at h;simp only[bjE,djE]at h2;obtain⟨u,rfl⟩: ∃u:Nat,a= -(u:Int):=⟨(-a).toNat,by omega⟩
   have hu1:1≤u:=by omega
   have hu2:u≤9:=by omega
   refine⟨u,hu1,by omega,rfl,?_⟩
   have hs:=Option.some.inj h;rw[show(-(-(u:Int))).toNat=u by omega]at hs
   rw[←hs]
   match u,hu1,hu2 with
   |1,_,_=>rw[d1];rfl
   |2,_,_=>rw[d2];rfl
   |3,_,_=>rw[d3];rfl
   |4,_,_=>rw[d4];rfl
   |5,_,_=>rw[d5];rfl
   |6,_,_=>rw[d6];rfl
   |7,_,_=>rw[d7];rfl
   |8,_,_=>rw[d8];rfl
   |9,_,_=>rw[d9];rfl
theorem orcF_ok{w:World}(ht:Lib.TabIs Tryz.prog w pwN .u64 Lib.pow10Tab):aFD Tryz.prog w orcF:=by
 refine⟨fun a b s h w1 hK=>?_,.inl rfl,fun g k h=>by cases h⟩
 have h':(bif decide (b=10)then fmK a else none)=some s:=h;cases hb:decide (b=10)with
 |false=>rw[hb,cdf]at h';cases h'
 |true=>
  rw[hb,cdt]at h';have hb':=of_decide_eq_true hb;subst hb';obtain⟨u,h1,h2,rfl,rfl⟩:=fm_ok a s h';exact⟨⟨_,_,Tryz.func257,rfl,by kernel_rfl⟩,tQ Tryz.laysM246 u h1 (by omega) w1 (gV ht hK)⟩
theorem code_okN(h:cdM.funcs.toList.all (dJ Tryz.prog)=true)(w0:W0):kV w0 Tryz.prog cdN:=
 lV (lV (aD4 h w0) rfl (jI ⟨_,_,Tryz.func281,rfl,by kernel_rfl⟩ (pu_known w0))) rfl (jI ⟨_,_,Tryz.func284,rfl,by kernel_rfl⟩ (pi_known w0))
theorem aHd(h:cdM.funcs.toList.all (dJ Tryz.prog)=true)(hfol:Tryz.prog.toTables.follows .mixedOrders=true){w:World}(hg:Tryz.prog.globals.size≤w.heap.size)(ht:Lib.TabIs Tryz.prog w pwN .u64 Lib.pow10Tab){f:FuncId}{T:List (List UInt8×Tb)}
    (hr:(T.all fun x=>x.2.all fun y=>isV y.2 (runN f x.1 y.1))=true) (hp: ∀x∈T,∀y∈x.2,aB y.2=true): ∀x∈T,∀y∈x.2,Calls Tryz.prog f #[sV x.1,sV y.1] w fun e w'=>e= .returned y.2∧Kept w w':=fun x hx y hy=>by
 obtain⟨σ,h1⟩:=isV_ok (List.all_eq_true.1 (List.all_eq_true.1 hr x hx) y hy);exact aCl hfol (fun w0 _=>code_okN h w0) (orcF_ok ht) hg h1 rfl (hp x hx y hy)
theorem aDm{T:List (List UInt8×Tb)}(h:(T.all fun x=>x.2.all fun y=>aB y.2)=true): ∀x∈T,∀y∈x.2,aB y.2=true:=fun x hx y hy=>List.all_eq_true.1 (List.all_eq_true.1 h x hx) y hy
theorem okC:dJ Tryz.prog Tryz.f236=true:=by kernel_rfl
theorem okM:dJ Tryz.prog Tryz.f237=true:=by kernel_rfl
theorem uO{C:Program}{f g:FuncId}{fn fn':Func}(hfg: ¬g=f)(h:C.funcs[g]?=some fn'):(kK C f fn).funcs[g]?=some fn':=by
 have:(C.funcs.toList.set f fn)[g]?=some fn':=by
  rw[List.getElem?_set,if_neg (Ne.symm hfg)];simpa using h
 simpa [kK]using this
theorem cdM_at(g:FuncId)(hg:g=236∨g=237):cdM.funcs[g]?=Tryz.prog.funcs[g]?:=by
 unfold cdM;rcases hg with rfl|rfl
 ·simp only[kK,List.getElem?_toArray,List.getElem?_set];simp
 ·simp only[kK,List.getElem?_toArray,List.getElem?_set];simp
theorem aG4(h:cdP.funcs.toList.all (dJ Tryz.prog)=true):cdM.funcs.toList.all (dJ Tryz.prog)=true:=by
 refine List.all_eq_true.2 fun fn hfn=>?_
 obtain⟨f,hf⟩:=List.mem_iff_getElem?.1 hfn;have hf':cdM.funcs[f]?=some fn:=by simpa using hf
 by_cases e:f=236
 ·subst e;rw[cdM_at _ (.inl rfl),Tryz.func236]at hf';rw[←Option.some.inj hf'];exact okC
 ·by_cases e2:f=237
  ·subst e2;rw[cdM_at _ (.inr rfl),Tryz.func237]at hf';rw[←Option.some.inj hf'];exact okM
  ·have h1:cdP.funcs[f]?=some fn:=uO e2 (uO e hf');exact List.all_eq_true.1 h _ (List.mem_of_getElem? (show cdP.funcs.toList[f]?=some fn by simpa using h1))
theorem code_okP(h:cdP.funcs.toList.all (dJ Tryz.prog)=true)(hfol:Tryz.prog.toTables.follows .mixedOrders=true)(w0:W0)(hg:Tryz.prog.globals.size≤w0.heap.size)(ht:Lib.TabIs Tryz.prog w0.toWorld pwN .u64 Lib.pow10Tab):kV w0 Tryz.prog cdP:=
 lV (lV (aD4 (aG4 h) w0) rfl (jI ⟨_,_,Tryz.func236,rfl,by kernel_rfl⟩
  (wY (by kernel_rfl) (by decide) (by decide) (fun call L S σ=>by kernel_rfl) (aDm (by kernel_rfl)) (fun x hx y hy w hK=>aHd (aG4 h) hfol (Nat.le_trans hg hK.size) (gV ht hK) run_cmp (aDm (by kernel_rfl)) x hx y hy))))
  rfl (jI ⟨_,_,Tryz.func237,rfl,by kernel_rfl⟩
  (wY (by kernel_rfl) (by decide) (by decide) (fun call L S σ=>by kernel_rfl) (aDm (by kernel_rfl)) (fun x hx y hy w hK=>aHd (aG4 h) hfol (Nat.le_trans hg hK.size) (gV ht hK) run_mul (aDm (by kernel_rfl)) x hx y hy)))
end Go.Rf
namespace Go.Rf
open Go.AI Go.Proofs
section
variable(call:FuncId→Array Value→St→Option (Value×St))(L:Nat)(σ:St)
theorem regN{P:Program}{id:Nat}{ops:Array Oper}{S S':Slots}{σ σ':St}(h:cK P call ops σ.next ops.toList 0 S {σ with next:=σ.next+ops.size}=some (S',σ')):aS P call L (.region id ops false) S σ=some (.normal,S',σ'):=by
 rw[aS,dN,cdf,h];rfl
theorem seqN{P:Program}{a b:Code}{S S1:Slots}{σ σ1:St}(h:aS P call L a S σ=some (.normal,S1,σ1)):aS P call L (.seq a b) S σ=aS P call L b S1 σ1:=by
 rw[aS,h]
theorem seqR{P:Program}{a b:Code}{S S1:Slots}{σ σ1:St}(h:aS P call L a S σ=some (.ret,S1,σ1)):aS P call L (.seq a b) S σ=some (.ret,S1,σ1):=by
 rw[aS,h]
theorem condT{P:Program}{x:Operand}{a b:Code}{S:Slots}{σ:St}(h:ev S x= .bool true):aS P call L (.cond x a b) S σ=aS P call L a S σ:=by
 rw[aS,h]
theorem condF{P:Program}{x:Operand}{a b:Code}{S:Slots}{σ:St}(h:ev S x= .bool false):aS P call L (.cond x a b) S σ=aS P call L b S σ:=by
 rw[aS,h]
theorem endR{S:Slots}{σ:St}:bT Tryz.prog Tryz.f197 (some (.ret,S,σ))=some (S.at 2,σ):=by kernel_rfl
theorem endC{S:Slots}{σ:St}:bT Tryz.prog clF (some (.ret,S,σ))=some (S.at 2,σ):=by kernel_rfl
noncomputable def kR(n:Nat):Code:=match clB,n with
 | .seq a _,0=>a
 | .seq _ (.seq (.seq b _) _),1=>b
 | .seq _ (.seq (.seq _ (.cond _ (.seq c _) _)) _),_=>c
 |_,_=> .skip
noncomputable def kO(n:Nat):Array Oper:=match kR n with| .region _ o _=>o|_=> #[]
noncomputable def ko(n k:Nat):Oper:=(kO n).toList.getD k (mkO none (.move (.tmp 0)) 0)
theorem clB_eq:clB= .seq (.region 0 (kO 0) false) (.seq (.seq (.region 1 (kO 1) false) (.cond (.tmp 4) (.seq (.region 2 (kO 2) false) .ret) .skip)) clR):=by kernel_rfl
theorem clC_eq:aAO clB= .seq (.region 0 (kO 0) false) (.seq (.seq (.region 1 clO1 false) (.cond (.tmp 4) (.seq (.region 2 clO2 false) .ret) .skip)) clR):=by kernel_rfl
theorem l0:(kO 0).toList=[ko 0 0]:=by kernel_rfl
theorem l1:(kO 1).toList=[ko 1 0,ko 1 1]:=by kernel_rfl
theorem l2:(kO 2).toList=[ko 2 0]:=by kernel_rfl
theorem n0:(kO 0).size=1:=by kernel_rfl
theorem n1:(kO 1).size=2:=by kernel_rfl
theorem n2:(kO 2).size=1:=by kernel_rfl
theorem g00:(ko 0 0).guard=none:=by kernel_rfl
theorem g10:(ko 1 0).guard=none:=by kernel_rfl
theorem g11:(ko 1 1).guard=none:=by kernel_rfl
theorem g20:(ko 2 0).guard=none:=by kernel_rfl
theorem d00:(ko 0 0).dst=some 2:=by kernel_rfl
theorem d10:(ko 1 0).dst=some 3:=by kernel_rfl
theorem d11:(ko 1 1).dst=some 4:=by kernel_rfl
theorem d20:(ko 2 0).dst=some 2:=by kernel_rfl
def one3(w:Value):Slots:=Slots.store .nil (some 3) w
def one0(w:Value):Slots:=Slots.store .nil (some 0) w
theorem a00{S:Slots}{σ:St}{b i:Nat}:aop Tryz.prog call b i (ko 0 0) S σ=some (.slice none 0 0,σ):=by kernel_rfl
theorem a20{S:Slots}{σ:St}{b i:Nat}:aop Tryz.prog call b i (ko 2 0) S σ=some (.slice none 0 0,σ):=by kernel_rfl
theorem a10{S:Slots}{σ:St}{b i:Nat}:aop Tryz.prog call b i (ko 1 0) S σ=some (S.at 0,σ):=by kernel_rfl
theorem a11{S:Slots}{σ:St}{b i:Nat}:aop Tryz.prog call b i (ko 1 1) S σ=aop Tryz.prog call b i (ko 1 1) (one3 (S.at 3)) σ:=by kernel_rfl
theorem a11n{σ:St}{b i:Nat}:aop Tryz.prog call b i (ko 1 1) (one3 (.slice none 0 0)) σ=some (.bool true,σ):=by kernel_rfl
theorem a11s{σ:St}{b i n c:Nat}{a:Addr}:aop Tryz.prog call b i (ko 1 1) (one3 (.slice (some a) n c)) σ=some (.bool false,σ):=by kernel_rfl
theorem head{S:Slots}{u:Value}(hu:S.at 0=u){q:Bool}(hq: ∀(σ:St) b i,aop Tryz.prog call b i (ko 1 1) (one3 u) σ=some (.bool q,σ)){fl:Fl}{r:Option (Fl×Slots×St)}
    (h:(bif q then aS Tryz.prog call L (.seq (.seq (.region 2 (kO 2) false) .ret) clR) (((S.store (some 2) (.slice none 0 0)).store (some 3) u).store (some 4) (.bool q)) {σ with next:=σ.next+3}
      else aS Tryz.prog call L clR (((S.store (some 2) (.slice none 0 0)).store (some 3) u).store (some 4) (.bool q)) {σ with next:=σ.next+3})=r):
    aS Tryz.prog call L clB S σ=r:=by
 have h0:aS Tryz.prog call L (.region 0 (kO 0) false) S σ=some (.normal,S.store (some 2) (.slice none 0 0),{σ with next:=σ.next+1}):=by
  refine regN call L ?_;rw[l0,n0,aY call g00 (a00 call),d00];rfl
 have h1:aS Tryz.prog call L (.region 1 (kO 1) false) (S.store (some 2) (.slice none 0 0)) {σ with next:=σ.next+1}=some (.normal,((S.store (some 2) (.slice none 0 0)).store (some 3) u).store (some 4) (.bool q),{σ with next:=σ.next+3}):=by
  refine regN call L ?_;have e0:(S.store (some 2) (.slice none 0 0)).at 0=u:=by rw[Go.Rf.at_store,if_neg (by decide)];exact hu
  have e3:((S.store (some 2) (.slice none 0 0)).store (some 3) u).at 3=u:=by rw[Go.Rf.at_store,if_pos rfl]
  rw[l1,n1,aY call g10 (a10 call),e0,d10,aY call g11 (by rw[a11,e3];exact hq _ _ _),d11];rfl
 have e4:ev (((S.store (some 2) (.slice none 0 0)).store (some 3) u).store (some 4) (.bool q)) (.tmp 4)= .bool q:=by
  show Slots.at _ 4=_;rw[Go.Rf.at_store,if_pos rfl]
 rw[clB_eq,seqN call L h0];subst h;cases q with
 |true=>
  rw[cdt,aS,seqN call L h1,condT call L e4]
  conv=>rhs;rw[aS]
 |false=>
  rw[cdf,aS,seqN call L h1,condF call L e4,aS]
end
end Go.Rf
namespace Go.Rf
open Go.AI Go.Proofs
section
variable(call:FuncId→Array Value→St→Option (Value×St))(L:Nat)(σ:St)
def S56(x u:Value):Slots:=Slots.store (Slots.store .nil (some 5) x) (some 6) u
theorem a2{S:Slots}{σ:St}{b i:Nat}:aop Tryz.prog call b i (clo 2) S σ=aop Tryz.prog call b i (clo 2) (S56 (S.at 5) (S.at 6)) σ:=by kernel_rfl
theorem a0{S:Slots}:aop Tryz.prog call (σ.next+3) 0 (clo 0) S {σ with next:=σ.next+7}=some (.slice (some ⟨σ.next+3,0,none⟩) 0 0,clS σ):=by kernel_rfl
theorem a1{S:Slots}{σ:St}{b i:Nat}:aop Tryz.prog call b i (clo 1) S σ=some (S.at 0,σ):=by kernel_rfl
theorem a3{S:Slots}{σ:St}{b i:Nat}:aop Tryz.prog call b i (clo 3) S σ=some (S.at 7,σ):=by kernel_rfl
theorem g0:(clo 0).guard=none:=by kernel_rfl
theorem g1:(clo 1).guard=none:=by kernel_rfl
theorem g2:(clo 2).guard=none:=by kernel_rfl
theorem g3:(clo 3).guard=none:=by kernel_rfl
theorem e0:(clo 0).dst=some 5:=by kernel_rfl
theorem e1:(clo 1).dst=some 6:=by kernel_rfl
theorem e2:(clo 2).dst=some 7:=by kernel_rfl
theorem e3:(clo 3).dst=some 2:=by kernel_rfl
theorem R_eqS{S:Slots}{u:Value}(hu:S.at 0=u){fn:Func}(hfn: ∀(S:Slots) (σ:St),bT Tryz.prog fn (some (.ret,S,σ))=some (S.at 2,σ))(hno:bT Tryz.prog fn none=none):
    bT Tryz.prog fn (aS Tryz.prog call L clR S {σ with next:=σ.next+3})=aop Tryz.prog call (σ.next+3) 2 (clo 2) (S56 (.slice (some ⟨σ.next+3,0,none⟩) 0 0) u) (clS σ):=by
 have hr: ∀r,cK Tryz.prog call clO3 (σ.next+3) [clo 2,clo 3] 2 ((S.store (some 5) (.slice (some ⟨σ.next+3,0,none⟩) 0 0)).store (some 6) u) (clS σ)=r→aS Tryz.prog call L (.region 3 clO3 false) S {σ with next:=σ.next+3}=r.map fun x=>(.normal,x.1,x.2):=by
  intro r hr;have e:dN Tryz.prog call clO3 false S {σ with next:=σ.next+3}=r:=by
   rw[dN,cdf,clO3_eq,aIa];refine(aY call g0 (a0 call σ)).trans ?_;rw[e0];refine(aY call g1 (a1 call)).trans ?_;rw[e1,Go.Rf.at_store,if_neg (by decide),hu]
   exact hr
  rw[aS,e]
 have h56:aop Tryz.prog call (σ.next+3) 2 (clo 2) ((S.store (some 5) (.slice (some ⟨σ.next+3,0,none⟩) 0 0)).store (some 6) u) (clS σ)=aop Tryz.prog call (σ.next+3) 2 (clo 2) (S56 (.slice (some ⟨σ.next+3,0,none⟩) 0 0) u) (clS σ):=by
  rw[a2,Go.Rf.at_store,if_neg (by decide),Go.Rf.at_store,if_pos rfl,Go.Rf.at_store,if_pos rfl]
 rw[clR_eq];cases hX:aop Tryz.prog call (σ.next+3) 2 (clo 2) (S56 (.slice (some ⟨σ.next+3,0,none⟩) 0 0) u) (clS σ)with
 |none=>
  have:=hr none (oP call g2 (h56.trans hX));rw[aS,this];exact hno
 |some x=>
  obtain⟨v,σ1⟩:=x;have h3:=(aY call (ops:=clO3) (rest:=[clo 3]) g2 (h56.trans hX));rw[e2]at h3;have:=hr _ (h3.trans (aY call g3 (a3 call)));rw[cK,e3,Go.Rf.at_store,if_pos rfl]at this;rw[aS,this,omS];simp only[aS];rw[hfn,Go.Rf.at_store,if_pos rfl]
theorem fnP(S:Slots)(σ:St):bT Tryz.prog Tryz.f197 (some (.ret,S,σ))=some (S.at 2,σ):=endR
theorem fnC(S:Slots)(σ:St):bT Tryz.prog clF (some (.ret,S,σ))=some (S.at 2,σ):=endC
theorem p_nilS{S:Slots}(hu:S.at 0= .slice none 0 0):bT Tryz.prog Tryz.f197 (aS Tryz.prog call L clB S σ)=some (.slice none 0 0,{σ with next:=σ.next+4}):=by
 rw[head call L σ (fl:= .normal) hu (q:=true) (fun _ _ _=>a11n call) rfl,cdt]
 have h2: ∀T:Slots,aS Tryz.prog call L (.region 2 (kO 2) false) T {σ with next:=σ.next+3}=some (.normal,T.store (some 2) (.slice none 0 0),{σ with next:=σ.next+4}):=fun T=>regN call L (by
  rw[l2,n2,aY call g20 (a20 call),d20];rfl)
 have h3: ∀T:Slots,aS Tryz.prog call L (.seq (.region 2 (kO 2) false) .ret) T {σ with next:=σ.next+3}=some (.ret,T.store (some 2) (.slice none 0 0),{σ with next:=σ.next+4}):=fun T=>(seqN call L (h2 T)).trans (by rw[aS])
 rw[seqR call L (h3 _),fnP,Go.Rf.at_store,if_pos rfl]
theorem at0{S:Slots}{u x:Value}{q:Bool}(hu:S.at 0=u):(((S.store (some 2) (.slice none 0 0)).store (some 3) x).store (some 4) (.bool q)).at 0=u:=by
 rw[Go.Rf.at_store,if_neg (by decide),Go.Rf.at_store,if_neg (by decide),Go.Rf.at_store,if_neg (by decide)];exact hu
theorem aGY{S:Slots}{a:Addr}{n c:Nat}(hu:S.at 0= .slice (some a) n c):bT Tryz.prog Tryz.f197 (aS Tryz.prog call L clB S σ)=
    aop Tryz.prog call (σ.next+3) 2 (clo 2) (S56 (.slice (some ⟨σ.next+3,0,none⟩) 0 0) (.slice (some a) n c)) (clS σ):=by
 rw[head call L σ (fl:= .normal) hu (q:=false) (fun _ _ _=>a11s call) rfl,cdf]
 exact R_eqS call L σ (at0 hu) fnP rfl
theorem p_empS{S:Slots}(hu:S.at 0=zH):bT Tryz.prog Tryz.f197 (aS Tryz.prog call L clB S σ)=some (.slice (some ⟨σ.next+3,0,none⟩) 0 0,clS σ):=
 (aGY call L σ hu).trans (by kernel_rfl)
end
end Go.Rf
namespace Go.Rf
open Go.AI Go.Proofs
section
variable(call:FuncId→Array Value→St→Option (Value×St))(L:Nat)(σ:St)
def k1(j:Nat):Oper:=clO1.toList.getD j (mkO none (.move (.tmp 0)) 0)
def k2(j:Nat):Oper:=clO2.toList.getD j (mkO none (.move (.tmp 0)) 0)
theorem b10{S:Slots}{σ:St}{b i:Nat}:aop Tryz.prog call b i (k1 0) S σ=aop Tryz.prog call b i (k1 0) (one0 (S.at 0)) σ:=by kernel_rfl
theorem b10s{σ:St}{b i n c:Nat}{a:Option Addr}:aop Tryz.prog call b i (k1 0) (one0 (.slice a n c)) σ=some (goInt (n:Int),σ):=by kernel_rfl
theorem b11{S:Slots}{σ:St}{b i:Nat}:aop Tryz.prog call b i (k1 1) S σ=aop Tryz.prog call b i (k1 1) (one3 (S.at 3)) σ:=by kernel_rfl
theorem b11t{σ:St}{b i:Nat}:aop Tryz.prog call b i (k1 1) (one3 (goInt ((0:Nat):Int))) σ=some (.bool true,σ):=by kernel_rfl
theorem b11f{σ:St}{b i n:Nat}:aop Tryz.prog call b i (k1 1) (one3 (goInt ((n+1:Nat):Int))) σ=some (.bool false,σ):=by kernel_rfl
theorem b20{S:Slots}:aop Tryz.prog call (σ.next+3) 0 (k2 0) S {σ with next:=σ.next+7}=some (.slice (some ⟨σ.next+3,0,none⟩) 0 0,clS σ):=by kernel_rfl
theorem b21{S:Slots}{σ:St}{b i:Nat}:aop Tryz.prog call b i (k2 1) S σ=aop Tryz.prog call b i (k2 1) (one0 (S.at 0)) σ:=by kernel_rfl
theorem b21z{σ:St}{b i c:Nat}{a:Option Addr}:aop Tryz.prog call b i (k2 1) (one0 (.slice a 0 c)) σ=some (qP a,σ):=by kernel_rfl
theorem b22{S:Slots}{σ:St}{b i:Nat}:aop Tryz.prog call b i (k2 2) S σ=some (S.at 0,σ):=by kernel_rfl
theorem b23{S:Slots}{σ:St}{b i:Nat}:aop Tryz.prog call b i (k2 3) S σ=some (S.at 0,σ):=by kernel_rfl
theorem headC{S:Slots}{u w:Value}(hu:S.at 0=u)(hl: ∀(σ:St) b i,aop Tryz.prog call b i (k1 0) (one0 u) σ=some (w,σ)){q:Bool}(hq: ∀(σ:St) b i,aop Tryz.prog call b i (k1 1) (one3 w) σ=some (.bool q,σ)):
    aS Tryz.prog call L (aAO clB) S σ=(bif q then aS Tryz.prog call L (.seq (.seq (.region 2 clO2 false) .ret) clR) (((S.store (some 2) (.slice none 0 0)).store (some 3) w).store (some 4) (.bool q)) {σ with next:=σ.next+3}
      else aS Tryz.prog call L clR (((S.store (some 2) (.slice none 0 0)).store (some 3) w).store (some 4) (.bool q)) {σ with next:=σ.next+3}):=by
 have h0:aS Tryz.prog call L (.region 0 (kO 0) false) S σ=some (.normal,S.store (some 2) (.slice none 0 0),{σ with next:=σ.next+1}):=by
  refine regN call L ?_;rw[l0,n0,aY call g00 (a00 call),d00];rfl
 have h1:aS Tryz.prog call L (.region 1 clO1 false) (S.store (some 2) (.slice none 0 0)) {σ with next:=σ.next+1}=some (.normal,((S.store (some 2) (.slice none 0 0)).store (some 3) w).store (some 4) (.bool q),{σ with next:=σ.next+3}):=by
  refine regN call L ?_;have e0:(S.store (some 2) (.slice none 0 0)).at 0=u:=by rw[Go.Rf.at_store,if_neg (by decide)];exact hu
  have e3:((S.store (some 2) (.slice none 0 0)).store (some 3) w).at 3=w:=by rw[Go.Rf.at_store,if_pos rfl]
  rw[show clO1.toList=[k1 0,k1 1] from rfl,show clO1.size=2 from rfl,aY call (show(k1 0).guard=none from rfl) (by rw[b10,e0];exact hl _ _ _),show(k1 0).dst=some 3 from rfl,
   aY call (show(k1 1).guard=none from rfl) (by rw[b11,e3];exact hq _ _ _),show(k1 1).dst=some 4 from rfl];rfl
 have e4:ev (((S.store (some 2) (.slice none 0 0)).store (some 3) w).store (some 4) (.bool q)) (.tmp 4)= .bool q:=by
  show Slots.at _ 4=_;rw[Go.Rf.at_store,if_pos rfl]
 rw[clC_eq,seqN call L h0];cases q with
 |true=>
  rw[cdt,aS,seqN call L h1,condT call L e4]
  conv=>rhs;rw[aS]
 |false=>
  rw[cdf,aS,seqN call L h1,condF call L e4,aS]
theorem headN{S:Slots}{u:Value}(hu:S.at 0=u)(hl: ∀(σ:St) b i,aop Tryz.prog call b i (k1 0) (one0 u) σ=none):aS Tryz.prog call L (aAO clB) S σ=none:=by
 have h0:aS Tryz.prog call L (.region 0 (kO 0) false) S σ=some (.normal,S.store (some 2) (.slice none 0 0),{σ with next:=σ.next+1}):=by
  refine regN call L ?_;rw[l0,n0,aY call g00 (a00 call),d00];rfl
 have e0:(S.store (some 2) (.slice none 0 0)).at 0=u:=by rw[Go.Rf.at_store,if_neg (by decide)];exact hu
 have h1:aS Tryz.prog call L (.region 1 clO1 false) (S.store (some 2) (.slice none 0 0)) {σ with next:=σ.next+1}=none:=by
  rw[aS,dN,cdf,show clO1.toList=[k1 0,k1 1] from rfl,oP call (show(k1 0).guard=none from rfl) (by rw[b10,e0];exact hl _ _ _)];rfl
 rw[clC_eq,seqN call L h0,aS,aS,h1]
theorem c_zeroS{S:Slots}{a:Option Addr}{c:Nat}(hu:S.at 0= .slice a 0 c):bT Tryz.prog clF (aS Tryz.prog call L (aAO clB) S σ)=some (qP a,clS σ):=by
 rw[headC call L σ hu (fun _ _ _=>b10s call) (q:=true) (fun _ _ _=>b11t call),cdt]
 have h2: ∀T:Slots,T.at 0= .slice a 0 c→aS Tryz.prog call L (.region 2 clO2 false) T {σ with next:=σ.next+3}=some (.normal,(((T.store (some 5) (.slice (some ⟨σ.next+3,0,none⟩) 0 0)).store (some 2) (qP a)).store (some 6) (.slice a 0 c)).store (some 6) (.slice a 0 c),clS σ):=fun T hT=>regN call L (by
  have q1:(T.store (some 5) (.slice (some ⟨σ.next+3,0,none⟩) 0 0)).at 0= .slice a 0 c:=by rw[Go.Rf.at_store,if_neg (by decide)];exact hT
  have q2:((T.store (some 5) (.slice (some ⟨σ.next+3,0,none⟩) 0 0)).store (some 2) (qP a)).at 0= .slice a 0 c:=by rw[Go.Rf.at_store,if_neg (by decide)];exact q1
  have q3:(((T.store (some 5) (.slice (some ⟨σ.next+3,0,none⟩) 0 0)).store (some 2) (qP a)).store (some 6) (.slice a 0 c)).at 0= .slice a 0 c:=by rw[Go.Rf.at_store,if_neg (by decide)];exact q2
  rw[show clO2.toList=[k2 0,k2 1,k2 2,k2 3] from rfl,show clO2.size=4 from rfl]
  refine(aY call (show(k2 0).guard=none from rfl) (b20 call σ)).trans ?_
  refine(aY call (σ1:=clS σ) (v:=qP a) (show(k2 1).guard=none from rfl) ?_).trans ?_
  ·rw[show(k2 0).dst=some 5 from rfl,b21,q1];exact b21z call
  refine(aY call (σ1:=clS σ) (v:= .slice a 0 c) (show(k2 2).guard=none from rfl) ?_).trans ?_
  ·rw[show(k2 0).dst=some 5 from rfl,show(k2 1).dst=some 2 from rfl,b22,q2]
  refine(aY call (σ1:=clS σ) (v:= .slice a 0 c) (show(k2 3).guard=none from rfl) ?_).trans ?_
  ·rw[show(k2 0).dst=some 5 from rfl,show(k2 1).dst=some 2 from rfl,show(k2 2).dst=some 6 from rfl,b23,q3]
  rfl)
 rw[seqR call L ((seqN call L (h2 _ (at0 hu))).trans (by rw[aS])),fnC,Go.Rf.at_store,if_neg (by decide),Go.Rf.at_store,if_neg (by decide),Go.Rf.at_store,if_pos rfl]
theorem c_consS{S:Slots}{a:Addr}{n c:Nat}(hu:S.at 0= .slice (some a) (n+1) c):bT Tryz.prog clF (aS Tryz.prog call L (aAO clB) S σ)=bT Tryz.prog Tryz.f197 (aS Tryz.prog call L clB S σ):=by
 rw[aGY call L σ hu,headC call L σ hu (fun _ _ _=>b10s call) (q:=false) (fun _ _ _=>b11f call),cdf]
 exact R_eqS call L σ (at0 hu) fnC rfl
end
end Go.Rf
namespace Go.Rf
open Go.AI Go.Proofs
theorem fill_0(u:Value)(rest:List Value):(gF (u::rest) 0 .nil).at 0=u:=by
 rw[pS,if_pos ⟨nlR _,by simp⟩];rfl
theorem fill_n:(gF [] 0 .nil).at 0=undef:=rfl
theorem aH7(w0:W0):aJq w0 Tryz.prog 197 clF (aAO clB):=by
 refine⟨⟨_,_,aH8,aH9,by kernel_rfl⟩,?_⟩
 intro call L hcall args args' σ σ' w μ r h Z hargs _;have hc:=hcall w0 rfl;have run:=fun{args2:Array Value} {σ1 σ2:St} {r2:Value} (h2:bT Tryz.prog Tryz.f197 (aS Tryz.prog call L clB (gF args2.toList 0 .nil) σ1)=some (r2,σ2)) (Z2:Sim w0 Tryz.prog μ σ1 w) (ha:VRL μ args2.toList args'.toList)=>
  (qC (P:=Tryz.prog) aDB aH8 aH9 cl_ok hc h2 Z2 ha).2
 cases hA:args.toList with
 |nil=>
  rw[hA,headN call L σ fill_n (fun _ _ _=>by kernel_rfl)]at h
  exact absurd ((by kernel_rfl:none=bT Tryz.prog clF none).trans h) (fun e=>by cases e)
 |cons u rest=>
  rw[hA]at h hargs;obtain⟨u',rest',hA',ru,rr⟩:=hargs.cons_inv;have hu:=fill_0 u rest;have hsl: ∃a n c,u= .slice a n c:=by
   cases u with
   |slice a n c=>exact⟨a,n,c,rfl⟩
   |_=>
    rw[headN call L σ hu (fun _ _ _=>by kernel_rfl)]at h
    exact absurd ((by kernel_rfl:none=bT Tryz.prog clF none).trans h) (fun e=>by cases e)
  obtain⟨a,n,c,rfl⟩:=hsl;cases n with
  |zero=>
   rw[c_zeroS call L σ hu]at h;simp only[ojE,pjE]at h;obtain⟨rfl,rfl⟩:=h;cases a with
   |none=>
    obtain⟨_,rfl,rfl⟩:=ru.nilslc_inv;have Z2:Sim w0 Tryz.prog μ (({σ with next:=σ.next+3}:St).put (σ.next+3) (.cells [] (bD 13))) w:=
     (Z.next (by omega)).put_new (Z.dom _ (by omega)) (fun cs m g v e1 e2=>by cases e1;cases e2)
    have h2:=p_nilS call L (({σ with next:=σ.next+3}:St).put (σ.next+3) (.cells [] (bD 13))) hu
    refine(run (args2:=args) (by rw[hA];exact h2) Z2 (by rw[hA];exact hargs)).mono ?_
    rintro e w' ⟨μ',r',he,hr,hZ,hE,hn⟩;refine⟨μ',r',he,hr,hZ,⟨hE.1,fun id hi=>hE.2 id ?_⟩,?_⟩
    ·show id<σ.next+3;omega
    ·show σ.next≤σ.next+7;omega
   |some a=>
    have hus: ∃a' cap,u'= .slice (some a') 0 cap:=by
     cases ru with
     |same _ h=>simp[aB]at h
     |slc=>exact⟨_,_,rfl⟩
     |emp=>exact⟨_,_,rfl⟩
    obtain⟨a',cap,rfl⟩:=hus;have h2:=p_empS call L σ (fill_0 zH rest);refine(run (args2:=(zH::rest).toArray) (by simpa using h2) Z (by rw[hA'];exact VRL.cons (x:=zH) (.emp a' 0 cap (fun e=>by cases e)) rr)).mono ?_
    rintro e w' ⟨μ',r',he,hr,hZ,hE,hn⟩;obtain⟨p,cap',hp,rfl,hcap,_⟩:=hr.slc_inv;obtain rfl:=hcap rfl;exact⟨μ',_,he,.emp _ 1 0 (fun _=>rfl),hZ,hE,hn⟩
  |succ n=>
   cases a with
   |none=>exact absurd ru.nilslc_inv.1 (by simp)
   |some a=>
    rw[c_consS call L σ hu]at h;exact run (args2:=args) (by rw[hA];exact h) Z (by rw[hA];exact hargs)
end Go.Rf
namespace Go.Rf
open Go.AI Go.Proofs Go.RowKit Go.TV
set_option maxRecDepth 100000
theorem cdP_at:cdP.funcs[197]?=Tryz.prog.funcs[197]?:=by
 unfold cdP cdM;simp only[kK,List.getElem?_toArray,List.getElem?_set];simp
theorem okX_of(h:cdX.funcs.toList.all (dJ Tryz.prog)=true):cdP.funcs.toList.all (dJ Tryz.prog)=true:=by
 refine List.all_eq_true.2 fun fn hfn=>?_
 obtain⟨f,hf⟩:=List.mem_iff_getElem?.1 hfn;have hf':cdP.funcs[f]?=some fn:=by simpa using hf
 by_cases e:f=197
 ·subst e;rw[cdP_at,aH8]at hf';rw[←Option.some.inj hf'];exact cl_ok
 ·have h1:cdX.funcs[f]?=some fn:=uO e hf';exact List.all_eq_true.1 h _ (List.mem_of_getElem? (show cdX.funcs.toList[f]?=some fn by simpa using h1))
theorem code_okX(h:cdX.funcs.toList.all (dJ Tryz.prog)=true)(hfol:Tryz.prog.toTables.follows .mixedOrders=true)(w0:W0)(hg:Tryz.prog.globals.size≤w0.heap.size)(ht:Lib.TabIs Tryz.prog w0.toWorld pwN .u64 Lib.pow10Tab):kV w0 Tryz.prog cdX:=
 lV (code_okP (okX_of h) hfol w0 hg ht) rfl (aH7 w0)
end Go.Rf
