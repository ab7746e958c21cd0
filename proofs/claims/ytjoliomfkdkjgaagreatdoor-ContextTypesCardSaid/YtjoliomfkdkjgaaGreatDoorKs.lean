import Derived.Test.YtjoliomfkdkjgaaGreatDoorKn
import Derived.RangeFuncOwn
import Derived.RangeFuncCalls
import Derived.RangeFuncLeaves
import Derived.RangeFuncBox
import Derived.Shelf.Abstract
import Derived.WalkKit
import Derived.TacticsIn
import Derived.RegionIn
import Derived.LoopNIn
import Derived.Shelf.RegionOpen
import Derived.KernelRfl
set_option linter.unusedVariables false
set_option linter.unusedSimpArgs false
set_option linter.constructorNameAsVariable false
namespace Go.Rf
open Go.AI Go.Proofs
section
variable{w0:W0}{P:Program}{μ:Mp}{σ:St}{w:World}
def wO(w0:W0)(O:Nat→Option Obj):W0:={w0 with O:=O}
theorem xM(S:Sim w0 P μ σ w){O:Nat→Option Obj}(h: ∀k o,O k=some o→w.heap[k]?=some o∧∀id p,μ id=some p→p.b≠k):Sim (wO w0 O) P μ σ w:=
 ⟨⟨S.kept.toKept,h,S.kept.bnd⟩,S.dom,S.glob,fun id p cs m h1 h2 h3=>by
  obtain⟨a,b,c,d⟩:=S.row id p cs m h1 h2 h3;exact⟨a,b,c,d⟩,fun id p es h1 h2=>by
  obtain⟨a,b⟩:=S.map id p es h1 h2;exact⟨a,b⟩,S.off,S.tip,S.maps,S.vers,S.lim⟩
def lY(O:Nat→Option Obj)(k:Nat)(o:Obj):Nat→Option Obj:=fun j=>if j=k then some o else O j
theorem iJ{O:Nat→Option Obj}(S:Sim (wO w0 O) P μ σ w){k:Nat}{o:Obj}(h:w.heap[k]?=some o)(hk: ∀id p,μ id=some p→p.b≠k):Sim (wO w0 (lY O k o)) P μ σ w:=by
 have:=xM (w0:=wO w0 O) S (O:=lY O k o) (fun j o' hj=>by
  unfold lY at hj;split at hj
  ·rename_i e;subst e;cases hj;exact⟨h,hk⟩
  ·exact S.kept.oth j o' hj)
 exact this
theorem mI{O O':Nat→Option Obj}(S:Sim (wO w0 O) P μ σ w)(h: ∀k o,O' k=some o→O k=some o):Sim (wO w0 O') P μ σ w:=
 xM (w0:=wO w0 O) S (fun k o hk=>S.kept.oth k o (h k o hk))
theorem kH(S:Sim w0 P μ σ w){o:Obj}(ho: ∀C t fr,o= .cells C t fr→fr=(0,0)):Sim w0 P μ σ (w.alloc o):=by
 have hp: ∀k,k<w.heap.size→(w.alloc o).heap[k]?=w.heap[k]?:=fun k hk=>mM hk
 have hs:=S.kept.size;refine⟨⟨⟨S.kept.os,S.kept.output,?_,fun k hk=>(hp k (by omega)).trans (S.kept.old k hk),fun k C t fr hk h=>?_⟩,fun k o' hk=>?_,fun id p h=>?_⟩,S.dom,S.glob,fun id p cs m h1 h2 h3=>?_,fun id p es h1 h2=>?_,S.off,S.tip,S.maps,S.vers,S.lim⟩
 ·show _≤(w.heap.push o).size;rw[Array.size_push];omega
 ·change (w.heap.push o)[k]?=_ at h;rw[Array.getElem?_push]at h;split at h
  ·cases h;exact ho C t fr rfl
  ·exact S.kept.new k C t fr hk h
 ·have h1:=S.kept.oth k o' hk;exact⟨(hp k (Array.getElem?_eq_some_iff.1 h1.1).1).trans h1.1,h1.2⟩
 ·have:=S.kept.bnd id p h;show _<(w.heap.push o).size;rw[Array.size_push];omega
 ·obtain⟨⟨C,t,fr,r1,r2,r3⟩,r4,r5,r6⟩:=S.row id p cs m h1 h2 h3;exact⟨⟨C,t,fr,(hp p.b (S.kept.bnd id p h1)).trans r1,r2,r3⟩,r4,r5,r6⟩
 ·obtain⟨⟨ES,c,r1,r2⟩,r3⟩:=S.map id p es h1 h2;exact⟨⟨ES,c,(hp p.b (S.kept.bnd id p h1)).trans r1,r2⟩,r3⟩
theorem aEr{O:Nat→Option Obj}(S:Sim (wO w0 O) P μ σ w){k:Nat}{o:Obj}(hk:w0.heap.size≤k)(hO: ∀o',O k=some o'→o'=o)(hlt:k<w.heap.size)(hμ: ∀id p,μ id=some p→p.b≠k)(ho: ∀C t fr,o= .cells C t fr→fr=(0,0)):
    Sim (wO w0 O) P μ σ (w.putObj k o):=by
 have hp: ∀j,j≠k→(w.putObj k o).heap[j]?=w.heap[j]?:=fun j hj=>World.putObj_heap_other hj
 have hsz:(w.putObj k o).heap.size=w.heap.size:=World.putObj_size;have hs:=S.kept.size;refine⟨⟨⟨S.kept.os,S.kept.output,by rw[hsz];exact hs,fun j hj=>(hp j (by have:j<w0.heap.size:=hj;omega)).trans (S.kept.old j hj),fun j C t fr hj h=>?_⟩,fun j o' hj=>?_,fun id p h=>by rw[hsz];exact S.kept.bnd id p h⟩,S.dom,S.glob,fun id p cs m h1 h2 h3=>?_,fun id p es h1 h2=>?_,S.off,S.tip,S.maps,S.vers,S.lim⟩
 ·by_cases e:j=k
  ·subst e;rw[World.putObj_heap_same hlt]at h;cases h;exact ho C t fr rfl
  ·rw[hp j e]at h;exact S.kept.new j C t fr hj h
 ·by_cases e:j=k
  ·subst e;have:=hO o' hj;subst this;exact⟨World.putObj_heap_same hlt,hμ⟩
  ·have h1:=S.kept.oth j o' hj;exact⟨(hp j e).trans h1.1,h1.2⟩
 ·obtain⟨⟨C,t,fr,r1,r2,r3⟩,r4,r5,r6⟩:=S.row id p cs m h1 h2 h3;exact⟨⟨C,t,fr,(hp p.b (hμ id p h1)).trans r1,r2,r3⟩,r4,r5,r6⟩
 ·obtain⟨⟨ES,c,r1,r2⟩,r3⟩:=S.map id p es h1 h2;exact⟨⟨ES,c,(hp p.b (hμ id p h1)).trans r1,r2⟩,r3⟩
theorem aCn(S:Sim w0 P μ σ w):Sim w0 P μ σ w.drew:=S.drawn _
theorem kP(S:Sim w0 P μ σ w): ∀id p,μ id=some p→p.b≠w.heap.size:=fun id p h e=>by
 have:=S.kept.bnd id p h;omega
end
theorem aC7{l:List Value}(h:l.length=11): ∃x0 x1 x2 x3 x4 x5 x6 x7 x8 x9 x10,l=[x0,x1,x2,x3,x4,x5,x6,x7,x8,x9,x10]:=by
 match l,h with
 |[x0,x1,x2,x3,x4,x5,x6,x7,x8,x9,x10],_=>exact⟨x0,x1,x2,x3,x4,x5,x6,x7,x8,x9,x10,rfl⟩
theorem agg11{v:Value}(h:v.cells.size=11): ∃l:List Value,v= .agg l.toArray∧l.length=11:=by
 cases v with
 |agg cs=>exact⟨cs.toList,rfl,by simpa [Value.cells]using h⟩
 |_=>simp[Value.cells]at h
theorem vr_agg{μ:Mp}{l:List Value}{v':Value}(r:VR μ (.agg l.toArray) v'): ∃l':List Value,v'= .agg l'.toArray∧VRL μ l l':=by
 obtain⟨us,rfl,h⟩:=r.agg_inv;exact⟨us.toList,rfl,by simpa using h⟩
theorem one_cell{v:Value}(h:one v=true):v.oneCell'=true:=by cases v<;>first|rfl|cases h
theorem aU{v:Value}(h:one v=true)(P:Program): ∀(a:Addr) (m:Mode) (w:World),(store a v m).run P w=stored P w a v m:=fun a m w=>run_store P w a v m (one_cell h)
theorem aS{w:World}{b i:Nat}{C:Array Value}{t:TypeId}{fr:Nat×Nat}{v:Value}(h:w.heap[b]?=some (.cells C t fr))(hv:C[i]?=some v):w.cell? ⟨b,i,none⟩=some v:=by
 unfold World.cell?;rw[h];simpa using hv
end Go.Rf
namespace Go.Rf
open Go.AI Go.Proofs Go.RowKit
noncomputable def parts:Code×Code:=match Tryz.f8.body with
 |some (.seq _ (.seq _ (.seq _ (.seq (.seq _ (.block _ (.rangeFunc _ _ a b))) _))))=>(a,b)
 |_=>(.skip,.skip)
noncomputable def aAx(fn:FuncId)(ts:Array Value)(D:Nat)(st:LoopState)(pe:Option Code):Loop:={state:=st,pending:=pe,fn:=fn,tmps:=ts,params:= #[62],assign:=parts.1,body:=parts.2,defers:=D}
theorem aCl{F:Fence}{n:Nat}{P:Program}{ops:Array Oper}{Q:Exit→Act→World→Prop}{rest:List Oper}{o:Oper}{a:Act}{w w':World}{v:Value}{l:Nat}(hF:F.round=some l)(hw: ∀f,F.fn f)(hd: ∀c,o.op≠ .defer c)(hg:o.guard=none)
    (h:(execOp a.eval o).run P w= .ok (.value v) w') (k:wpListIn F n P ops Q rest (a.put o.dst v) w'):wpListIn F n P ops Q (o::rest) a w:=by
 refine wpListIn_plain hg fun K hK=>?_
 unfold Oper.wpIn;rw[hF,Oper.semAt_some l _ _ hd];refine⟨fun f _=>hw f,?_⟩
 rw[h,Oper.uponIn_value];exact hK _ _ k
theorem st_skip{F:Fence}{n:Nat}{P:Program}{ops:Array Oper}{Q:Exit→Act→World→Prop}{rest:List Oper}{o:Oper}{a:Act}{w w':World}{l:Nat}(hF:F.round=some l)(hw: ∀f,F.fn f)(hd: ∀c,o.op≠ .defer c)(hg:o.guard=none)
    (h:(execOp a.eval o).run P w= .ok .skip w') (k:wpListIn F n P ops Q rest (a.put o.dst undef) w'):wpListIn F n P ops Q (o::rest) a w:=by
 refine wpListIn_plain hg fun K hK=>?_
 unfold Oper.wpIn;rw[hF,Oper.semAt_some l _ _ hd];refine⟨fun f _=>hw f,?_⟩
 rw[h,Oper.uponIn_skip];exact hK _ _ k
theorem zip1{p:Tmp}{v:Value}{ts:Array Value}:(#[p].zip #[v]).foldl (fun tmps (t,a)=>tmps.setIfInBounds t a) ts=ts.setIfInBounds p v:=by simp[Array.zip]
def fr(ts:Array Value):Act:={tmps:=ts,defers:=[]}
theorem eO(ts:Array Value)(i:Nat)(v:Value):(fr ts).put (some i) v=fr (ts.setIfInBounds i v):=rfl
theorem fr_none(ts:Array Value)(v:Value):(fr ts).put none v=fr ts:=rfl
theorem cP(ts:Array Value)(j:Nat):(fr ts).eval (.tmp j)=ts.getD j undef:=rfl
theorem aL{ts:Array Value}{i j:Nat}{v:Value}(hi:i<ts.size):(ts.setIfInBounds i v).getD j undef=if i=j then v else ts.getD j undef:=by
 simp only[Array.getD_eq_getD_getElem?,Array.getElem?_setIfInBounds];by_cases e:i=j
 ·subst e;simp[hi]
 ·simp[e]
theorem ex_store{ρ:Operand→Value}{o:Oper}{t:TypeId}{a x:Operand}{W W':World}{P:Program}(ho:o.op= .store t a x)(h:(Instr.storeAt t (ρ a) (ρ x)).run P W= .ok () W'):(execOp ρ o).run P W= .ok .skip W':=by
 unfold execOp;rw[ho];simp[h]
theorem iU{ρ:Operand→Value}{o:Oper}{t:TypeId}{a:Operand}{W:World}{v:Value}{P:Program}(ho:o.op= .load t a)(h:(Instr.loadAt t (ρ a)).run P W= .ok v W):(execOp ρ o).run P W= .ok (.value v) W:=by
 unfold execOp;rw[ho];simp[h]
theorem rec_eq(fn:FuncId)(ts:Array Value)(D:Nat):({aAx fn ts D .ready none with state:= .busy}:Loop)=aAx fn ts D .busy none:=rfl
theorem rec_eq2(fn:FuncId)(ts:Array Value)(D:Nat):({aAx fn ts D .busy none with state:=if(none:Option Code).isNone then .ready else .done,pending:=none}:Loop)=aAx fn ts D .ready none:=rfl
section
variable{F:Fence}{n:Nat}{P:Program}{ops:Array Oper}{Q:Exit→Act→World→Prop}{rest:List Oper}{o:Oper}{a:Act}{W:World}{l:Nat}{w1:W0}{μ:Mp}{σ σ':St}{t:TypeId}
theorem s_alloc(hF:F.round=some l)(hw: ∀f,F.fn f)(ho:o.op= .alloc t)(hg:o.guard=none){b:Nat}{z:List Value}(hal: ∀(ρ:Operand→Value) (o:Oper),o.op= .alloc t→cV P ρ o b=some (.pointer (some ⟨b,0,none⟩),.cells z boxMeta))
    (S:Sim w1 P μ σ W) (hb:μ b=none) (hbn:b<σ.next)
    (k: ∀μ1 v' W1,Sim w1 P μ1 (σ.put b (.cells z boxMeta)) W1→VR μ1 (.pointer (some ⟨b,0,none⟩)) v'→(∀k p,μ k=some p→μ1 k=some p)→(∀k,k≠b→μ1 k=μ k)→wpListIn F n P ops Q rest (a.put o.dst v') W1):wpListIn F n P ops Q (o::rest) a W:=by
 obtain⟨v',Ob,p,h1,hbk,h0,hN,hv⟩:=aAb (μ:=μ) (P:=P) (ρ:=fun _=>undef) (ρ':=a.eval) (o:=o) W (fun x hx=>by simp[ho,Op.operands]at hx) (hal _ _ ho)
 refine aCl hF hw (fun c e=>by rw[ho]at e;cases e) hg h1 ?_
 exact k _ _ _ ((S.put_new hb (fun cs m g v e e2=>by cases e;cases e2)).alloc hb hbn (by rw[St.get_put,if_pos rfl]) hN hbk h0) (hv _ (gE _ _ _)) (iH p hb) (fun k hk=>fR hk)
theorem aF8(hF:F.round=some l)(hw: ∀f,F.fn f){p x:Operand}{vp vx:Value}(ho:o.op= .store t p x)(hg:o.guard=none)(S:Sim w1 P μ σ W)(r1:VR μ vp (a.eval p))(r2:VR μ vx (a.eval x))(h:eP P σ t vp vx=some σ')
    (k: ∀W1,Sim w1 P μ σ' W1→σ'.next=σ.next→wpListIn F n P ops Q rest (a.put o.dst undef) W1):wpListIn F n P ops Q (o::rest) a W:=by
 obtain⟨w',h1,h2,h3⟩:=zV S r1 r2 h;exact st_skip hF hw (fun c e=>by rw[ho]at e;cases e) hg (ex_store ho h1) (k w' h2 h3)
theorem s_load(hF:F.round=some l)(hw: ∀f,F.fn f){p:Operand}{vp v:Value}(ho:o.op= .load t p)(hg:o.guard=none)(S:Sim w1 P μ σ W)(r1:VR μ vp (a.eval p))(h:eK P σ t vp=some v)
    (k: ∀v',VR μ v v'→wpListIn F n P ops Q rest (a.put o.dst v') W):wpListIn F n P ops Q (o::rest) a W:=by
 obtain⟨v',h1,h2⟩:=nH S r1 h;exact aCl hF hw (fun c e=>by rw[ho]at e;cases e) hg (iU ho h1) (k v' h2)
theorem s_fa(hF:F.round=some l)(hw: ∀f,F.fn f){x:Operand}{f:Nat}{vx v:Value}(ho:o.op= .fieldAddr t x f)(hg:o.guard=none)(r1:VR μ vx (a.eval x))(h:cN P t vx f=some v)
    (k: ∀v',VR μ v v'→wpListIn F n P ops Q rest (a.put o.dst v') W):wpListIn F n P ops Q (o::rest) a W:=by
 obtain⟨v',h1,h2⟩:=qH (μ:=μ) (P:=P) (ρ:=fun _=>vx) (ρ':=a.eval) (o:=o) (v:=v) (fun y hy=>by
  rw[ho]at hy;have:y=x:=by simpa [Op.operands]using hy
  subst this;exact r1) (by unfold dQ;rw[ho];exact h)
 exact aCl hF hw (fun c e=>by rw[ho]at e;cases e) hg (cK h1 W) (k v' h2)
set_option maxRecDepth 20000 in
theorem s_and(hF:F.round=some l)(hw: ∀f,F.fn f){x y:Operand}{vx vy v:Value}(hxy:x≠y)(ho:o.op= .binOp .and 33 x y 33)(hg:o.guard=none)(r1:VR μ vx (a.eval x))(r2:VR μ vy (a.eval y))(h:andV vx vy=some v)
    (k: ∀v',VR μ v v'→wpListIn F n Tryz.prog ops Q rest (a.put o.dst v') W):wpListIn F n Tryz.prog ops Q (o::rest) a W:=by
 have hd:=(inferInstance:DecidableEq Nat);obtain⟨ρ,q1,q2⟩: ∃ρ:Operand→Value,ρ x=vx∧ρ y=vy:=by
  classical exact⟨fun z=>if z=x then vx else vy,if_pos rfl,if_neg (Ne.symm hxy)⟩
 obtain⟨v',h1,h2⟩:=qH (μ:=μ) (P:=Tryz.prog) (ρ:=ρ) (ρ':=a.eval) (o:=o) (v:=v) (fun z hz=>by
  rw[ho]at hz;have:z=x∨z=y:=by simpa [Op.operands]using hz
  rcases this with rfl|rfl
  ·rw[q1];exact r1
  ·rw[q2];exact r2) (by
  unfold dQ;rw[ho];simp only[q1,q2];unfold andV dQ at h;exact h)
 exact aCl hF hw (fun c e=>by rw[ho]at e;cases e) hg (cK h1 W) (k v' h2)
end
def aIA(O:Nat→Option Obj)(k:Nat):Nat→Option Obj:=fun j=>if j=k then none else O j
theorem butO_le{O:Nat→Option Obj}{k:Nat}: ∀j o,aIA O k j=some o→O j=some o:=fun j o h=>by
 unfold aIA at h;split at h
 ·cases h
 ·exact h
theorem pY{w0:W0}{P:Program}{O:Nat→Option Obj}{μ:Mp}{σ:St}{w:World}{k:Nat}{o o':Obj}(S:Sim (wO w0 O) P μ σ w)(hk:O k=some o)(hk0:w0.heap.size≤k)(ho: ∀C t fr,o'= .cells C t fr→fr=(0,0)):Sim (wO w0 (lY (aIA O k) k o')) P μ σ (w.putObj k o'):=by
 have h1:=S.kept.oth k o hk;have hlt:=(Array.getElem?_eq_some_iff.1 h1.1).1;have S1:=mI (O':=aIA O k) S butO_le;have S2:=aEr S1 hk0 (fun o' h=>by unfold aIA at h;rw[if_pos rfl]at h;cases h) hlt h1.2 ho
 exact iJ S2 (World.putObj_heap_same hlt) h1.2
theorem oY(O:Nat→Option Obj)(k:Nat)(o:Obj):lY O k o k=some o:=by unfold lY;rw[if_pos rfl]
theorem aIN{O:Nat→Option Obj}{k:Nat}{o o':Obj}(hk:O k=some o):lY (aIA (lY (aIA O k) k o') k) k o=O:=by
 funext j;unfold lY aIA;by_cases e:j=k
 ·subst e;simp[hk]
 ·simp[e]
set_option maxHeartbeats 1000000 in
set_option maxRecDepth 20000 in
theorem round_ok{n:Nat}{fn:FuncId}{w0:W0}{O:Nat→Option Obj}{μ:Mp}{σ2 σ' σ4:St}{W:World}{L D b:Nat}{ts:Array Value}{vo x y s s2 l g fv fv':Value}{z:List Value}(S:Sim (wO w0 O) Tryz.prog μ σ2 W)(hb:μ b=none)(hbn:b<σ2.next)(hts:68≤ts.size)
    (hL:O L=some (.loop (aAx fn ts D .ready none))) (hL0:w0.heap.size≤L) (hvo:VR μ vo (ts.getD 5 undef)) (E:RdE b σ2 σ' s l g vo fv z σ4 x s2 y) (hfv:VR μ fv fv'):
    RoundIn Fence.wide n Tryz.prog L fn ((#[62].zip #[fv']).foldl (fun tmps (t,a)=>tmps.setIfInBounds t a) ts) parts.1 parts.2 W fun e W'=>e= .returned (.bool true)∧∃μ',Sim (wO w0 O) Tryz.prog μ' σ' W'∧(∀k p,μ k=some p→μ' k=some p)∧(∀k,k≠b→μ' k=μ k)∧σ'.next=σ2.next:=by
 rw[zip1];refine roundIn_of_wpIn trivial ?_;show Code.wpIn (Fence.wide.inRound L) n Tryz.prog parts.1 _ (fr (ts.setIfInBounds 62 fv')) W
 conv=>arg 4;unfold parts;dsimp only[Tryz.f8]
 refine wpIn_region_lit ?_;refine s_alloc rfl (fun _=>trivial) rfl rfl E.al S hb hbn ?_
 intro μ1 v1 W1 S1 r1 e1 e2;simp only[eO];refine aF8 rfl (fun _=>trivial) (vp:= .pointer (some ⟨b,0,none⟩)) (vx:=fv) rfl rfl S1 ?_ ?_ E.st ?_
 ·rw[cP,aL (by simp;omega),if_pos rfl];exact r1
 ·rw[cP,aL (by simp;omega),if_neg (by omega),aL (by omega),if_pos rfl];exact hfv.mono' e1
 intro W2 S2 n2;simp only[fr_none];refine wpListIn_nil ?_;have hl:=(S2.kept.oth L _ hL).1;refine⟨_,run_beginRound hl rfl,?_⟩;rw[rec_eq];have S3:=pY S2 hL hL0 (o':= .loop (aAx fn ts D .busy none)) (fun C t fr h=>by cases h)
 generalize hW3:W2.putObj L (.loop (aAx fn ts D .busy none))=W3 at S3;have hv5: ∀(ts':Array Value),ts'.getD 5 undef=ts.getD 5 undef→VR μ1 vo (ts'.getD 5 undef):=fun ts' h=>by rw[h];exact hvo.mono' e1
 conv=>arg 4;unfold parts;dsimp only[Tryz.f8]
 refine wpIn_block ?_;refine wpIn_region_lit ?_;refine s_load rfl (fun _=>trivial) (vp:=vo) rfl rfl S3 ?_ E.ld ?_
 ·rw[cP];refine hv5 _ ?_;rw[aL (by simp;omega),if_neg (by omega),aL (by omega),if_neg (by omega)]
 intro x' rx;simp only[eO];refine s_fa (μ:=μ1) rfl (fun _=>trivial) (vx:= .pointer (some ⟨b,0,none⟩)) (v:= .pointer (some ⟨b,0,none⟩)) rfl rfl ?_ ?_ ?_
 ·rw[cP,aL (by simp;omega),if_neg (by omega),aL (by simp;omega),if_pos rfl];exact r1
 ·unfold cN;rw[Tryz.underlying92];have e2:gX Tryz.prog 33=some 1:=by kernel_rfl
  simp[e2];rfl
 intro p' rp;simp only[eO];refine s_load rfl (fun _=>trivial) (vp:= .pointer (some ⟨b,0,none⟩)) rfl rfl S3 ?_ E.ls ?_
 ·rw[cP,aL (by simp;omega),if_pos rfl];exact rp
 intro s2' rs2;simp only[eO];refine s_and (μ:=μ1) rfl (fun _=>trivial) (vx:=x) (vy:=s2) (v:=y) (fun h=>by cases h) rfl rfl ?_ ?_ E.an ?_
 ·rw[cP,aL (by simp;omega),if_neg (by omega),aL (by simp;omega),if_neg (by omega),aL (by simp;omega),if_pos rfl];exact rx
 ·rw[cP,aL (by simp;omega),if_pos rfl];exact rs2
 intro y' ry;simp only[eO];refine aF8 rfl (fun _=>trivial) (vp:=vo) (vx:=y) rfl rfl S3 ?_ ?_ E.so ?_
 ·rw[cP];refine hv5 _ ?_;rw[aL (by simp;omega),if_neg (by omega),aL (by simp;omega),if_neg (by omega),aL (by simp;omega),if_neg (by omega),aL (by simp;omega),if_neg (by omega),aL (by simp;omega),if_neg (by omega),aL (by omega),if_neg (by omega)]
 ·rw[cP,aL (by simp;omega),if_pos rfl];exact ry
 intro W4 S4 n4;refine wpListIn_nil ?_;simp only[Exit.inBlock,roundPost];have hl4:=(S4.kept.oth L _ (oY _ _ _)).1;refine⟨_,_,run_endRound none hl4,rfl,μ1,?_,e1,e2,by rw[n4,n2];rfl⟩
 rw[rec_eq2];have S5:=pY S4 (oY _ _ _) hL0 (o':= .loop (aAx fn ts D .ready none)) (fun C t fr h=>by cases h)
 rw[aIN hL]at S5;exact S5
end Go.Rf
namespace Go.Rf
open Go.AI Go.Proofs Go.RowKit Go.Shelf
def aAU(K:Act→World→Prop):Exit→Act→World→Prop
 | .normal=>K
 |_=>fun _ _=>False
noncomputable def r4C:Code:=match Tryz.f84.body with|some (.seq _ (.block _ (.loop (.seq _ (.seq _ (.seq (.block _ (.seq _ (.seq _ (.seq c _)))) _))))))=>c|_=> .skip
noncomputable def r4O:Array Oper:=match r4C with| .region _ ops _=>ops|_=> #[]
theorem kG{ts:Array Value}{o:Oper}{b:Bool}(hg:o.guard=some (1,true))(h:ts[23]?=some (.bool b)):Region.wanted o (yielded r4O ts)=b:=by
 have e:r4O[1]?.bind (·.dst)=some 23:=by kernel_rfl
 unfold Region.wanted;rw[hg];simp only[yielded,e,obS,h];cases b<;>rfl
theorem wanted_n{ts:Array Value}{o:Oper}(hg:o.guard=none):Region.wanted o (yielded r4O ts)=true:=by
 unfold Region.wanted;rw[hg]
theorem aF3{ts:Array Value}{i:Nat}{v:Value}(h:i<ts.size):(ts.setIfInBounds i v)[i]?=some v:=by simp[h]
theorem aF2{ts:Array Value}{i j:Nat}{v:Value}(h:i≠j):(ts.setIfInBounds i v)[j]?=ts[j]?:=by simp[Array.getElem?_setIfInBounds,h]
section
variable{Q:Exit→Act→World→Prop}{fuel:Nat}{listed:Array Bool}{ts:Array Value}{W:World}{i d:Nat}{o:Oper}{x:Operand}{n:Nat}
theorem tD(hi:r4O[i]?=some o)(hs:Region.noSelect r4O=true)(hf:Region.free .any r4O listed i=true)(hr:(Region.ready .any r4O listed).contains i=true)(hQ: ∀c a w,Q (.panic c) a w↔False)
    (ho:o.dst=some d) (hg:o.guard=some (1,true)) (h23:ts[23]?=some (.bool false)) (ha: ∀w,o.about Tryz.prog w (fr ts).eval=none)
    (k:wpAnyIn Fence.wide n Tryz.prog .any r4O Q fuel (listed.setIfInBounds i true) (fr (ts.setIfInBounds d undef)) W):wpAnyIn Fence.wide n Tryz.prog .any r4O Q (fuel+1) listed (fr ts) W:=by
 refine wpAnyIn_take (i:=i) (v:=undef) rfl hi hs hf hr (fun c a w h=>((hQ c _ w).1 h).elim) ⟨Or.inr ⟨kG hg h23,rfl⟩,ha⟩ ?_
 rw[ho,eO];exact k
theorem aGg(hi:r4O[i]?=some o)(hr:Region.ready .any r4O listed=[i])(ho:o.dst=some d)(hg:o.guard=some (1,true))(h23:ts[23]?=some (.bool false))
    (k:wpAnyIn Fence.wide n Tryz.prog .any r4O Q fuel (listed.setIfInBounds i true) (fr (ts.setIfInBounds d undef)) W):wpAnyIn Fence.wide n Tryz.prog .any r4O Q (fuel+1) listed (fr ts) W:=by
 refine wpAnyIn_ready hr (by simp) (AllReadyIn.cons hi (fun K' hK'=>?_) AllReadyIn.nil)
 rw[if_neg (by rw[show Region.wanted o (yielded r4O (fr ts).tmps)=false from kG hg h23];decide)]
 refine⟨fun _ _=>trivial,hK' _ _ ?_⟩
 rw[ho,eO];exact k
theorem sF{v:Value}(hi:r4O[i]?=some o)(hs:Region.noSelect r4O=true)(hf:Region.free .any r4O listed i=true)(hr:(Region.ready .any r4O listed).contains i=true)(hQ: ∀c a w,Q (.panic c) a w↔False)
    (ho:o.dst=some d) (hg:o.guard=none∨(o.guard=some (1,true)∧ts[23]?=some (.bool true))) (ha: ∀w,o.about Tryz.prog w (fr ts).eval=none) (hv: ∀w,(execOp (fr ts).eval o).run Tryz.prog w= .ok (.value v) w)
    (k:wpAnyIn Fence.wide n Tryz.prog .any r4O Q fuel (listed.setIfInBounds i true) (fr (ts.setIfInBounds d v)) W):wpAnyIn Fence.wide n Tryz.prog .any r4O Q (fuel+1) listed (fr ts) W:=by
 refine wpAnyIn_take (i:=i) (v:=v) rfl hi hs hf hr (fun c a w h=>((hQ c _ w).1 h).elim) ⟨Or.inl ⟨?_,hv⟩,ha⟩ ?_
 ·rcases hg with hg|⟨hg,h⟩
  ·exact wanted_n hg
  ·exact kG hg h
 ·rw[ho,eO];exact k
end
theorem mR{ρ:Operand→Value}{o:Oper}{x:Operand}(ho:o.op= .move x)(w:World):(execOp ρ o).run Tryz.prog w= .ok (.value (ρ x)) w:=by
 unfold execOp;rw[ho];rfl
theorem aCR{ρ:Operand→Value}{o:Oper}{x y z:Operand}{b:Bool}(ho:o.op= .pick x y z)(hx:ρ x= .bool b)(w:World):(execOp ρ o).run Tryz.prog w= .ok (.value (if b then ρ y else ρ z)) w:=by
 unfold execOp;rw[ho];simp only[hx];cases b<;>rfl
theorem at23{ts:Array Value}{b:Bool}(h:ts[23]?=some (.bool b)){d:Nat}{v:Value}(hd:d≠23):(ts.setIfInBounds d v)[23]?=some (.bool b):=by rw[aF2 hd];exact h
set_option maxRecDepth 100000 in
theorem r4_false{K:Act→World→Prop}{ts:Array Value}{W:World}(hsz:ts.size=34)(h8:ts.getD 8 undef= .bool false)
    (h: ∀ts':Array Value,ts'.size=34→(∀j,j<22→ts'.getD j undef=ts.getD j undef)→ts'.getD 32 undef= .bool false→K (fr ts') W.drew):r4C.wpIn Fence.wide 2 Tryz.prog (aAU K) (fr ts) W:=by
 have e:r4C= .region 4 r4O true:=by kernel_rfl
 rw[e];refine wpIn_region_any (by kernel_rfl) ?_
 change wpAnyIn _ _ _ _ _ _ _ _ _ W.drew;have hQ: ∀c a w,aAU K (.panic c) a w↔False:=fun _ _ _=>Iff.rfl
 have hsel:Region.noSelect r4O=true:=by kernel_rfl
 have hn:r4O.size=11:=by kernel_rfl
 rw[hn];refine sF (i:=0) rfl hsel (by kernel_rfl) (by kernel_rfl) hQ rfl (.inl rfl) (fun _=>rfl) (mR rfl) ?_
 refine sF (i:=1) rfl hsel (by kernel_rfl) (by kernel_rfl) hQ rfl (.inl rfl) (fun _=>rfl) (mR rfl) ?_
 have e22:(fr (ts.setIfInBounds 22 ((fr ts).eval (.tmp 8)))).eval (.tmp 22)= .bool false:=by rw[cP,aL (by omega),if_pos rfl,cP];exact h8
 rw[e22];generalize hg:(ts.setIfInBounds 22 ((fr ts).eval (.tmp 8))).setIfInBounds 23 (.bool false)=t1;have sz1:t1.size=34:=by rw[←hg];simp[hsz]
 have h23:t1[23]?=some (.bool false):=by rw[←hg];exact aF3 (by simp[hsz])
 have lo1: ∀j,j<22→t1.getD j undef=ts.getD j undef:=fun j hj=>by rw[←hg,aL (by simp[hsz]),if_neg (by omega),aL (by omega),if_neg (by omega)]
 clear hg e22;have g2:t1[23]?=some (.bool false):=h23;refine tD (i:=2) rfl hsel (by kernel_rfl) (by kernel_rfl) hQ rfl rfl g2 (fun _=>rfl) ?_
 generalize hx3:t1.setIfInBounds 24 undef=x3;have g3:x3[23]?=some (.bool false):=by rw[←hx3];exact at23 g2 (by omega)
 refine tD (i:=3) rfl hsel (by kernel_rfl) (by kernel_rfl) hQ rfl rfl g3 (fun _=>rfl) ?_
 generalize hx4:x3.setIfInBounds 25 undef=x4;have g4:x4[23]?=some (.bool false):=by rw[←hx4];exact at23 g3 (by omega)
 refine tD (i:=4) rfl hsel (by kernel_rfl) (by kernel_rfl) hQ rfl rfl g4 (fun _=>rfl) ?_
 generalize hx5:x4.setIfInBounds 26 undef=x5;have g5:x5[23]?=some (.bool false):=by rw[←hx5];exact at23 g4 (by omega)
 refine tD (i:=5) rfl hsel (by kernel_rfl) (by kernel_rfl) hQ rfl rfl g5 (fun _=>rfl) ?_
 generalize hx6:x5.setIfInBounds 27 undef=x6;have g6:x6[23]?=some (.bool false):=by rw[←hx6];exact at23 g5 (by omega)
 refine aGg (i:=6) rfl (by kernel_rfl) rfl rfl g6 ?_
 generalize hx7:x6.setIfInBounds 28 undef=x7;have g7:x7[23]?=some (.bool false):=by rw[←hx7];exact at23 g6 (by omega)
 refine tD (i:=7) rfl hsel (by kernel_rfl) (by kernel_rfl) hQ rfl rfl g7 (fun _=>rfl) ?_
 generalize hx8:x7.setIfInBounds 29 undef=x8;have g8:x8[23]?=some (.bool false):=by rw[←hx8];exact at23 g7 (by omega)
 refine aGg (i:=8) rfl (by kernel_rfl) rfl rfl g8 ?_
 generalize hx9:x8.setIfInBounds 30 undef=x9;have g9:x9[23]?=some (.bool false):=by rw[←hx9];exact at23 g8 (by omega)
 refine tD (i:=9) rfl hsel (by kernel_rfl) (by kernel_rfl) hQ rfl rfl g9 (fun _=>rfl) ?_
 generalize hx10:x9.setIfInBounds 31 undef=x10;have g10:x10[23]?=some (.bool false):=by rw[←hx10];exact at23 g9 (by omega)
 have szx:x10.size=34:=by
  rw[←hx10,←hx9,←hx8,←hx7,←hx6,←hx5,←hx4,←hx3];simp[sz1]
 have e10:(fr x10).eval (.tmp 23)= .bool false:=by rw[cP,Array.getD_eq_getD_getElem?,g10];rfl
 refine sF (i:=10) rfl hsel (by kernel_rfl) (by kernel_rfl) hQ rfl (.inl rfl) (fun _=>rfl) (aCR rfl e10) ?_
 refine wpAnyIn_done (by kernel_rfl) ?_ _
 refine h _ (by simp[szx]) (fun j hj=>?_) ?_
 ·rw[aL (by omega),if_neg (by omega),←lo1 j hj,←hx10,←hx9,←hx8,←hx7,←hx6,←hx5,←hx4,←hx3]
  rw[aL (by simp[sz1]),if_neg (by omega),aL (by simp[sz1]),if_neg (by omega),aL (by simp[sz1]),if_neg (by omega),aL (by simp[sz1]),if_neg (by omega),aL (by simp[sz1]),if_neg (by omega),aL (by simp[sz1]),if_neg (by omega),aL (by simp[sz1]),if_neg (by omega),aL (by simp[sz1]),if_neg (by omega)]
 ·rw[aL (by omega),if_pos rfl];rfl
set_option maxRecDepth 100000 in
theorem aGX{b:Nat}{W:World}{x0 x1 x2 x3 x4 x5 x6 x7 x8 x9 x10:Value}{frz:Nat×Nat}(h:W.heap[b]?=some (.cells #[x0,x1,x2,x3,x4,x5,x6,x7,x8,x9,x10] 41 frz)):(Instr.loadAt 41 (.pointer (some ⟨b,0,none⟩))).run Tryz.prog W= .ok (.agg #[x0,x1,x2,x3,x4,x5,x6,x7,x8,x9,x10]) W:=by
 have c0:W.cell? ⟨b,0,none⟩=some x0:=aS h rfl;have c1:W.cell? ⟨b,1,none⟩=some x1:=aS h rfl;have c2:W.cell? ⟨b,2,none⟩=some x2:=aS h rfl;have c3:W.cell? ⟨b,3,none⟩=some x3:=aS h rfl;have c4:W.cell? ⟨b,4,none⟩=some x4:=aS h rfl;have c5:W.cell? ⟨b,5,none⟩=some x5:=aS h rfl;have c6:W.cell? ⟨b,6,none⟩=some x6:=aS h rfl;have c7:W.cell? ⟨b,7,none⟩=some x7:=aS h rfl;have c8:W.cell? ⟨b,8,none⟩=some x8:=aS h rfl;have c9:W.cell? ⟨b,9,none⟩=some x9:=aS h rfl;have c10:W.cell? ⟨b,10,none⟩=some x10:=aS h rfl;clear h
 go_simp
section
variable{Q:Exit→Act→World→Prop}{K':Act→World→Prop}{ts:Array Value}{W W':World}{i d:Nat}{o:Oper}{x:Operand}{n:Nat}
theorem aGR{v:Value}(ho:o.dst=some d)(hg:o.guard=some (1,true))(h23:ts[23]?=some (.bool true))(hv:(execOp (fr ts).eval o).run Tryz.prog W= .ok (.value v) W')(k:K' (fr (ts.setIfInBounds d v)) W'):
    if Region.wanted o (yielded r4O (fr ts).tmps)=true then Oper.wpIn Fence.wide n Tryz.prog o (fr ts) W K' Q else(∀f,o.about Tryz.prog W (fr ts).eval=some f→Fence.wide.fn f)∧K' ((fr ts).put o.dst undef) W:=by
 rw[if_pos (show Region.wanted o (yielded r4O (fr ts).tmps)=true from kG hg h23)]
 unfold Oper.wpIn;rw[Fence.wide_round,Oper.semAt_none];refine⟨fun _ _=>trivial,?_⟩
 rw[hv,Oper.uponIn_value,ho,eO];exact k
theorem aAZ{f:FuncId}{args:Array Value}(ho:o.dst=some d)(hg:o.guard=some (1,true))(h23:ts[23]?=some (.bool true))(hv:(execOp (fr ts).eval o).run Tryz.prog W= .ok (.enter f args) W')
    (k:CallsIn Fence.wide (n-1) Tryz.prog f args W' fun e w=> ∃v,e= .returned v∧K' (fr (ts.setIfInBounds d v)) w):
    if Region.wanted o (yielded r4O (fr ts).tmps)=true then Oper.wpIn Fence.wide n Tryz.prog o (fr ts) W K' Q else(∀f,o.about Tryz.prog W (fr ts).eval=some f→Fence.wide.fn f)∧K' ((fr ts).put o.dst undef) W:=by
 rw[if_pos (show Region.wanted o (yielded r4O (fr ts).tmps)=true from kG hg h23)]
 unfold Oper.wpIn;rw[Fence.wide_round,Oper.semAt_none];refine⟨fun _ _=>trivial,?_⟩
 rw[hv,Oper.uponIn_enter];refine⟨(fun h=>(by cases h)),k.mono ?_⟩
 rintro e w ⟨v,rfl,hk⟩;show K' ((fr ts).put o.dst v) w;rw[ho,eO];exact hk
theorem o_round{l:Nat}{f:FuncId}{tmps:Array Value}{asg bdy:Code}(ho:o.dst=some d)(hg:o.guard=some (1,true))(h23:ts[23]?=some (.bool true))(hv:(execOp (fr ts).eval o).run Tryz.prog W= .ok (.round l f tmps asg bdy) W')
    (k:RoundIn Fence.wide (n-1) Tryz.prog l f tmps asg bdy W' fun e w=> ∃v,e= .returned v∧K' (fr (ts.setIfInBounds d v)) w):
    if Region.wanted o (yielded r4O (fr ts).tmps)=true then Oper.wpIn Fence.wide n Tryz.prog o (fr ts) W K' Q else(∀f,o.about Tryz.prog W (fr ts).eval=some f→Fence.wide.fn f)∧K' ((fr ts).put o.dst undef) W:=by
 rw[if_pos (show Region.wanted o (yielded r4O (fr ts).tmps)=true from kG hg h23)]
 unfold Oper.wpIn;rw[Fence.wide_round,Oper.semAt_none];refine⟨fun _ _=>trivial,?_⟩
 rw[hv,Oper.uponIn_round];refine⟨(fun h=>(by cases h)),k.mono ?_⟩
 rintro e w ⟨v,rfl,hk⟩;show K' ((fr ts).put o.dst v) w;rw[ho,eO];exact hk
end
theorem qG {ρ : Operand → Value} {o : Oper} {c : Call} {f : FuncId} {W : World} (ho : o.op = .call c) (hc : c.callee = .value (.func f)) (hρ : ρ (.func f) = .func (.func f) #[] #[]) (hf : ∃ fn code, Tryz.prog.funcs[f]? = some fn ∧ fn.body = some code ∧ (fn.name == "runtime.NumGoroutine") = false) :
    (execOp ρ o).run Tryz.prog W= .ok (.enter f (c.args.map ρ)) W:=by
 obtain⟨fn,code,h1,h2,h3⟩:=hf;unfold execOp;rw[ho];simp only[resolve,hc,hρ,Deferred.ofValue,Sem.run_bind,Sem.run_pure,Result.andThen_ok,invoke,callFunc,run_program,h1,h2,h3,Option.isNone_some,Bool.false_eq_true,if_false];simp
theorem aFF{ρ:Operand→Value}{o:Oper}{c:Call}{L:Nat}{x:Operand}{W:World}{r:Result Next}(ho:o.op= .call c)(hc:c.callee= .value x)(hρ:ρ x= .func (.yield L) #[] #[])(hy:(Instr.yield L (c.args.map ρ)).run Tryz.prog W=r):
    (execOp ρ o).run Tryz.prog W=r:=by
 unfold execOp;rw[ho];simp only[resolve,hc,hρ,Deferred.ofValue,Sem.run_bind,Sem.run_pure,Result.andThen_ok,invoke];simpa using hy
theorem not_run{ρ:Operand→Value}{o:Oper}{t:TypeId}{x:Operand}{b:Bool}(ho:o.op= .unOp .not t x)(hx:ρ x= .bool b)(w:World):(execOp ρ o).run Tryz.prog w= .ok (.value (.bool (!b))) w:=by
 unfold execOp;rw[ho];simp only[hx];rfl
theorem aIB{ρ ρ':Operand→Value}{o o':Oper}{v:Value}{t:TypeId}{x y z:Operand}(ho:o.op= .build t #[(0,x),(1,y),(2,z)])(ho':o'.op= .build t #[(0,x),(1,y),(2,z)])(hx:ρ x=ρ' x)(hy:ρ y=ρ' y)(hz:ρ z=ρ' z)(h: ∀w,(execOp ρ' o').run Tryz.prog w= .ok (.value v) w)(w:World):(execOp ρ o).run Tryz.prog w= .ok (.value v) w:=by
 have h:=h w;unfold execOp at h⊢;rw[ho']at h;rw[ho];simp only[List.map_toArray,mpC,List.map_nil]at h⊢;rw[hx,hy,hz];exact h
structure R4(t0 t1:Array Value)(k:Nat):Prop where
 sz:t1.size=34
 lo: ∀j,j<22→t1.getD j undef=t0.getD j undef
 g:t1[23]?=some (.bool true)
theorem R4.set{t0 t1:Array Value}{k d:Nat}{v:Value}(h:R4 t0 t1 k)(hd:23<d):R4 t0 (t1.setIfInBounds d v) k:=
 ⟨by simp[h.sz],fun j hj=>by
  rw[Array.getD_eq_getD_getElem?,aF2 (by omega),←Array.getD_eq_getD_getElem?];exact h.lo j hj,at23 h.g (by omega)⟩
theorem aI{ts:Array Value}{i j:Nat}{v:Value}(h:i≠j):(ts.setIfInBounds i v).getD j undef=ts.getD j undef:=by
 rw[Array.getD_eq_getD_getElem?,aF2 h,←Array.getD_eq_getD_getElem?]
theorem bK{ts:Array Value}{i:Nat}{v:Value}(h:i<ts.size):(ts.setIfInBounds i v).getD i undef=v:=by
 rw[Array.getD_eq_getD_getElem?,aF3 h];rfl
abbrev isBuild(o:Oper):Prop:=o.op= .build 92 #[(0,.tmp 25),(1,.tmp 26),(2,.tmp 28)]
def Built(s y g fv:Value):Prop:= ∀(ρ:Operand→Value) (o:Oper),isBuild o→ρ (.tmp 25)=s→ρ (.tmp 26)=y→ρ (.tmp 28)=g→∀w,(execOp ρ o).run Tryz.prog w= .ok (.value fv) w
def aIQ(L:Nat)(fv:Value)(R:World→Prop)(w:World):Prop:= ∃f tmps asg bdy,(Instr.yield L #[fv]).run Tryz.prog w= .ok (.round L f tmps asg bdy) w∧RoundIn Fence.wide 1 Tryz.prog L f tmps asg bdy w fun e w'=>e= .returned (.bool true)∧R w'
set_option maxRecDepth 100000 in
theorem aAN{K:Act→World→Prop}{t0 t:Array Value}{w:World}{L:Nat}{s y g fv:Value}{R:World→Prop}(H:R4 t0 t 0)(h24:t.getD 24 undef= .func (.yield L) #[] #[])(h25:t.getD 25 undef=s)(h26:t.getD 26 undef=y)(h28:t.getD 28 undef=g)
    (hB:Built s y g fv) (hY:aIQ L fv R w) (h: ∀(ts':Array Value) w'',ts'.size=34→(∀j,j<22→ts'.getD j undef=t0.getD j undef)→ts'.getD 32 undef= .bool false→R w''→K (fr ts') w''):
    wpAnyIn Fence.wide 2 Tryz.prog .any r4O (aAU K) 4 #[true,true,true,true,true,true,true,false,false,false,false] (fr t) w:=by
 have hQ: ∀c a w,aAU K (.panic c) a w↔False:=fun _ _ _=>Iff.rfl
 have hsel:Region.noSelect r4O=true:=by kernel_rfl
 refine sF (i:=7) (v:=fv) rfl hsel (by kernel_rfl) (by kernel_rfl) hQ rfl (.inr ⟨rfl,H.g⟩) (fun _=>rfl) (hB _ _ rfl h25 h26 h28) ?_
 have H7:=H.set (d:=29) (v:=fv) (by omega)
 obtain⟨f,tmps,asg,bdy,y1,y2⟩:=hY;refine wpAnyIn_ready (rs:=[8]) (by kernel_rfl) (by simp) (AllReadyIn.cons rfl (fun K1 hK1=>?_) AllReadyIn.nil)
 refine o_round (d:=30) rfl rfl H7.g (aFF (x:= .tmp 24) (L:=L) rfl rfl ?_ ?_) (y2.mono ?_)
 ·rw[cP,aI (by omega)];exact h24
 ·simp only[List.map_toArray,mpC,List.map_nil];rw[cP,bK (by rw[H.sz];omega)];exact y1
 rintro e w2 ⟨rfl,hR⟩;refine⟨_,rfl,hK1 _ _ ?_⟩;have H8:=H7.set (d:=30) (v:= .bool true) (by omega)
 refine sF (i:=9) (v:= .bool false) rfl hsel (by kernel_rfl) (by kernel_rfl) hQ rfl (.inr ⟨rfl,H8.g⟩) (fun _=>rfl) (not_run (b:=true) rfl ?_) ?_
 ·rw[cP,bK (by rw[H7.sz];omega)]
 have H9:=H8.set (d:=31) (v:= .bool false) (by omega)
 have e23:((t.setIfInBounds 29 fv).setIfInBounds 30 (.bool true)).setIfInBounds 31 (.bool false)=((t.setIfInBounds 29 fv).setIfInBounds 30 (.bool true)).setIfInBounds 31 (.bool false):=rfl;refine sF (i:=10) rfl hsel (by kernel_rfl) (by kernel_rfl) hQ rfl (.inl rfl) (fun _=>rfl) (aCR (b:=true) rfl (by rw[cP,Array.getD_eq_getD_getElem?,H9.g];rfl)) ?_
 refine wpAnyIn_done (by kernel_rfl) ?_ _
 have H10:=fun v=>H9.set (d:=32) (v:=v) (by omega)
 refine h _ _ (H10 _).sz (H10 _).lo ?_ hR;rw[bK (by rw[H9.sz];omega)]
 show(fr _).eval (.tmp 31)=_;rw[cP,bK (by rw[H8.sz];omega)]
set_option maxRecDepth 100000 in
theorem r4_true{K:Act→World→Prop}{ts:Array Value}{W:World}{L bX bY:Nat}{X Y s:Value}{R:World→Prop}(hsz:ts.size=34)(h0:ts.getD 0 undef= .func (.yield L) #[] #[])(h5:ts.getD 5 undef= .pointer (some ⟨bX,0,none⟩))(h6:ts.getD 6 undef=s)
    (h7:ts.getD 7 undef= .pointer (some ⟨bY,0,none⟩)) (h8:ts.getD 8 undef= .bool true)
    (hX:(Instr.loadAt 41 (.pointer (some ⟨bX,0,none⟩))).run Tryz.prog W.drew= .ok X W.drew) (hY:(Instr.loadAt 41 (.pointer (some ⟨bY,0,none⟩))).run Tryz.prog W.drew= .ok Y W.drew)
    (hN:CallsIn Fence.wide 1 Tryz.prog 39 #[X] W.drew fun e w'=> ∃g fv,e= .returned g∧(Instr.loadAt 41 (.pointer (some ⟨bY,0,none⟩))).run Tryz.prog w'= .ok Y w'∧Built s Y g fv∧aIQ L fv R w')
    (h: ∀(ts':Array Value) w'',ts'.size=34→(∀j,j<22→ts'.getD j undef=ts.getD j undef)→ts'.getD 32 undef= .bool false→R w''→K (fr ts') w''):r4C.wpIn Fence.wide 2 Tryz.prog (aAU K) (fr ts) W:=by
 have e:r4C= .region 4 r4O true:=by kernel_rfl
 rw[e];refine wpIn_region_any (by kernel_rfl) ?_
 change wpAnyIn _ _ _ _ _ _ _ _ _ W.drew;have hQ: ∀c a w,aAU K (.panic c) a w↔False:=fun _ _ _=>Iff.rfl
 have hsel:Region.noSelect r4O=true:=by kernel_rfl
 have hn:r4O.size=11:=by kernel_rfl
 have hf : ∃ fn code, Tryz.prog.funcs[39]? = some fn ∧ fn.body = some code ∧ (fn.name == "runtime.NumGoroutine") = false := ⟨_, _, Tryz.func39, rfl, by kernel_rfl⟩
 rw[hn];generalize W.drew=V at*;refine sF (i:=0) rfl hsel (by kernel_rfl) (by kernel_rfl) hQ rfl (.inl rfl) (fun _=>rfl) (mR rfl) ?_
 refine sF (i:=1) rfl hsel (by kernel_rfl) (by kernel_rfl) hQ rfl (.inl rfl) (fun _=>rfl) (mR rfl) ?_
 have e22:(fr (ts.setIfInBounds 22 ((fr ts).eval (.tmp 8)))).eval (.tmp 22)= .bool true:=by rw[cP,aL (by omega),if_pos rfl,cP];exact h8
 rw[e22];generalize hg:(ts.setIfInBounds 22 ((fr ts).eval (.tmp 8))).setIfInBounds 23 (.bool true)=t1;have H1:R4 ts t1 0:=⟨by rw[←hg];simp[hsz],fun j hj=>by rw[←hg,aI (by omega),aI (by omega)],by rw[←hg];exact aF3 (by simp[hsz])⟩
 clear hg e22;refine sF (i:=2) rfl hsel (by kernel_rfl) (by kernel_rfl) hQ rfl (.inr ⟨rfl,H1.g⟩) (fun _=>rfl) (mR rfl) ?_
 have q2:(fr t1).eval (.tmp 0)= .func (.yield L) #[] #[]:=by rw[cP,H1.lo 0 (by omega)];exact h0
 rw[q2];have H2:=H1.set (d:=24) (v:= .func (.yield L) #[] #[]) (by omega)
 refine sF (i:=3) rfl hsel (by kernel_rfl) (by kernel_rfl) hQ rfl (.inr ⟨rfl,H2.g⟩) (fun _=>rfl) (mR rfl) ?_
 have q3:(fr (t1.setIfInBounds 24 (.func (.yield L) #[] #[]))).eval (.tmp 6)=s:=by rw[cP,H2.lo 6 (by omega)];exact h6
 rw[q3];generalize hg:(t1.setIfInBounds 24 (.func (.yield L) #[] #[])).setIfInBounds 25 s=t2;have H3:R4 ts t2 0:=by rw[←hg];exact H2.set (by omega)
 have p24:t2.getD 24 undef= .func (.yield L) #[] #[]:=by rw[←hg,aI (by omega),bK (by rw[H1.sz];omega)]
 have p25:t2.getD 25 undef=s:=by rw[←hg,bK (by rw[H2.sz];omega)]
 clear hg q2 q3 H2 H1;have a5:(fr t2).eval (.tmp 5)= .pointer (some ⟨bX,0,none⟩):=by rw[cP,H3.lo 5 (by omega)];exact h5
 have a7:(fr t2).eval (.tmp 7)= .pointer (some ⟨bY,0,none⟩):=by rw[cP,H3.lo 7 (by omega)];exact h7
 have l27: ∀v,(fr (t2.setIfInBounds 27 v)).eval (.tmp 7)= .pointer (some ⟨bY,0,none⟩):=fun v=>by rw[cP,aI (by omega)];exact a7
 have l26: ∀v,(fr (t2.setIfInBounds 26 v)).eval (.tmp 5)= .pointer (some ⟨bX,0,none⟩):=fun v=>by rw[cP,aI (by omega)];exact a5
 have n26:=fun v=>H3.set (d:=26) (v:=v) (by omega)
 have n27:=fun v=>H3.set (d:=27) (v:=v) (by omega)
 refine wpAnyIn_ready (rs:=[4,5]) (by kernel_rfl) (by simp) (AllReadyIn.cons rfl (fun K1 hK1=>?_) (AllReadyIn.cons rfl (fun K1 hK1=>?_) AllReadyIn.nil))
 ·refine aGR (d:=26) rfl rfl H3.g (iU rfl (by rw[a7];exact hY)) (hK1 _ _ ?_)
  refine wpAnyIn_ready (rs:=[5]) (by kernel_rfl) (by simp) (AllReadyIn.cons rfl (fun K1 hK1=>?_) AllReadyIn.nil)
  refine aGR (d:=27) rfl rfl (n26 _).g (iU rfl (by rw[l26];exact hX)) (hK1 _ _ ?_)
  have H5:=(n26 Y).set (d:=27) (v:=X) (by omega)
  refine wpAnyIn_ready (rs:=[6]) (by kernel_rfl) (by simp) (AllReadyIn.cons rfl (fun K1 hK1=>?_) AllReadyIn.nil)
  refine aAZ (d:=28) rfl rfl H5.g (qG rfl rfl rfl hf) ?_;simp only[List.map_toArray,mpC,List.map_nil];rw[cP,bK (by rw[(n26 Y).sz];omega)]
  refine hN.mono ?_;rintro e w' ⟨g,fv,rfl,-,hB,hY2⟩;refine⟨_,rfl,hK1 _ _ ?_⟩;have H6:=H5.set (d:=28) (v:=g) (by omega)
  have e9:=aAN H6 (by rw[aI (by omega),aI (by omega),aI (by omega)];exact p24) (by rw[aI (by omega),aI (by omega),aI (by omega)];exact p25)
   (by rw[aI (by omega),aI (by omega),bK (by rw[H3.sz];omega)]) (by rw[bK (by rw[H5.sz];omega)]) hB hY2 h
  exact e9
 ·refine aGR (d:=27) rfl rfl H3.g (iU rfl (by rw[a5];exact hX)) (hK1 _ _ ?_)
  refine wpAnyIn_ready (rs:=[4,6]) (by kernel_rfl) (by simp) (AllReadyIn.cons rfl (fun K1 hK1=>?_) (AllReadyIn.cons rfl (fun K1 hK1=>?_) AllReadyIn.nil))
  ·refine aGR (d:=26) rfl rfl (n27 _).g (iU rfl (by rw[l27];exact hY)) (hK1 _ _ ?_)
   have H5:=(n27 X).set (d:=26) (v:=Y) (by omega)
   refine wpAnyIn_ready (rs:=[6]) (by kernel_rfl) (by simp) (AllReadyIn.cons rfl (fun K1 hK1=>?_) AllReadyIn.nil)
   refine aAZ (d:=28) rfl rfl H5.g (qG rfl rfl rfl hf) ?_;simp only[List.map_toArray,mpC,List.map_nil];rw[cP,aI (by omega),bK (by rw[H3.sz];omega)]
   refine hN.mono ?_;rintro e w' ⟨g,fv,rfl,-,hB,hY2⟩;refine⟨_,rfl,hK1 _ _ ?_⟩;have H6:=H5.set (d:=28) (v:=g) (by omega)
   have e9:=aAN H6 (by rw[aI (by omega),aI (by omega),aI (by omega)];exact p24) (by rw[aI (by omega),aI (by omega),aI (by omega)];exact p25)
    (by rw[aI (by omega),bK (by rw[(n27 X).sz];omega)]) (by rw[bK (by rw[H5.sz];omega)]) hB hY2 h
   exact e9
  ·refine aAZ (d:=28) rfl rfl (n27 _).g (qG rfl rfl rfl hf) ?_;simp only[List.map_toArray,mpC,List.map_nil];rw[cP,bK (by rw[H3.sz];omega)]
   refine hN.mono ?_;rintro e w' ⟨g,fv,rfl,hY3,hB,hY2⟩;refine⟨_,rfl,hK1 _ _ ?_⟩;have H5:=(n27 X).set (d:=28) (v:=g) (by omega)
   refine wpAnyIn_ready (rs:=[4]) (by kernel_rfl) (by simp) (AllReadyIn.cons rfl (fun K1 hK1=>?_) AllReadyIn.nil)
   refine aGR (d:=26) rfl rfl H5.g (iU rfl (by rw[cP,aI (by omega),←cP,l27];exact hY3)) (hK1 _ _ ?_)
   have H6:=H5.set (d:=26) (v:=Y) (by omega)
   have e9:=aAN H6 (by rw[aI (by omega),aI (by omega),aI (by omega)];exact p24) (by rw[aI (by omega),aI (by omega),aI (by omega)];exact p25)
    (by rw[bK (by rw[H5.sz];omega)]) (by rw[aI (by omega),bK (by rw[(n27 X).sz];omega)]) hB hY2 h
   exact e9
end Go.Rf
namespace Go.Rf
open Go.AI Go.Proofs Go.RowKit Go.Shelf
attribute [local go_sem] Oper.semAt_some
noncomputable def aGW:Code:=match Tryz.f84.body with|some (.seq _ (.block _ (.loop c)))=>c|_=> .skip
theorem list34{l:List Value}(h:l.length=34): ∃t0 t1 t2 t3 t4 t5 t6 t7 t8 t9 t10 t11 t12 t13 t14 t15 t16 t17 t18 t19 t20 t21 t22 t23 t24 t25 t26 t27 t28 t29 t30 t31 t32 t33,l=[t0,t1,t2,t3,t4,t5,t6,t7,t8,t9,t10,t11,t12,t13,t14,t15,t16,t17,t18,t19,t20,t21,t22,t23,t24,t25,t26,t27,t28,t29,t30,t31,t32,t33]:=by
 match l,h with
 |t0::t1::t2::t3::t4::t5::t6::t7::t8::t9::t10::t11::t12::t13::t14::t15::t16::t17::t18::t19::t20::t21::t22::t23::t24::t25::t26::t27::t28::t29::t30::t31::t32::t33::[],_=>exact⟨t0,t1,t2,t3,t4,t5,t6,t7,t8,t9,t10,t11,t12,t13,t14,t15,t16,t17,t18,t19,t20,t21,t22,t23,t24,t25,t26,t27,t28,t29,t30,t31,t32,t33,rfl⟩
structure Fr(L bA bU:Nat)(sl:Value)(n:Nat)(i:Int)(a:Act):Prop where
 d:a.defers=[]
 sz:a.tmps.size=34
 h0:a.tmps.getD 0 undef= .func (.yield L) #[] #[]
 h1:a.tmps.getD 1 undef= .pointer (some ⟨bA,0,none⟩)
 h2:a.tmps.getD 2 undef= .pointer (some ⟨bU,0,none⟩)
 h9:a.tmps.getD 9 undef=sl
 h10:a.tmps.getD 10 undef= .int .i64 n
 h11:a.tmps.getD 11 undef= .int .i64 i
theorem Fr.ex{L bA bU:Nat}{sl:Value}{n:Nat}{i:Int}{a:Act}(h:Fr L bA bU sl n i a): ∃j3 j4 j5 j6 j7 j8 j12 j13 j14 j15 j16 j17 j18 j19 j20 j21 j22 j23 j24 j25 j26 j27 j28 j29 j30 j31 j32 j33:Value,a={tmps:= #[.func (.yield L) #[] #[],.pointer (some ⟨bA,0,none⟩),.pointer (some ⟨bU,0,none⟩),j3,j4,j5,j6,j7,j8,sl,.int .i64 n,.int .i64 i,j12,j13,j14,j15,j16,j17,j18,j19,j20,j21,j22,j23,j24,j25,j26,j27,j28,j29,j30,j31,j32,j33],defers:=[]}:=by
 obtain⟨⟨ts⟩,ds⟩:=a;obtain⟨d,sz,h0,h1,h2,h9,h10,h11⟩:=h;obtain⟨j0,j1,j2,j3,j4,j5,j6,j7,j8,j9,j10,j11,j12,j13,j14,j15,j16,j17,j18,j19,j20,j21,j22,j23,j24,j25,j26,j27,j28,j29,j30,j31,j32,j33,rfl⟩:=list34 (l:=ts) sz;cases d;refine⟨j3,j4,j5,j6,j7,j8,j12,j13,j14,j15,j16,j17,j18,j19,j20,j21,j22,j23,j24,j25,j26,j27,j28,j29,j30,j31,j32,j33,?_⟩;rw[←h0,←h1,←h2,←h9,←h10,←h11];rfl
structure Hd(p:Prop):Prop where
 h:p
theorem cond_t{P:Program}{call:FuncId→Array Value→St→Option (Value×St)}{L:Nat}{x:Operand}{a b:Code}{S:Slots}{σ:St}(h:ev S x= .bool true):cZ P call L (.cond x a b) S σ=cZ P call L a S σ:=by simp only[cZ,h]
theorem fM(ts:Array Value):(fr ts).tmps=ts:=rfl
theorem mH{n:Nat}{P:Program}{ops:Array Oper}{Q:Exit→Act→World→Prop}{rest:List Oper}{o:Oper}{a:Act}{w w':World}{v:Value}(hg:o.guard=none)
    (h:(execOp a.eval o).run P w= .ok (.value v) w') (k:wpListIn Fence.wide n P ops Q rest (a.put o.dst v) w'):wpListIn Fence.wide n P ops Q (o::rest) a w:=by
 refine wpListIn_plain hg fun K hK=>?_
 unfold Oper.wpIn;rw[Fence.wide_round,Oper.semAt_none];refine⟨fun f _=>trivial,?_⟩
 rw[h,Oper.uponIn_value];exact hK _ _ k
theorem add_run{ρ:Operand→Value}{o:Oper}{x:Operand}{i:Int}{t2:TypeId}(ho:o.op= .binOp .add 3 x (.const (.int .i64 1)) t2)(hx:ρ x= .int .i64 i)(hc:ρ (.const (.int .i64 1))= .int .i64 1)(w:World):(execOp ρ o).run Tryz.prog w= .ok (.value (.int .i64 (IntKind.i64.wrap (i+1)))) w:=by
 unfold execOp;rw[ho];simp only[hx,hc];rfl
theorem slc_inv{μ:Mp}{id off n c c':Nat}{sa':Option Addr}(h:VR μ (.slice (some ⟨id,off,none⟩) n c) (.slice sa' n c')): ∃p:AI.Place,μ id=some p∧sa'=some ⟨p.b,p.o+off,none⟩:=by
 cases h with
 |same _ h=>simp[aD]at h
 |slc _ _ _ _ _ p hp=>exact⟨p,hp,rfl⟩
theorem fO{w1:W0}{μ:Mp}{σ:St}{W:World}{id o:Nat}{p:AI.Place}{l:List Value}(Z:Sim w1 Tryz.prog μ σ W)(hp:μ id=some p)(h:eK Tryz.prog σ 41 (.pointer (some ⟨id,o,none⟩))=some (.agg l.toArray)):
    ∃l',VRL μ l l'∧∀k v,l'[k]?=some v→W.cell? ⟨p.b,p.o+o+k,none⟩=some v:=by
 unfold eK at h;have e1:iV Tryz.prog 41=some true:=by kernel_rfl
 have e2:gX Tryz.prog 41=some 11:=by kernel_rfl
 rw[e1,e2]at h;simp only at h;split at h
 ·rename_i cs m e;simp only[mjE]at h;obtain⟨l0,hc,he⟩:=h;have:l0=l:=by simpa using he
  subst this;unfold cut at hc;simp only[cond_eq_ite]at hc;split at hc
  ·rename_i hh;cases hc;have hh:=nqE hh;have hget:σ.get id=some (.cells cs m)∧σ.good m=true:=by
    unfold St.row at e;split at e
    ·rename_i cs' m' e3;simp only[cond_eq_ite]at e;split at e
     ·rename_i hg;cases e;exact⟨e3,hg⟩
     ·cases e
    ·cases e
   obtain⟨⟨C,t,frz,r1,r2,r3⟩,r4,r5,r6⟩:=Z.row id p cs m hp hget.1 hget.2;have key: ∀(n:Nat) (d:List Value),d=(cs.drop o).take n→∃l',VRL μ d l'∧∀k v,l'[k]?=some v→C[p.o+o+k]?=some v:=by
    intro n;induction n with
    |zero=>intro d hd;subst hd;exact⟨[],by rw[List.take_zero];exact .nil,fun k v h=>by simp at h⟩
    |succ n ihn=>
     intro d hd;obtain⟨l1,q1,q2⟩:=ihn _ rfl;rcases Nat.lt_or_ge n (cs.drop o).length with hlt|hge
     ·have e4:(cs.drop o)[n]?=some ((cs.drop o)[n]'hlt):=geG hlt;obtain⟨u,hu,hr⟩:=r2 (o+n) ((cs.drop o)[n]'hlt) (by rw[←List.getElem?_drop];exact e4)
      refine⟨l1++ [u],?_,fun k v hk=>?_⟩
      ·subst hd;rw[List.take_add_one,e4];exact q1.append (.cons hr .nil)
      ·rw[List.getElem?_append]at hk;have hl1:l1.length=n:=by rw[←q1.1,List.length_take];omega
       split at hk
       ·exact q2 k v hk
       ·rename_i hk2;rw[List.getElem?_singleton]at hk;split at hk
        ·rename_i hk3;cases hk;rw[show p.o+o+k=p.o+(o+n) by omega];exact hu
        ·cases hk
     ·refine⟨l1,?_,q2⟩;subst hd;rw[List.take_of_length_le (by omega)]
      rw[List.take_of_length_le hge]at q1;exact q1
   obtain⟨l',q1,q2⟩:=key 11 _ rfl;exact⟨l',q1,fun k v hk=>aS r1 (q2 k v hk)⟩
  ·cases hc
 ·cases h
set_option maxHeartbeats 4000000 in
set_option maxRecDepth 100000 in
theorem loop_ok{w0:W0}{O:Nat→Option Obj}{call:FuncId→Array Value→St→Option (Value×St)}(hcall: ∀w1:W0,w1.toWorld=w0.toWorld→eI w1 Tryz.prog call)
    {L D bA bU L0 n c c':Nat} {fn:FuncId} {ts:Array Value} {vo uv:Value} {sa sa':Option Addr} {Q:Exit→Act→World→Prop} {fl:Fl} {S':Slots} {σ':St} {u0 u1 u2 u3 u4 u5 u6 u7 u8 u9 u10:Value} {frU:Nat×Nat}
    (hts:68≤ts.size) (hL:O L=some (.loop (aAx fn ts D .ready none))) (hL0:w0.heap.size≤L) (hU:O bU=some (.cells #[u0,u1,u2,u3,u4,u5,u6,u7,u8,u9,u10] 41 frU)):
    ∀(m:Nat) (i:Int) (S:Slots) (σ:St) (W:World) (μ:Mp) (a:Act),aFw (fun S σ=>cZ Tryz.prog call L0 cdL S σ) m S σ=some (fl,S',σ')→
      S.at 70=uv→VR μ uv (.agg #[u0,u1,u2,u3,u4,u5,u6,u7,u8,u9,u10])→S.at 71= .slice sa n c→VR μ (.slice sa n c) (.slice sa' n c')→S.at 72= .int .i64 n→S.at 73= .int .i64 i→S.at 5=vo→VR μ vo (ts.getD 5 undef)→
      Sim (wO w0 O) Tryz.prog μ σ W→Fr L bA bU (.slice sa' n c') n i a→
      (∀W' μ' a',Sim (wO w0 O) Tryz.prog μ' σ' W'→Ext σ.next μ μ'→σ.next≤σ'.next→fl= .exit 5→S'.at 5=vo→a'.defers=[]→Q (.exit 0) a' W')→
      Code.roundsIn Fence.wide 2 Tryz.prog aGW Q m a W:=by
 intro m;induction m with
 |zero=>intro i S σ W μ a h;simp[aFw]at h
 |succ m ih=>
  intro i S σ W μ a h g70 r70 g71 r71 g72 g73 g5 r5 Z hF post;rw[roundsIn_succ];simp only[aFw]at h;obtain⟨j3,j4,j5,j6,j7,j8,j12,j13,j14,j15,j16,j17,j18,j19,j20,j21,j22,j23,j24,j25,j26,j27,j28,j29,j30,j31,j32,j33,rfl⟩:=hF.ex
  conv=>arg 4;unfold aGW;dsimp only[Tryz.f84]
  cases hx:cZ Tryz.prog call L0 cdL S σ with
  |none=>rw[hx]at h;cases h
  |some r=>
  obtain⟨f1,S1,σ1⟩:=r;rw[hx]at h;unfold cdL at hx;rcases eR hx with⟨S2,σ2,e1,hx1⟩|⟨hne,e1⟩
  rotate_left
  ·exact absurd (bS e1).1 hne
  clear hx;obtain⟨-,rfl,b74,bk⟩:=opsB_inv g73 g72 e1;by_cases hin:i<(n:Int)
  rotate_left
  ·
   have e74:ev S2 (.tmp 74)= .bool false:=by show S2.at 74=_;rw[b74,decide_eq_false hin]
   have hx2:f1= .exit 5∧S1=S2∧σ1=up σ 1:=by
    simp only[cZ,e74]at hx1;cases hx1;exact⟨rfl,rfl,rfl⟩
   obtain⟨rfl,rfl,rfl⟩:=hx2;simp only[ojE,pjE]at h;obtain⟨rfl,rfl,rfl⟩:=h;have hp:=fun a' hd=>post W μ a' (Z.next (n:=σ.next+1) (Nat.le_add_right _ _)) (Ext.refl _ _) (Nat.le_add_right _ _) rfl (by rw[bk 5 (by omega)];exact g5) hd
   clear post ih;generalize Code.roundsIn Fence.wide 2 Tryz.prog aGW Q m=K
   gi_wp2
   all_goals rfl
  ·
   have e74:ev S2 (.tmp 74)= .bool true:=by show S2.at 74=_;rw[b74,decide_eq_true hin]
   rcases eR hx1 with⟨S3,σ3,e2,hx2⟩|⟨hne,e2⟩
   rotate_left
   ·simp only[cZ,e74]at e2;cases e2;exact absurd rfl hne
   have q2:S3=S2∧σ3=up σ 1:=by simp only[cZ,e74]at e2;cases e2;exact⟨rfl,rfl⟩
   obtain⟨rfl,rfl⟩:=q2;clear hx1 e2;rcases eR hx2 with⟨S4,σ4,e3,hx3⟩|⟨hne,e3⟩
   rotate_left
   ·exact absurd (bS e3).1 hne
   obtain⟨-,hi0,-,id,off,l,z,z',rfl,ld,hl,l1,b76,bk4,rfl⟩:=opsC_inv (by rw[bk 71 (by omega)];exact g71) (by rw[bk 73 (by omega)];exact g73) e3
   clear hx2;rcases eR hx3 with⟨S5,σ5,e4,hx4⟩|⟨hne,e4⟩
   rotate_left
   ·exact absurd (bS e4).1 hne
   obtain⟨-,vs,σ6,s,lt,bb,z5,z5',hc1,v0,v1,v2,hlt,lt1,b78,b79,b80,bk5,rfl⟩:=opsD_inv e4;clear hx3;obtain⟨p,hp,rfl⟩:=slc_inv r71;rw[b76,bk4 70 (by omega),bk 70 (by omega),g70]at hc1
   have ZA:Sim (wO w0 O) Tryz.prog μ (up (up σ 1) 4) W:=(Z.next (n:=σ.next+1) (Nat.le_add_right _ _)).next (n:=σ.next+1+4) (Nat.le_add_right _ _)
   obtain⟨l',rl,hcl⟩:=fO ZA hp ld;have ZB:=aF0 (z:=z) (z':=z') ZA (k:=(up σ 1).next+2) (Z.dom _ (by show σ.next≤σ.next+1+2;omega))
   obtain⟨x0,x1,x2,x3,x4,x5,x6,x7,x8,x9,x10,rfl⟩:=aC7 (l:=l') (by rw[←rl.1];exact hl)
   obtain⟨y0,y1,y2,y3,y4,y5,y6,y7,y8,y9,y10,rfl⟩:=aC7 (l:=l) hl;generalize hσB:(((up (up σ 1) 4).put ((up σ 1).next+2) (AObj.cells z boxMeta)).put ((up σ 1).next+2) (AObj.cells z' boxMeta))=σB at*
   have nB:σB.next=σ.next+5:=by rw[←hσB];rfl
   have hox: ∀x∈ [x0,x1,x2,x3,x4,x5,x6,x7,x8,x9,x10],one x=true:=by
    have:=rl.one_eq;rw[l1]at this;exact List.all_eq_true.1 this
   have hsx0:=aU (hox x0 (by simp)) Tryz.prog
   have hsx1:=aU (hox x1 (by simp)) Tryz.prog
   have hsx2:=aU (hox x2 (by simp)) Tryz.prog
   have hsx3:=aU (hox x3 (by simp)) Tryz.prog
   have hsx4:=aU (hox x4 (by simp)) Tryz.prog
   have hsx5:=aU (hox x5 (by simp)) Tryz.prog
   have hsx6:=aU (hox x6 (by simp)) Tryz.prog
   have hsx7:=aU (hox x7 (by simp)) Tryz.prog
   have hsx8:=aU (hox x8 (by simp)) Tryz.prog
   have hsx9:=aU (hox x9 (by simp)) Tryz.prog
   have hsx10:=aU (hox x10 (by simp)) Tryz.prog
   have hbU:bU<W.heap.size:=(Array.getElem?_eq_some_iff.1 (Z.kept.oth bU _ hU).1).1;have hhU:=(Z.kept.oth bU _ hU).1;have cu0:W.cell? ⟨bU,0,none⟩=some u0:=aS hhU rfl;have cu1:W.cell? ⟨bU,1,none⟩=some u1:=aS hhU rfl;have cu2:W.cell? ⟨bU,2,none⟩=some u2:=aS hhU rfl;have cu3:W.cell? ⟨bU,3,none⟩=some u3:=aS hhU rfl;have cu4:W.cell? ⟨bU,4,none⟩=some u4:=aS hhU rfl;have cu5:W.cell? ⟨bU,5,none⟩=some u5:=aS hhU rfl;have cu6:W.cell? ⟨bU,6,none⟩=some u6:=aS hhU rfl;have cu7:W.cell? ⟨bU,7,none⟩=some u7:=aS hhU rfl;have cu8:W.cell? ⟨bU,8,none⟩=some u8:=aS hhU rfl;have cu9:W.cell? ⟨bU,9,none⟩=some u9:=aS hhU rfl;have cu10:W.cell? ⟨bU,10,none⟩=some u10:=aS hhU rfl;have cx0:W.cell? ⟨p.b,p.o+off+i.toNat*11,none⟩=some x0:=by have:=hcl 0 x0 rfl;rw[show p.o+(off+i.toNat*11)+0=p.o+off+i.toNat*11 by omega]at this;exact this
   have cx1:W.cell? ⟨p.b,p.o+off+i.toNat*11+1,none⟩=some x1:=by have:=hcl 1 x1 rfl;rw[show p.o+(off+i.toNat*11)+1=p.o+off+i.toNat*11+1 by omega]at this;exact this
   have cx2:W.cell? ⟨p.b,p.o+off+i.toNat*11+2,none⟩=some x2:=by have:=hcl 2 x2 rfl;rw[show p.o+(off+i.toNat*11)+2=p.o+off+i.toNat*11+2 by omega]at this;exact this
   have cx3:W.cell? ⟨p.b,p.o+off+i.toNat*11+3,none⟩=some x3:=by have:=hcl 3 x3 rfl;rw[show p.o+(off+i.toNat*11)+3=p.o+off+i.toNat*11+3 by omega]at this;exact this
   have cx4:W.cell? ⟨p.b,p.o+off+i.toNat*11+4,none⟩=some x4:=by have:=hcl 4 x4 rfl;rw[show p.o+(off+i.toNat*11)+4=p.o+off+i.toNat*11+4 by omega]at this;exact this
   have cx5:W.cell? ⟨p.b,p.o+off+i.toNat*11+5,none⟩=some x5:=by have:=hcl 5 x5 rfl;rw[show p.o+(off+i.toNat*11)+5=p.o+off+i.toNat*11+5 by omega]at this;exact this
   have cx6:W.cell? ⟨p.b,p.o+off+i.toNat*11+6,none⟩=some x6:=by have:=hcl 6 x6 rfl;rw[show p.o+(off+i.toNat*11)+6=p.o+off+i.toNat*11+6 by omega]at this;exact this
   have cx7:W.cell? ⟨p.b,p.o+off+i.toNat*11+7,none⟩=some x7:=by have:=hcl 7 x7 rfl;rw[show p.o+(off+i.toNat*11)+7=p.o+off+i.toNat*11+7 by omega]at this;exact this
   have cx8:W.cell? ⟨p.b,p.o+off+i.toNat*11+8,none⟩=some x8:=by have:=hcl 8 x8 rfl;rw[show p.o+(off+i.toNat*11)+8=p.o+off+i.toNat*11+8 by omega]at this;exact this
   have cx9:W.cell? ⟨p.b,p.o+off+i.toNat*11+9,none⟩=some x9:=by have:=hcl 9 x9 rfl;rw[show p.o+(off+i.toNat*11)+9=p.o+off+i.toNat*11+9 by omega]at this;exact this
   have cx10:W.cell? ⟨p.b,p.o+off+i.toNat*11+10,none⟩=some x10:=by have:=hcl 10 x10 rfl;rw[show p.o+(off+i.toNat*11)+10=p.o+off+i.toNat*11+10 by omega]at this;exact this
   obtain⟨O1,hO1⟩: ∃O1,O1=lY O W.heap.size (.cells #[x0,x1,x2,x3,x4,x5,x6,x7,x8,x9,x10] 41 (0,0)):=⟨_,rfl⟩;have ZX:Sim (wO w0 O1) Tryz.prog μ (up σB 6) (W.alloc (.cells #[x0,x1,x2,x3,x4,x5,x6,x7,x8,x9,x10] 41)):=by
    rw[hO1];exact iJ (kH (ZB.next (n:=σB.next+6) (Nat.le_add_right _ _)) (fun C t fr h=>by cases h;rfl)) (World.alloc_heap_new _ _) (kP ZB)
   obtain⟨-,hC⟩:=hcall (wO w0 O1) rfl _ #[.agg #[y0,y1,y2,y3,y4,y5,y6,y7,y8,y9,y10],uv] #[.agg #[x0,x1,x2,x3,x4,x5,x6,x7,x8,x9,x10],.agg #[u0,u1,u2,u3,u4,u5,u6,u7,u8,u9,u10]] _ _ _ μ _ hc1 ZX (.cons (.mkAgg rl) (.cons r70 .nil));obtain⟨ll,rfl,hll⟩:=agg11 hlt;have hbb: ∃b,bb= .bool b:=by
    rcases eR hx4 with⟨S6,σ7,e5,-⟩|⟨-,e5⟩<;>
    ·have e80:ev S5 (.tmp 80)=bb:=b80;simp only[cZ,e80]at e5;split at e5
     ·exact⟨_,rfl⟩
     ·exact⟨_,rfl⟩
     ·cases e5
   obtain⟨b,rfl⟩:=hbb
   replace hcall:= @Hd.mk _ hcall
   clear hhU hc1 ZX e1 e3 e4 hcl hF
   replace hC:=Hd.mk hC;replace h:=Hd.mk h;replace ih:= @Hd.mk _ ih;replace post:=Hd.mk post;replace hx4:=Hd.mk hx4;replace Z:=Hd.mk Z;replace ZA:=Hd.mk ZA;replace ZB:=Hd.mk ZB
   gi_wp2
   refine⟨trivial,((callsIn_wide (n:=1)).2 hC.h).mono ?_⟩;rintro e w' ⟨μ2,r',rfl,hr,Z2,E2,n2⟩;obtain⟨us,rfl,hus⟩:=hr.tuple_inv;obtain⟨s',us0,rs⟩:=hus.get (i:=0) (x:=s) (by simpa using v0)
   obtain⟨lt',us1,rlt⟩:=hus.get (i:=1) (by simpa using v1)
   obtain⟨b',us2,rb⟩:=hus.get (i:=2) (by simpa using v2)
   rw[Array.getElem?_toList]at us0 us1 us2;obtain⟨ll',rfl,rll⟩:=vr_agg rlt;obtain⟨l0,l1,l2,l3,l4,l5,l6,l7,l8,l9,l10,rfl⟩:=aC7 (l:=ll') (by rw[←rll.1];exact hll)
   have hol: ∀x∈ [l0,l1,l2,l3,l4,l5,l6,l7,l8,l9,l10],one x=true:=by
    have h9:=rll.one_eq;rw[show ll.all one=true from(by simpa [Value.cells]using lt1)]at h9;exact List.all_eq_true.1 h9
   have hb':=rb.bool_inv;subst hb';have hsl0:=aU (hol l0 (by simp)) Tryz.prog
   have hsl1:=aU (hol l1 (by simp)) Tryz.prog
   have hsl2:=aU (hol l2 (by simp)) Tryz.prog
   have hsl3:=aU (hol l3 (by simp)) Tryz.prog
   have hsl4:=aU (hol l4 (by simp)) Tryz.prog
   have hsl5:=aU (hol l5 (by simp)) Tryz.prog
   have hsl6:=aU (hol l6 (by simp)) Tryz.prog
   have hsl7:=aU (hol l7 (by simp)) Tryz.prog
   have hsl8:=aU (hol l8 (by simp)) Tryz.prog
   have hsl9:=aU (hol l9 (by simp)) Tryz.prog
   have hsl10:=aU (hol l10 (by simp)) Tryz.prog
   have hhX:=(Z2.kept.oth W.heap.size (.cells #[x0,x1,x2,x3,x4,x5,x6,x7,x8,x9,x10] 41 (0,0)) (by show O1 _=_;rw[hO1];exact oY _ _ _)).1
   have hbX:W.heap.size<w'.heap.size:=(Array.getElem?_eq_some_iff.1 hhX).1;clear cx0 cx1 cx2 cx3 cx4 cx5 cx6 cx7 cx8 cx9 cx10 cu0 cu1 cu2 cu3 cu4 cu5 cu6 cu7 cu8 cu9 cu10;have cx0:w'.cell? ⟨W.heap.size,0,none⟩=some x0:=aS hhX rfl;have cx1:w'.cell? ⟨W.heap.size,1,none⟩=some x1:=aS hhX rfl;have cx2:w'.cell? ⟨W.heap.size,2,none⟩=some x2:=aS hhX rfl;have cx3:w'.cell? ⟨W.heap.size,3,none⟩=some x3:=aS hhX rfl;have cx4:w'.cell? ⟨W.heap.size,4,none⟩=some x4:=aS hhX rfl;have cx5:w'.cell? ⟨W.heap.size,5,none⟩=some x5:=aS hhX rfl;have cx6:w'.cell? ⟨W.heap.size,6,none⟩=some x6:=aS hhX rfl;have cx7:w'.cell? ⟨W.heap.size,7,none⟩=some x7:=aS hhX rfl;have cx8:w'.cell? ⟨W.heap.size,8,none⟩=some x8:=aS hhX rfl;have cx9:w'.cell? ⟨W.heap.size,9,none⟩=some x9:=aS hhX rfl;have cx10:w'.cell? ⟨W.heap.size,10,none⟩=some x10:=aS hhX rfl;clear hhX;have kD:μ2 (σB.next+4)=none:=by
    rw[E2.2 (σB.next+4) (by show σB.next+4<σB.next+6;omega)]
    exact ZB.h.dom _ (Nat.le_add_right _ _)
   have ZD:=Hd.mk (aF0 (z:=z5) (z':=z5') Z2 kD);generalize hσD:((σ6.put (σB.next+4) (AObj.cells z5 boxMeta)).put (σB.next+4) (AObj.cells z5' boxMeta))=σD at*
   have nD:σD.next=σ6.next:=by rw[←hσD];rfl
   replace Z2:=Hd.mk Z2
   replace E2:=Hd.mk E2
   gi_wp2
   rename_i K5 hK5 K hK;refine Go.wpIn_mono (Q:=aAU K) ?_ (fun e a w h=>by cases e<;>first|exact h|exact h.elim)
   have tail: ∀(ts':Array Value) (w3:World) (μ3:Mp) (σE:St),Fr L bA bU (.slice (some ⟨p.b,p.o+off,none⟩) n c') n i (fr ts')→ts'.getD 32 undef= .bool false→
          Sim (wO w0 O) Tryz.prog μ3 σE w3→Ext σ.next μ μ3→σ.next≤σE.next→(∃S6,(∀k,k<77→S6.at k=S5.at k)∧cZ Tryz.prog call L0 (.region 55 opsF false) S6 σE=some (f1,S1,σ1))→K (fr ts') w3:=by
    intro ts' w3 μ3 σE hF' h32 ZE EE hn hAI;obtain⟨S6,bk6,hx5⟩:=hAI;have h:=h.h;obtain⟨rfl,rfl,f73,fk⟩:=opsF_inv (i:=i) (by rw[bk6 73 (by omega),bk5 73 (by omega),bk4 73 (by omega),bk 73 (by omega)];exact g73) hx5
    simp only at h;refine hK _ _ ?_;refine wpIn_cond_false (by rw[cP];exact h32) ?_
    apply wpIn_skip;simp only[Exit.inBlock,Exit.then];refine hK5 _ _ ?_;refine wpIn_region_lit ?_;refine mH rfl (add_run (i:=i) rfl (by rw[cP];exact hF'.h11) rfl _) ?_
    refine mH rfl (mR rfl _) ?_;refine wpListIn_nil ?_;simp only[Exit.then];have sk: ∀k,k<73→S1.at k=S.at k:=fun k hk=>by rw[fk k (by omega) (by omega),bk6 k (by omega),bk5 k (by omega),bk4 k (by omega),bk k (by omega)]
    have sz':ts'.size=34:=hF'.sz;refine ih.h _ S1 (up σE 2) w3 μ3 _ h (by rw[sk 70 (by omega)];exact g70) (r70.mono EE) (by rw[sk 71 (by omega)];exact g71) (r71.mono EE) (by rw[sk 72 (by omega)];exact g72) f73 (by rw[sk 5 (by omega)];exact g5) (r5.mono EE) (ZE.next (n:=σE.next+2) (Nat.le_add_right _ _)) ?_ ?_
    ·simp only[eO];refine⟨rfl,by simp[fr,sz'],?_,?_,?_,?_,?_,?_⟩
     ·rw[fM,aI (by omega),aI (by omega)];exact hF'.h0
     ·rw[fM,aI (by omega),aI (by omega)];exact hF'.h1
     ·rw[fM,aI (by omega),aI (by omega)];exact hF'.h2
     ·rw[fM,aI (by omega),aI (by omega)];exact hF'.h9
     ·rw[fM,aI (by omega),aI (by omega)];exact hF'.h10
     ·rw[fM,bK (by simp[sz'])];rw[cP,bK (by omega)]
    ·intro W' μ' a' Z' E' hn' hfl hs hd;exact post.h W' μ' a' Z' (EE.trans E' (by show σ.next≤σE.next+2;omega)) (by have:σE.next+2≤σ'.next:=hn';omega) hfl hs hd
   have leO: ∀k o,O k=some o→k<W.heap.size:=fun k o hk=>(Array.getElem?_eq_some_iff.1 (Z.h.kept.oth k o hk).1).1
   have hOO1: ∀k o,O k=some o→O1 k=some o:=fun k o hk=>by
    rw[hO1];unfold lY;rw[if_neg (by have:=leO k o hk;omega)];exact hk
   have EE2:Ext σ.next μ μ2:=E2.h.mono (by show σ.next≤σB.next+6;omega)
   have nn2:σ.next≤σD.next:=by rw[nD];have:σB.next+6≤σ6.next:=n2;omega
   have ZP:Sim (wO w0 O1) Tryz.prog μ2 σD (w'.alloc (.cells #[l0,l1,l2,l3,l4,l5,l6,l7,l8,l9,l10] 41)):=kH ZD.h (fun C t fr h=>by cases h;rfl)
   cases b with
   |false=>
    have hx5:cZ Tryz.prog call L0 (.region 55 opsF false) S5 σD=some (f1,S1,σ1):=by
     have hx4:=hx4.h;have e80:ev S5 (.tmp 80)= .bool false:=b80;rcases eR hx4 with⟨S6,σ7,e5,e6⟩|⟨hne,e5⟩
     ·simp only[cZ,e80]at e5;cases e5;exact e6
     ·simp only[cZ,e80]at e5;cases e5;exact absurd rfl hne
    refine r4_false rfl rfl ?_;intro ts' hsz' lo h32;exact tail ts' _ μ2 σD ⟨rfl,hsz',lo 0 (by omega),lo 1 (by omega),lo 2 (by omega),lo 9 (by omega),lo 10 (by omega),lo 11 (by omega)⟩ h32 (mI (aCn ZP) hOO1) EE2 nn2 ⟨S5,fun _ _=>rfl,hx5⟩
   |true=>
    have hx5: ∃S6 σ7,cZ Tryz.prog call L0 (.region 54 opsE false) S5 σD=some (.normal,S6,σ7)∧cZ Tryz.prog call L0 (.region 55 opsF false) S6 σ7=some (f1,S1,σ1):=by
     have hx4:=hx4.h;have e80:ev S5 (.tmp 80)= .bool true:=b80;rcases eR hx4 with⟨S6,σ7,e5,e6⟩|⟨hne,e5⟩
     ·rw[cond_t e80]at e5;exact⟨S6,σ7,e5,e6⟩
     ·rw[cond_t e80]at e5;exact absurd (bS e5).1 hne
    obtain⟨S6,σE,e5,e6⟩:=hx5;obtain⟨-,g,σ8,fv,zz,σ4,xx,s2,yy,hc2,RE,bk6⟩:=opsE_inv e5;rw[bk5 76 (by omega),b76]at hc2
    rw[b78,b79,bk5 5 (by omega),bk4 5 (by omega),bk 5 (by omega),g5]at RE
    obtain⟨O2,hO2⟩: ∃O2,O2=lY O1 w'.heap.size (.cells #[l0,l1,l2,l3,l4,l5,l6,l7,l8,l9,l10] 41 (0,0)):=⟨_,rfl⟩;have ZQ:Sim (wO w0 O2) Tryz.prog μ2 σD (w'.alloc (.cells #[l0,l1,l2,l3,l4,l5,l6,l7,l8,l9,l10] 41)):=by
     rw[hO2];exact iJ ZP (World.alloc_heap_new _ _) (kP ZD.h)
    have hOO2: ∀k o,O k=some o→O2 k=some o:=fun k o hk=>by
     rw[hO2];unfold lY;rw[if_neg (by have:=leO k o hk;omega)];exact hOO1 k o hk
    have hO2X:O2 W.heap.size=some (.cells #[x0,x1,x2,x3,x4,x5,x6,x7,x8,x9,x10] 41 (0,0)):=by
     rw[hO2];unfold lY;rw[if_neg (by omega),hO1];exact oY _ _ _
    have hO2Y:O2 w'.heap.size=some (.cells #[l0,l1,l2,l3,l4,l5,l6,l7,l8,l9,l10] 41 (0,0)):=by rw[hO2];exact oY _ _ _
    have ZR:Sim (wO w0 O2) Tryz.prog μ2 (up σD 9) (w'.alloc (.cells #[l0,l1,l2,l3,l4,l5,l6,l7,l8,l9,l10] 41)).drew:=(aCn ZQ).next (n:=σD.next+9) (Nat.le_add_right _ _)
    have rl2:VRL μ2 [y0,y1,y2,y3,y4,y5,y6,y7,y8,y9,y10] [x0,x1,x2,x3,x4,x5,x6,x7,x8,x9,x10]:=rl.mono EE2;obtain⟨-,hC2⟩:=hcall.h (wO w0 O2) rfl _ #[.agg #[y0,y1,y2,y3,y4,y5,y6,y7,y8,y9,y10]] #[.agg #[x0,x1,x2,x3,x4,x5,x6,x7,x8,x9,x10]] _ _ _ μ2 _ hc2 ZR (.cons (.mkAgg rl2) .nil);refine r4_true (L:=L) (bX:=W.heap.size) (bY:=w'.heap.size) (s:=s') (R:=fun w''=> ∃μ5,Sim (wO w0 O) Tryz.prog μ5 σE w''∧Ext σ.next μ μ5∧σ.next≤σE.next) rfl rfl rfl rfl rfl rfl (aGX (ZR.kept.oth _ _ hO2X).1) (aGX (ZR.kept.oth _ _ hO2Y).1) (((callsIn_wide (n:=1)).2 hC2).mono ?_) ?_
    ·rintro e w4 ⟨μ4,g',rfl,rg,Z4,E4,n4⟩;obtain⟨fv',hb1,rfv⟩:=qH (μ:=μ4) (P:=Tryz.prog) (ρ:=fun o=>match o with| .tmp 25=>s| .tmp 26=> .agg ll.toArray|_=>g) (ρ':=fun o=>match o with| .tmp 25=>s'| .tmp 26=> .agg #[l0,l1,l2,l3,l4,l5,l6,l7,l8,l9,l10]|_=>g')
      (o:=mkO none (.build 92 #[(0,.tmp 25),(1,.tmp 26),(2,.tmp 28)]) 0) (v:=fv) (fun x hx=>by
       have:x= .tmp 25∨x= .tmp 26∨x= .tmp 28:=by simpa [Op.operands,mkO]using hx
       rcases this with rfl|rfl|rfl
       ·exact rs.mono E4
       ·exact(VR.mkAgg rll).mono E4
       ·exact rg) (by unfold dQ;simp only[mkO,List.map_toArray,mpC,List.map_nil];exact RE.bld)
     refine⟨g',fv',rfl,aGX (Z4.kept.oth _ _ hO2Y).1,fun ρ o ho h25 h26 h28 w=>aIB ho rfl h25 h26 h28 (fun w=>cK hb1 w) w,_,_,_,_,run_yield (Z4.kept.oth L _ (hOO2 L _ hL)).1 rfl,?_⟩
     have kb:μ4 (σD.next+2)=none:=by
      rw[E4.2 (σD.next+2) (by show σD.next+2<σD.next+9;omega)];exact ZD.h.dom _ (Nat.le_add_right _ _)
     have n4':σD.next+9≤σ8.next:=n4
     refine(round_ok (n:=1) (w0:=w0) (O:=O2) Z4 kb (by omega) hts (hOO2 L _ hL) hL0 ((r5.mono EE2).mono E4) RE rfv).mono ?_
     rintro e w5 ⟨rfl,μ5,Z5,e5a,e5b,n5⟩;have EE4:Ext σ.next μ μ4:=EE2.trans (E4.mono (n':=σD.next) (by show σD.next≤σD.next+9;omega)) nn2
     exact⟨rfl,μ5,mI Z5 hOO2,⟨fun id q hq=>e5a _ _ (EE4.1 id q hq),fun id hid=>by rw[e5b id (by omega)];exact EE4.2 id hid⟩,by omega⟩
    ·rintro ts' w5 hsz' lo h32 ⟨μ5,Z5,EE5,n5⟩;exact tail ts' _ μ5 σE ⟨rfl,hsz',lo 0 (by omega),lo 1 (by omega),lo 2 (by omega),lo 9 (by omega),lo 10 (by omega),lo 11 (by omega)⟩ h32 Z5 EE5 n5 ⟨S6,fun k hk=>bk6 k (by omega),e6⟩
end Go.Rf
namespace Go.Rf
open Go.AI Go.Proofs Go.RowKit Go.Shelf
attribute [local go_sem] Oper.semAt_some
set_option maxHeartbeats 4000000 in
set_option maxRecDepth 100000 in
theorem aBg(W:World)(o:Option Addr)(n c:Nat)(u0 u1 u2 u3 u4 u5 u6 u7 u8 u9 u10:Value):Calls Tryz.prog 30 #[.slice o n c,.agg #[u0,u1,u2,u3,u4,u5,u6,u7,u8,u9,u10]] W fun e w'=>e= .returned (.func (.func 84) #[] #[.pointer (some ⟨W.heap.size,0,none⟩),.pointer (some ⟨W.heap.size+1,0,none⟩)])∧w'=(W.alloc (.cells #[.slice o n c] 30)).alloc (.cells #[u0,u1,u2,u3,u4,u5,u6,u7,u8,u9,u10] 41):=by
 refine(callsIn_wide (n:=3)).1 ?_;refine callsIn_of_wp Tryz.func30 rfl trivial ?_ rfl;simp only[Tryz.ntmps30,List.size_toArray,lcS,lnN,Nat.reduceAdd,Nat.reduceSub,Array.replicate_succ,Array.replicate_zero,List.push_toArray,List.append_toArray,nlA,cnA]
 gi_wp2
 go_ret
 exact⟨rfl,rfl⟩
set_option maxRecDepth 100000 in
theorem load_sl{b:Nat}{W:World}{o:Option Addr}{n c:Nat}{frz:Nat×Nat}(h:W.heap[b]?=some (.cells #[.slice o n c] 30 frz)):(Instr.loadAt 30 (.pointer (some ⟨b,0,none⟩))).run Tryz.prog W= .ok (.slice o n c) W:=by
 have c0:W.cell? ⟨b,0,none⟩=some (.slice o n c):=aS h rfl;clear h
 go_simp
set_option maxRecDepth 100000 in
theorem len_run{ρ:Operand→Value}{o:Oper}{x:Operand}{a:Option Addr}{n c:Nat}(ho:o.op= .call {callee:= .builtin .len,args:= #[x],argTypes:= #[30]})(hx:ρ x= .slice a n c)(w:World):(execOp ρ o).run Tryz.prog w= .ok (.value (.int .i64 n)) w:=by
 unfold execOp;rw[ho];simp only[List.map_toArray,mpC,List.map_nil]
 go_simp
set_option maxHeartbeats 1000000 in
set_option maxRecDepth 100000 in
theorem c127{w0:W0}{O:Nat→Option Obj}{call:FuncId→Array Value→St→Option (Value×St)}(hcall: ∀w1:W0,w1.toWorld=w0.toWorld→eI w1 Tryz.prog call)
    {L D bA bU L0 n c c':Nat} {fn:FuncId} {ts:Array Value} {vo uv:Value} {sa sa':Option Addr} {fl:Fl} {S S':Slots} {σ σ':St} {μ:Mp} {W:World} {u0 u1 u2 u3 u4 u5 u6 u7 u8 u9 u10:Value} {frU frA:Nat×Nat}
    (hts:68≤ts.size) (hL:O L=some (.loop (aAx fn ts D .ready none))) (hL0:w0.heap.size≤L) (hU:O bU=some (.cells #[u0,u1,u2,u3,u4,u5,u6,u7,u8,u9,u10] 41 frU)) (hA:O bA=some (.cells #[.slice sa' n c'] 30 frA))
    (h:cZ Tryz.prog call L0 (.block 5 (.loop cdL)) S σ=some (fl,S',σ'))
    (g70:S.at 70=uv) (r70:VR μ uv (.agg #[u0,u1,u2,u3,u4,u5,u6,u7,u8,u9,u10])) (g71:S.at 71= .slice sa n c) (r71:VR μ (.slice sa n c) (.slice sa' n c')) (g72:S.at 72= .int .i64 n) (g73:S.at 73= .int .i64 0) (g5:S.at 5=vo) (r5:VR μ vo (ts.getD 5 undef))
    (Z:Sim (wO w0 O) Tryz.prog μ σ W):
    CallsIn Fence.wide 2 Tryz.prog 84 #[.func (.yield L) #[] #[],.pointer (some ⟨bA,0,none⟩),.pointer (some ⟨bU,0,none⟩)] W fun e W'=>(∃v,e= .returned v)∧fl= .normal∧S'.at 5=vo∧∃μ',Sim (wO w0 O) Tryz.prog μ' σ' W'∧Ext σ.next μ μ'∧σ.next≤σ'.next:=by
 refine callsIn_of_wp Tryz.func84 rfl trivial ?_ rfl;simp only[Tryz.ntmps84,List.size_toArray,lcS,lnN,Nat.reduceAdd,Nat.reduceSub,Array.replicate_succ,Array.replicate_zero,List.push_toArray,List.append_toArray,nlA,cnA];generalize hts0:(#[.func (.yield L) #[] #[],.pointer (some ⟨bA,0,none⟩),.pointer (some ⟨bU,0,none⟩),undef,undef,undef,undef,undef,undef,undef,undef,undef,undef,undef,undef,undef,undef,undef,undef,undef,undef,undef,undef,undef,undef,undef,undef,undef,undef,undef,undef,undef,undef,undef]:Array Value)=t0;have z0:t0.size=34:=by rw[←hts0];rfl
 have q0:t0.getD 0 undef= .func (.yield L) #[] #[]:=by rw[←hts0];rfl
 have q1:t0.getD 1 undef= .pointer (some ⟨bA,0,none⟩):=by rw[←hts0];rfl
 have q2:t0.getD 2 undef= .pointer (some ⟨bU,0,none⟩):=by rw[←hts0];rfl
 clear hts0;change Code.wpIn Fence.wide 2 Tryz.prog _ _ (fr t0) W;obtain⟨fl0,S0,σ0,hit⟩: ∃fl0 S0 σ0,aFw (fun S σ=>cZ Tryz.prog call L0 cdL S σ) L0 S σ=some (fl0,S0,σ0):=by
  simp only[cZ]at h;cases hx:aFw (fun S σ=>cZ Tryz.prog call L0 cdL S σ) L0 S σ with
  |none=>rw[hx]at h;cases h
  |some r=>exact⟨r.1,r.2.1,r.2.2,rfl⟩
 have hend:fl0= .exit 5→fl= .normal∧S'=S0∧σ'=σ0:=by
  rintro rfl;simp only[cZ]at h;rw[hit]at h;simp only[cM,decide_true,cdt,ojE,pjE]at h;exact⟨h.1.symm,h.2.1.symm,h.2.2.symm⟩
 refine wpIn_seq ?_;refine wpIn_region_lit ?_;refine mH rfl (iU rfl (by rw[cP,q1];exact load_sl (Z.kept.oth _ _ hA).1)) ?_
 simp only[eO];refine mH rfl (len_run rfl (by rw[cP,bK (by omega)]) _) ?_
 simp only[eO];refine mH rfl (mR rfl _) ?_;simp only[eO];refine wpListIn_nil ?_;simp only[Exit.then];refine wpIn_block ?_;refine wpIn_loop_rounds L0 ?_;have e127:(Code.roundsIn Fence.wide 2 Tryz.prog aGW)=(Code.roundsIn Fence.wide 2 Tryz.prog aGW):=rfl;refine loop_ok (bA:=bA) hcall hts hL hL0 hU L0 0 S σ W μ _ hit g70 r70 g71 r71 g72 g73 g5 r5 Z ⟨rfl,by simp[fr,z0],?_,?_,?_,?_,?_,?_⟩ ?_
 ·rw[fM,aI (by omega),aI (by omega),aI (by omega)];exact q0
 ·rw[fM,aI (by omega),aI (by omega),aI (by omega)];exact q1
 ·rw[fM,aI (by omega),aI (by omega),aI (by omega)];exact q2
 ·rw[fM,aI (by omega),aI (by omega),bK (by omega)]
 ·rw[fM,aI (by omega),bK (by simp[z0])]
 ·rw[fM,bK (by simp[z0])];rfl
 ·intro W' μ' a' Z' E' hn hfl hs hd;obtain⟨r1,rfl,rfl⟩:=hend hfl;simp only[Exit.inBlock,if_true];refine⟨hd,_,results_none rfl _ _ _,⟨_,rfl⟩,r1,hs,μ',Z',E',hn⟩
end Go.Rf
