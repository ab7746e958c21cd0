import Derived.Test.YtojjcdpfjabepaaGreatDoorKg
import Derived.IntWalk
set_option linter.unusedVariables false
set_option linter.unusedSimpArgs false
set_option linter.constructorNameAsVariable false
namespace Go.AI
section
variable{w0:W0}{P:Program}{call:FuncId→Array Value→St→Option (Value×St)}
theorem Kept.trans{a b c:World}(h:Kept a b)(k:Kept b c):Kept a c:=by
 refine⟨k.os.trans h.os,k.output.trans h.output,Nat.le_trans h.size k.size,fun i hi=>?_⟩
 have:=h.size;rw[k.old i (by omega),h.old i hi]
theorem nL{w:World}{b:Nat}{o:Obj}(h:w.heap[b]?=some o):b<w.heap.size:=by
 by_cases hb:b<w.heap.size
 ·exact hb
 ·rw[Array.getElem?_eq_none (by omega)]at h;cases h
theorem Sim.keep{μ:Mp}{σ:St}{w w':World}(S:Sim w0 P μ σ w)(K:Kept w w'):Sim w0 P μ σ w':=by
 refine⟨⟨S.kept.toKept.trans K,fun k o hk=>⟨by have h1:=(S.kept.oth k o hk).1;rw[K.old k (nL h1)];exact h1,(S.kept.oth k o hk).2⟩,fun id p h=>Nat.lt_of_lt_of_le (S.kept.bnd id p h) K.size⟩,S.dom,S.glob,fun id p cs m h1 h2 h3=>?_,fun id p es h1 h2=>?_,S.off,S.tip,S.maps,S.vers,S.lim⟩
 ·obtain⟨⟨C,t,fr,r1,r2,r3⟩,r4,r5,r6,r7⟩:=S.row id p cs m h1 h2 h3;exact⟨⟨C,t,fr,by rw[K.old _ (nL r1)];exact r1,r2,r3⟩,r4,r5,r6,fun hw C1 t1 fr1 e1=>r7 hw C1 t1 fr1 (by rw[←K.old _ (nL r1)];exact e1)⟩
 ·obtain⟨⟨ES,clock,r1,r2⟩,r3⟩:=S.map id p es h1 h2;exact⟨⟨ES,clock,by rw[K.old _ (nL r1)];exact r1,r2⟩,r3⟩
structure Orc where
 n:Nat
 s:Int→Int→Option (List UInt8)
 m:Nat
 w:Option (Nat×Nat)
inductive OV where
 |s (l:List UInt8)
 |t
def OV.v:OV→Value
 | .s l=> .string ⟨l.toArray⟩
 | .t=> .bool true
def orA(O:Orc)(f:FuncId)(args:Array Value):Option Value:=
 bif Nat.beq f O.n then(match args.toList with
 |[.int .i64 a,.int .i64 b]=>((O.s a b).map OV.s).map OV.v
 |_=>none)else bif Nat.beq f O.m then(match args.toList with
 |[]=>some (.bool true)
 |_=>none)else none
def opM:Mta:={bD 1 with wr:=false}
def orW(O:Orc)(f:FuncId)(args:Array Value)(σ:St):Option (Value×St):=match O.w with
 |none=>none
 |some (g,k)=>bif Nat.beq f g then(match args.toList with
  |[.int .u32 n]=>bif decide (n=0)then some (.slice (some ⟨σ.next,0,none⟩) k (k+1),({σ with next:=σ.next+1}:St).put σ.next (.cells [] opM))else none
  |_=>none)else none
theorem Sim.opq{μ:Mp}{σ:St}{w:World}(S:Sim w0 P μ σ w){p:Place}{C:Array Value}{t:TypeId}{fr:Nat×Nat}(hb:w.heap[p.b]?=some (.cells C t fr))(ho: ∀k o,w0.O k=some o→p.b≠k)(hz:p.z=1):
    Sim w0 P (upd μ σ.next p) (({σ with next:=σ.next+1}:St).put σ.next (.cells [] opM)) w:=by
 have hid:μ σ.next=none:=S.dom _ (nlR _)
 have hsplit: ∀{k q},upd μ σ.next p k=some q→(k=σ.next∧q=p)∨(k≠σ.next∧μ k=some q):=by
  intro k q hk;by_cases e:k=σ.next
  ·subst e;rw[fC]at hk;cases hk;exact .inl ⟨rfl,rfl⟩
  ·rw[eU e]at hk;exact .inr ⟨e,hk⟩
 have hnew:(({σ with next:=σ.next+1}:St).put σ.next (.cells [] opM)).get σ.next=some (.cells [] opM):=by rw[St.get_put,if_pos rfl]
 have hold: ∀{k},k≠σ.next→(({σ with next:=σ.next+1}:St).put σ.next (.cells [] opM)).get k=σ.get k:=by
  intro k hk;rw[St.get_put,if_neg hk];rfl
 have hgood: ∀m,(({σ with next:=σ.next+1}:St).put σ.next (.cells [] opM)).good m=σ.good m:=fun _=>rfl
 have hext:=fZ p hid;have isn: ∀{cs m},(({σ with next:=σ.next+1}:St).put σ.next (.cells [] opM)).get σ.next=some (.cells cs m)→cs=[]∧m=opM:=by
  intro cs m h;rw[hnew]at h;cases h;exact⟨rfl,rfl⟩
 refine⟨S.kept.upd ho (nL hb),fun id hi=>?_,fun g hg=>?_,?_,?_,?_,?_,?_,?_,?_⟩
 ·have:σ.next+1≤id:=hi
  rw[eU (by omega)];exact S.dom id (by omega)
 ·obtain⟨q,h1,h2⟩:=S.glob g hg;exact⟨q,hext _ _ h1,h2⟩
 ·intro k q cs m hq hg hm;rcases hsplit hq with⟨rfl,rfl⟩|⟨hk,hq'⟩
  ·obtain⟨rfl,rfl⟩:=isn hg;exact⟨⟨C,t,fr,hb,(fun i v h=>by simp at h),(fun h=>by cases h)⟩,(fun h=>by cases h),(fun h=>by cases h),hz,fun h=>by cases h⟩
  ·rw[hold hk]at hg;rw[hgood]at hm;obtain⟨⟨C',t',fr',r1,r2,r3⟩,r4,r5,r6,r7⟩:=S.row k q cs m hq' hg hm;exact⟨⟨C',t',fr',r1,fun i v h=>by obtain⟨u,h1,h2⟩:=r2 i v h;exact⟨u,h1,h2.mono' hext⟩,r3⟩,r4,r5,r6,r7⟩
 ·intro k q es hq hg;rcases hsplit hq with⟨rfl,rfl⟩|⟨hk,hq'⟩
  ·rw[hnew]at hg;cases hg
  ·rw[hold hk]at hg;obtain⟨⟨ES,cl,r1,r2,r3⟩,r4⟩:=S.map k q es hq' hg;exact⟨⟨ES,cl,r1,r2.mono' hext,r3.mono' hext⟩,r4⟩
 ·intro i j q r cs ds m n hij hq hr hg hg' hm hn hw hs;rcases hsplit hq with⟨rfl,rfl⟩|⟨hi,hq'⟩
  ·obtain⟨rfl,rfl⟩:=isn hg;cases hw
  ·rcases hsplit hr with⟨rfl,rfl⟩|⟨hj,hr'⟩
   ·obtain⟨rfl,rfl⟩:=isn hg';exact fun _ x _ _ h3 h4=>by simp at h4;omega
   ·rw[hold hi]at hg;rw[hold hj]at hg';exact S.off i j q r cs ds m n hij hq' hr' hg hg' hm hn hw hs
 ·intro i j q r cs ds m n hij hq hr hg hg' hm hn hw;rcases hsplit hq with⟨rfl,rfl⟩|⟨hi,hq'⟩
  ·obtain⟨rfl,rfl⟩:=isn hg;cases hw
  ·rcases hsplit hr with⟨rfl,rfl⟩|⟨hj,hr'⟩
   ·obtain⟨rfl,rfl⟩:=isn hg';exact⟨fun _ x _ _ h3 h4=>by simp at h4;omega,fun h=>by cases h⟩
   ·rw[hold hi]at hg;rw[hold hj]at hg';exact S.tip i j q r cs ds m n hij hq' hr' hg hg' hm hn hw
 ·intro i j q r es fs hij hq hr hg hg';rcases hsplit hq with⟨rfl,rfl⟩|⟨hi,hq'⟩
  ·rw[hnew]at hg;cases hg
  ·rcases hsplit hr with⟨rfl,rfl⟩|⟨hj,hr'⟩
   ·rw[hnew]at hg';cases hg'
   ·rw[hold hi]at hg;rw[hold hj]at hg';exact S.maps i j q r es fs hij hq' hr' hg hg'
 ·intro k cs m g v hg hgr;by_cases hk:k=σ.next
  ·subst hk;obtain⟨rfl,rfl⟩:=isn hg;cases hgr
  ·rw[hold hk]at hg;exact S.vers k cs m g v hg hgr
 ·intro i j q r cs ds m n hij hq hr hg hg' hm hn hw;rcases hsplit hq with⟨rfl,rfl⟩|⟨hi,hq'⟩
  ·obtain⟨rfl,rfl⟩:=isn hg;cases hw
  ·rcases hsplit hr with⟨rfl,rfl⟩|⟨hj,hr'⟩
   ·obtain⟨rfl,rfl⟩:=isn hg';exact fun _ x _ _ h3 h4=>by simp at h4;omega
   ·rw[hold hi]at hg;rw[hold hj]at hg';exact S.lim i j q r cs ds m n hij hq' hr' hg hg' hm hn hw
def aCp(P:Program)(f:FuncId)(n:Nat):Bool:=match P.funcs[f]? with
 |some fn=>Nat.beq (fn.params.size+fn.nfree) n
 |none=>false
def bT(P:Program)(fn:Func):Option (Fl×Slots×St)→Option (Value×St)
 |some (.exit _,_,_)=>none
 |some (_,S,σ')=>(cG P S σ' fn.results.toList).map fun vs=>(rU vs,σ')
 |none=>none
def rR(P C:Program)(O:Orc)(L:Nat):Nat→FuncId→Array Value→St→Option (Value×St)
 |0,_,_,_=>none
 |n+1,f,args,σ=>match orA O f args with
  |some v=>some (v,σ)
  |none=>match orW O f args σ with
   |some x=>some x
   |none=>bif aCp P f args.size then(match C.funcs[f]? with
    |some fn=>match fn.body with
     |some c=>bT P fn (aS P (rR P C O L n) L c (gF args.toList 0 .nil) σ)
     |none=>none
    |none=>none)else none
def aJq(w0:W0)(P:Program)(f:FuncId)(fn:Func)(c:Code):Prop:=
 (∃ fn c, P.funcs[f]? = some fn ∧ fn.body = some c ∧ (fn.name == "runtime.NumGoroutine") = false) ∧
 ∀(call:FuncId→Array Value→St→Option (Value×St)) (L:Nat),(∀w1:W0,w1.toWorld=w0.toWorld→CallOK w1 P call)→∀(args args':Array Value) (σ σ':St) (w:World) (μ:Mp) (r:Value),
  bT P fn (aS P call L c (gF args.toList 0 .nil) σ)=some (r,σ')→Sim w0 P μ σ w→VRL μ args.toList args'.toList→aCp P f args.size=true→
  Calls P f args' w fun e w'=> ∃μ' r',e= .returned r'∧VR μ' r r'∧Sim w0 P μ' σ' w'∧Ext σ.next μ μ'∧σ.next≤σ'.next
def kV(w0:W0)(P C:Program):Prop:= ∀f fn c,C.funcs[f]?=some fn→fn.body=some c→(P.funcs[f]?=some fn∧dJ P fn=true)∨aJq w0 P f fn c
def aFD(P:Program)(w0:World)(O:Orc):Prop:=(∀a b s,O.s a b=some s→∀w,Kept w0 w→
 (∃ fn c, P.funcs[O.n]? = some fn ∧ fn.body = some c ∧ (fn.name == "runtime.NumGoroutine") = false) ∧ Calls P O.n #[.int .i64 a, .int .i64 b] w fun e w' => e = .returned (.string ⟨s.toArray⟩) ∧ Kept w w') ∧
 (O.m = O.n ∨ ∀ w, Kept w0 w → (∃ fn c, P.funcs[O.m]? = some fn ∧ fn.body = some c ∧ (fn.name == "runtime.NumGoroutine") = false) ∧ Calls P O.m #[] w fun e w' => e = .returned (.bool true) ∧ Kept w w') ∧
 ∀ g k, O.w = some (g, k) → ∀ w, Kept w0 w → (∃ fn c, P.funcs[g]? = some fn ∧ fn.body = some c ∧ (fn.name == "runtime.NumGoroutine") = false) ∧ Calls P g #[.int .u32 0] w fun e w' =>
  (∃b off cap C t fr,e= .returned (.slice (some ⟨b,off,none⟩) k cap)∧k≤cap∧w'.heap[b]?=some (.cells C t fr)∧(b<P.globals.size∨w.heap.size≤b))∧Kept w w'
theorem qC(hfol:P.toTables.follows .mixedOrders=true){L:Nat}{f:FuncId}{fn:Func}{c:Code}(hf:P.funcs[f]?=some fn)(hb:fn.body=some c)(hfn:dJ P fn=true)(ih1:CallOK w0 P call)
    {args args':Array Value} {σ σ':St} {w:World} {μ:Mp} {r:Value} (h:bT P fn (aS P call L c (gF args.toList 0 .nil) σ)=some (r,σ')) (Z:Sim w0 P μ σ w) (hargs:VRL μ args.toList args'.toList):
    (∃ fn c, P.funcs[f]? = some fn ∧ fn.body = some c ∧ (fn.name == "runtime.NumGoroutine") = false) ∧
    Calls P f args' w fun e w'=> ∃μ' r',e= .returned r'∧VR μ' r r'∧Sim w0 P μ' σ' w'∧Ext σ.next μ μ'∧σ.next≤σ'.next:=by
 simp only[dJ,hb,bjE,Bool.not_eq_true']at hfn;refine⟨⟨fn,c,hf,hb,hfn.2⟩,?_⟩;cases hx:aS P call L c (gF args.toList 0 .nil) σ with
 |none=>simp[hx,bT]at h
 |some x=>
  obtain⟨fl,S',σ1⟩:=x;have A0:AR μ (gF args.toList 0 .nil) fn.ntmps {tmps:=args'++Array.replicate (fn.ntmps-args'.size) undef,defers:=[]}:=by
   have hsz:=hargs.size;refine⟨by simp;omega,rfl,fun i=>?_⟩
   rw[pS];simp only[Nat.zero_le,true_and,Nat.zero_add,Nat.sub_zero,Array.length_toList];rw[Array.getD_eq_getD_getElem?];by_cases hi:i<args.size
   ·rw[if_pos hi,Array.getElem?_append_left (by omega)]
    have h1:args.toList[i]?=some args[i]:=by simp[hi]
    obtain⟨u,hu,hr⟩:=hargs.get h1;have hu':args'[i]?=some u:=by simpa using hu
    rw[h1,hu'];exact hr
   ·rw[if_neg hi,Array.getElem?_append_right (by omega)]
    have:((Array.replicate (fn.ntmps-args'.size) undef)[i-args'.size]?).getD undef=undef:=by
     by_cases h2:i-args'.size<fn.ntmps-args'.size
     ·simp[h2]
     ·simp[h2]
    rw[this];exact .undef
  have fin: ∀(R:Exit),R= .normal∨R= .ret→(cG P S' σ1 fn.results.toList).map (fun vs=>(rU vs,σ1))=some (r,σ')→
        Post w0 P μ σ.next fn.ntmps S' σ1 (bodyPost P fn (fun e w'=> ∃μ' r',e= .returned r'∧VR μ' r r'∧Sim w0 P μ' σ' w'∧Ext σ.next μ μ'∧σ.next≤σ'.next) R):=by
   intro R hR hres a' w' μ' A' Z' E hl;rw[mjE]at hres;obtain⟨vs,hvs,he⟩:=hres;cases he;obtain⟨v',h1,h2⟩:=aIq A' Z' hvs;rcases hR with rfl|rfl
   ·exact⟨A'.defers,v',h1,μ',v',rfl,h2,Z',E,hl⟩
   ·exact⟨A'.defers,v',h1,μ',v',rfl,h2,Z',E,hl⟩
  refine calls_of_wp hf hb ?_;cases fl with
  |exit k=>simp[hx,bT]at h
  |normal=>simp only[hx,bT]at h;exact wF ih1 hfol L fn.ntmps c _ σ .normal S' σ1 _ w μ _ hx hfn.1 A0 Z (fin .normal (.inl rfl) h)
  |ret=>simp only[hx,bT]at h;exact wF ih1 hfol L fn.ntmps c _ σ .ret S' σ1 _ w μ _ hx hfn.1 A0 Z (fin .ret (.inr rfl) h)
theorem pV{C:Program}(hfol:P.toTables.follows .mixedOrders=true){W:World}(hC: ∀w0:W0,w0.toWorld=W→kV w0 P C){O:Orc}(hO:aFD P W O)(L:Nat): ∀n (w0:W0),w0.toWorld=W→CallOK w0 P (rR P C O L n):=by
 intro n;induction n with
 |zero=>intro w0 hw f args args' σ σ' w μ r h;simp[rR]at h
 |succ n ih=>
  intro w0 hw;have hC1:=hC w0 hw;have ih1:=ih w0 hw;subst hw;intro f args args' σ σ' w μ r h Z hargs;simp only[rR]at h;split at h
  ·rename_i v hv;simp only[ojE,pjE]at h;obtain⟨rfl,rfl⟩:=h;unfold orA at hv;cases hf:Nat.beq f O.n with
   |false=>
    rw[hf,cdf]at hv;cases hm:Nat.beq f O.m with
    |false=>rw[hm]at hv;cases hv
    |true=>
    rw[hm,cdt]at hv;have hfm:=nqE hm;subst hfm;split at hv
    ·rename_i he;cases hv;rw[he]at hargs;have q3:args'= #[]:=by rw[←Array.toArray_toList (xs:=args'),hargs.nil_inv]
     subst q3;rcases hO.2.1 with h7|h7
     ·rw[h7,Nat.beq_refl]at hf;cases hf
     ·obtain⟨g1,g2⟩:=h7 w Z.kept.toKept;exact⟨g1,g2.mono fun e w' ⟨h5,h6⟩=>⟨μ,_,h5,.same _ rfl,Z.keep h6,.refl _ _,nlR _⟩⟩
    ·cases hv
   |true=>
   rw[hf,cdt]at hv;rw[nqE hf];split at hv
   ·rename_i a b he;rw[mjE]at hv;obtain⟨x,hx,rfl⟩:=hv;rw[mjE]at hx;obtain⟨s,hs,rfl⟩:=hx;rw[he]at hargs;obtain⟨u,us,e1,r1,h3⟩:=hargs.cons_inv;obtain⟨u2,us2,rfl,r2,h4⟩:=h3.cons_inv;rw[h4.nil_inv]at e1;have q1:u= .int .i64 a:=by cases r1;rfl
    have q2:u2= .int .i64 b:=by cases r2;rfl
    subst q1;subst q2;have q3:args'= #[.int .i64 a,.int .i64 b]:=by rw[←Array.toArray_toList (xs:=args'),e1]
    subst q3;obtain⟨g1,g2⟩:=hO.1 a b s hs w Z.kept.toKept;exact⟨g1,g2.mono fun e w' ⟨h5,h6⟩=>⟨μ,_,h5,.same _ rfl,Z.keep h6,.refl _ _,nlR _⟩⟩
   ·cases hv
  split at h
  ·rename_i x hx;simp only[ojE]at h;subst h;unfold orW at hx;split at hx
   ·cases hx
   ·rename_i g k hg;cases hfg:Nat.beq f g with
    |false=>rw[hfg]at hx;cases hx
    |true=>
     rw[hfg,cdt]at hx;rw[nqE hfg];split at hx
     ·rename_i n0 he;cases hn0:decide (n0=(0:Int))with
      |false=>rw[hn0]at hx;cases hx
      |true=>
      rw[hn0]at hx;simp only[cdt,ojE,pjE]at hx;obtain⟨rfl,rfl⟩:=hx;rw[of_decide_eq_true hn0]at he;rw[he]at hargs;obtain⟨u,us,e1,r1,h3⟩:=hargs.cons_inv;rw[h3.nil_inv]at e1;have q1:u= .int .u32 0:=by cases r1;rfl
      subst q1;have q3:args'= #[.int .u32 0]:=by rw[←Array.toArray_toList (xs:=args'),e1]
      subst q3;obtain⟨g1,g2⟩:=hO.2.2 g k hg w Z.kept.toKept;refine⟨g1,g2.mono ?_⟩;rintro e w' ⟨⟨b,off,cap,C,t,fr,rfl,hk,hb,hbg⟩,h6⟩;have Z':=Z.keep h6;have hO': ∀j o,w0.O j=some o→(⟨b,off,off+cap,1⟩:Place).b≠j:=fun j o hj=>by
       show b≠j;have h7:=Z.kept.oth j o hj;rcases hbg with h8|h8
       ·obtain⟨q,h9,h10,_⟩:=Z.glob b h8;have:=h7.2 b q h9;omega
       ·have:=nL h7.1;omega
      refine⟨_,.slice (some ⟨b,off,none⟩) k cap,rfl,?_,Z'.opq (p:=⟨b,off,off+cap,1⟩) hb hO' rfl,⟨fZ _ (Z.dom _ (nlR _)),fun id hi=>eU (by omega)⟩,Nat.le_succ _⟩
      exact .slc σ.next 0 k (k+1) cap ⟨b,off,off+cap,1⟩ (fC _ _ _) (fun e=>by omega) hk (by simp)
     ·cases hx
  cases har:aCp P f args.size with
  |false=>rw[har]at h;cases h
  |true=>
  rw[har,cdt]at h;split at h<;>try cases h
  rename_i fn hf;split at h<;>try cases h
  rename_i c hb;rcases hC1 f fn c hf hb with⟨hf,hfn⟩|⟨g1,g2⟩
  rotate_left
  ·exact⟨g1,g2 _ L ih _ _ _ _ _ _ _ h Z hargs har⟩
  exact qC hfol hf hb hfn ih1 h Z hargs
end
end Go.AI
namespace Go.AI
section
variable{P:Program}{ops:Array Oper}{base i:Nat}{l:List Oper}{S:Slots}{σ:St}{Q:Slots→St→Prop}{d:Option Tmp}{ty:TypeId}{pos:String}{af:Array Edge}
def gQ(P:Program)(op:BinOp)(t:TypeId)(x y:Operand)(a b:Value):Option Value:=
 bif aH a&&aH b then aL P (do eqGuard op t x y a b;binOp op t a b)
 else match P.underlying t with
  |some (.slice _)=>anil op a b
  |_=>none
def aconv(P:Program)(s t:TypeId)(a:Value):Option Value:=bif aB a then aL P (convert s t a)else none
end
end Go.AI
namespace Go.AI
section
variable{P:Program}{S:Slots}{σ:St}{Q:Fl→Slots→St→Prop}
section
variable{t:TypeId}{x y:Operand}{k:IntKind}{a b:Int}
theorem n_lss:gQ P .lss t x y (.int k a) (.int k b)=some (.bool (decide (a<b))):=by cases k<;>rfl
theorem n_leq:gQ P .leq t x y (.int k a) (.int k b)=some (.bool (decide (a≤b))):=by cases k<;>rfl
theorem n_gtr:gQ P .gtr t x y (.int k a) (.int k b)=some (.bool (decide (b<a))):=by cases k<;>rfl
theorem n_geq:gQ P .geq t x y (.int k a) (.int k b)=some (.bool (decide (b≤a))):=by cases k<;>rfl
theorem n_eql:gQ P .eql t x y (.int k a) (.int k b)=some (.bool (a==b)):=by cases k<;>rfl
theorem n_neq:gQ P .neq t x y (.int k a) (.int k b)=some (.bool (a !=b)):=by cases k<;>rfl
theorem n_add:gQ P .add t x y (.int k a) (.int k b)=some (.int k (k.wrap (a+b))):=by cases k<;>rfl
theorem n_sub:gQ P .sub t x y (.int k a) (.int k b)=some (.int k (k.wrap (a-b))):=by cases k<;>rfl
theorem n_mul:gQ P .mul t x y (.int k a) (.int k b)=some (.int k (k.wrap (a*b))):=by cases k<;>rfl
theorem n_quo(h:b≠0):gQ P .quo t x y (.int k a) (.int k b)=some (.int k (k.wrap (a.tdiv b))):=by
 cases k<;>simp[gQ,aH,aB,aL,aA,eqGuard,binOp,Op.intDiv,h,aC]
theorem n_rem(h:b≠0):gQ P .rem t x y (.int k a) (.int k b)=some (.int k (a.tmod b)):=by
 cases k<;>simp[gQ,aH,aB,aL,aA,eqGuard,binOp,Op.intDiv,h,aC]
theorem n_shl{k':IntKind}(h:0≤b):gQ P .shl t x y (.int k a) (.int k' b)=some (.int k (k.wrap (a*2^(min b.toNat k.bits)))):=by
 have: ¬b<0:=by omega
 cases k<;>simp[gQ,aH,aB,aL,aA,eqGuard,binOp,Op.shift,this,aC]
theorem n_shr{k':IntKind}(h:0≤b):gQ P .shr t x y (.int k a) (.int k' b)=some (.int k (a.fdiv (2^(min b.toNat k.bits)))):=by
 have: ¬b<0:=by omega
 cases k<;>simp[gQ,aH,aB,aL,aA,eqGuard,binOp,Op.shift,this,aC]
theorem n_and:gQ P .and t x y (.int k a) (.int k b)=some (.int k (k.wrap ((BitVec.ofInt k.bits a&&&BitVec.ofInt k.bits b).toNat:Int))):=by cases k<;>rfl
theorem n_or:gQ P .or t x y (.int k a) (.int k b)=some (.int k (k.wrap ((BitVec.ofInt k.bits a|||BitVec.ofInt k.bits b).toNat:Int))):=by cases k<;>rfl
theorem n_xor:gQ P .xor t x y (.int k a) (.int k b)=some (.int k (k.wrap ((BitVec.ofInt k.bits a^^^BitVec.ofInt k.bits b).toNat:Int))):=by cases k<;>rfl
theorem n_andNot:gQ P .andNot t x y (.int k a) (.int k b)=some (.int k (k.wrap ((BitVec.ofInt k.bits a&&& ~~~ BitVec.ofInt k.bits b).toNat:Int))):=by cases k<;>rfl
theorem aHH{c e:Bool}(ht:P.underlying t=some .bool):aO P (Op.equal t (.bool c) (.bool e))=some (c==e):=by
 unfold Op.equal;rw[show Op.maxDepth=Nat.succ 9999 from rfl,Op.equalIn.eq_2,aA,aD,ht];rfl
theorem n_eqb{c e:Bool}(ht:P.underlying t=some .bool):gQ P .eql t x y (.bool c) (.bool e)=some (.bool (c==e)):=by
 simp only[gQ,aH,aB,Bool.and_self,cdt,aL,aA,eqGuard,bnT,Bool.false_eq_true,if_false,aC,obS,binOp,aHH ht]
theorem n_neb{c e:Bool}(ht:P.underlying t=some .bool):gQ P .neq t x y (.bool c) (.bool e)=some (.bool (!(c==e))):=by
 simp only[gQ,aH,aB,Bool.and_self,cdt,aL,aA,eqGuard,bnT,Bool.false_eq_true,if_false,aC,obS,binOp,aHH ht]
theorem n_conv{s:TypeId}{d:TypeDesc}{k':IntKind}(hs:P.underlying s=some d)(ht:P.underlying t=some (.int k')):aconv P s t (.int k a)=some (.int k' (k'.wrap a)):=by
 unfold aconv;simp only[aB,cdt,aL,convert,aA,aD,hs,ht,obS,Conv.intToInt,aC,aH]
end
end
end Go.AI
namespace Go.AI
mutual
theorem fE: ∀(a:Value),dE a a=true
 | .bool a| .int j a| .float j a| .complex j a c| .pointer a| .slice a l c| .map a| .chan a| .nilFunc| .nilIface=>by simp[dE]
 | .string a=>by simp[dE]
 | .func f ⟨xs⟩ ⟨ys⟩=>by simp[dE,fF xs,fF ys]
 | .iface t v=>by simp[dE,fE v]
 | .agg ⟨xs⟩=>by simp[dE,fF xs]
 | .tuple ⟨xs⟩=>by simp[dE,fF xs]
theorem fF: ∀(a:List Value),mZ a a=true
 |[]=>by simp[mZ]
 |x::xs=>by simp[mZ,fE x,fF xs]
end
theorem sW: ∀(a:List (Value×Value)),uT a a=true
 |[]=>by simp[uT]
 |x::xs=>by simp[uT,fE,sW xs]
theorem uS(m:Mta):lY m m=true:=by simp[lY,cJ]
theorem oO(a:AObj):jH a a=true:=by
 cases a with
 |cells cs m=>simp[jH,fF,uS]
 |map es=>simp[jH,sW]
end Go.AI
namespace Go.PI
open Go.AI
def Rz(σ σ':St):Prop:= ∀a cs m,σ.get a=some (.cells cs m)→∃cs' b,σ'.get a=some (.cells cs' {m with tip:=b})
def g00:Ga:=fun _=>none
section
variable{P:Program}{ν ν':Nu}{γ γ1 γ':Ga}{σ σ':St}{S:PS}{A:Slots}{base:Nat}
theorem Qt.put{id:Nat}{o:AObj}(hf:σ.get id=none):Qt σ (σ.put id o):=
 ⟨rfl,fun a ob h=> .inl (by rw[aG,if_neg (fun e=>by rw[e,hf]at h;cases h)];exact h)⟩
theorem Qt.row(q:Qt σ σ'){id:Nat}{cs:List Value}{m:Mta}(h:σ.row id=some (cs,m)): ∃b,σ'.row id=some (cs,{m with tip:=b}):=by
 obtain⟨h1,h2⟩:=bO h;rcases q.get id _ h1 with e|⟨cs',m',b,e1,_,e2⟩
 ·exact⟨m.tip,row_of_get e (by rw[gM q.vers];exact h2)⟩
 ·simp only[AObj.cells.injEq]at e1;obtain⟨rfl,rfl⟩:=e1;exact⟨b,row_of_get e2 (by rw[gM q.vers];exact h2)⟩
theorem aIr{t:TypeId}{w u:Value}(hrow: ∀id cs m,σ.row id=some (cs,m)→∃m',σ'.row id=some (cs,m'))(h:fD P σ t w=some u):fD P σ' t w=some u:=by
 unfold fD at h⊢;split at h
 ·split at h
  ·rename_i cs m hr;obtain⟨m',hr'⟩:=hrow _ _ _ hr;simp only[hr'];exact h
  ·cases h
 ·cases h
theorem aFv{t:TypeId}{w u:Value}{lo hi mx:Option Value}(hrow: ∀id cs m,σ.row id=some (cs,m)→∃cs' m',σ'.row id=some (cs',m')∧m'.z=m.z)
    (hex: ∀id off n c,w= .slice (some ⟨id,off,none⟩) n c→∃cs m,σ.row id=some (cs,m)) (h:oW P σ t w lo hi mx=some u):oW P σ' t w lo hi mx=some u:=by
 unfold oW at h⊢;split at h
 ·exact h
 ·rename_i e he;split at h
  ·rename_i a len c;split at h
   ·rename_i z l hh m e1 e2 e3 e4;cases hc:decide (0≤l.getD 0)&&decide (l.getD 0≤hh.getD (len:Int))&&decide (hh.getD (len:Int)≤(len:Int))with
    |false=>simp only[hc,cdf]at h;cases h
    |true=>
     simp only[hc,cdt]at h⊢;split at h
     ·exact h
     ·rename_i id off;obtain⟨cs,mm,hr⟩:=hex id off len c rfl;obtain⟨cs',m',hr',hz'⟩:=hrow _ _ _ hr;have:aAF σ' id z=aAF σ id z:=by simp only[aAF,hr,hr',hz']
      rw[this];exact h
     ·exact h
   ·cases h
  ·cases h
 ·cases h
theorem aload_qt(q:Qt σ σ'){ρ:Operand→Value}{o:Oper}{t:TypeId}{a:Operand}(ho:o.op= .load t a){v:Value}(h:gO P σ ρ o=some v):gO P σ' ρ o=some v:=by
 simp only[gO,ho]at h⊢;refine aIr (fun id cs m hr=>?_) h
 obtain⟨b,hb⟩:=q.row hr;exact⟨_,hb⟩
theorem wH(q:Qt σ σ'){r:jC}(hl:r.ob=none→∃t a,r.o.op= .load t a)(hb: ∀ob,r.ob=some ob→(∀a,σ.get a=some ob→σ'.get a=some ob))(h:check P base σ r=true):check P base σ' r=true:=by
 unfold check at h⊢;split at h
 ·rename_i e;split at h
  ·rename_i v hv;obtain⟨t,a,ho⟩:=hl e;simp only[aload_qt q ho hv];exact h
  ·cases h
 ·rename_i ob e;split at h
  ·rename_i ob' hg;have:=sU h;subst this;simp only[hb ob' e _ hg];exact h
  ·cases h
def Stab(P:Program)(base:Nat)(ν:Nu)(σ:St)(r:jC):Prop:= ∀ν' σ',Keep ν g00 σ σ'→Mon σ ν ν'→Rz σ σ'→check P base σ' r=true
theorem Stab.adv{p p':PSt}{r:jC}(h:Stab P base ν σ r)(a:Adv ν γ p σ ν' γ' p' σ'):Stab P base ν' σ' r:=by
 intro ν'' σ'' k m z;refine h ν'' σ'' (Keep.trans (γ:=g00) (γ':=g00) (a.keep.weak fun _ h=>by cases h) a.mon k (.refl σ _)) (a.mon.trans m a.keep.dom) fun x cs mm hx=>?_
 obtain⟨cs',b,h1⟩:=a.rz x cs mm hx;obtain⟨cs'',b',h2⟩:=z x cs' _ h1;exact⟨cs'',b',h2⟩
def Looks(base:Nat)(r:jC)(a:Nat):Prop:=(r.ob=none∧∃t x off,r.o.op= .load t x∧ev r.S x= .pointer (some ⟨a,off,none⟩))∨(r.ob≠none∧base+r.i=a)
theorem aFs{r:jC}{a:Nat}(hl:Looks base r a)(hg:σ'.get a=σ.get a)(hv:σ'.vers=σ.vers)(h:check P base σ r=true):check P base σ' r=true:=by
 unfold check at h⊢;rcases hl with⟨h1,t,x,off,h2,h3⟩|⟨h1,h2⟩
 ·rw[h1]at h⊢;have hrow:σ'.row a=σ.row a:=by
   simp only[St.row,hg];cases σ.get a with
   |none=>rfl
   |some o=>cases o with
    |cells cs m=>simp only[gM hv]
    |map es=>rfl
  simp only[gO,h2,fD,h3,hrow]at h⊢;exact h
 ·cases hob:r.ob with
  |none=>exact absurd hob h1
  |some ob=>rw[hob]at h;simp only[h2,hg]at h⊢;exact h
structure Trk(P:Program)(base:Nat)(ν:Nu)(p:PSt)(σ:St)(q:fR)(r:jC):Prop where
 cl: ∀id,cid q.o q.a q.v=some id→id∉p.wr→∃a,ν id=some (some a)∧Looks base r a∧check P base σ r=true
 i:q.i=r.i
 ok:q.stale=false→check P base σ r=true
 box:fU q.o=false→∀ob,r.ob=some ob→∃cs,ob= .cells cs boxMeta
 rd:r.ob=none→∃t a,r.o.op= .load t a
 ld: ∀t a,q.o.op= .load t a→r.ob=none∧r.o=q.o∧R ν σ q.a (ev r.S a)∧R ν σ q.v r.v
def Inv(P:Program)(base:Nat)(ν:Nu)(p:PSt)(σ:St)(Pl:List fR)(Rl:List jC):Prop:= ∀r∈Rl,Stab P base ν σ r∨∃q∈Pl,Trk P base ν p σ q r
theorem Trk.adv_cl{p p':PSt}{q:fR}{r:jC}(T:Trk P base ν p σ q r)(a:Adv ν γ p σ ν' γ' p' σ'): ∀id,cid q.o q.a q.v=some id→id∉p'.wr→∃a,ν' id=some (some a)∧Looks base r a∧check P base σ' r=true:=by
 intro id hid hd;obtain⟨b,h1,h2,h3⟩:=T.cl id hid fun hh=>hd (a.dp.wr id hh)
 obtain⟨e1,e2⟩:=a.bx id b h1 hd;exact⟨b,e2,h2,aFs h2 e1 a.keep.vers h3⟩
mutual
theorem aCS: ∀{x y:PV},xQ x y=true→x=y
 | .v a,.v b,h=>by rw[jZ a b h]
 | .str a,.str b,h=>by simp only[xQ,beq_iff_eq]at h;rw[h]
 | .agg xs,.agg ys,h=>by rw[xO h]
 | .v _,.str _,h| .v _,.agg _,h| .v _,.tup _,h| .v _,.nil,h| .v _,.emp,h| .v _,.sl _ _,h| .v _,.pin _ _ _,h| .v _,.ptr _ _,h| .v _,.rs _ _ _,h| .v _,.mp _,h| .v _,.fn _ _ _,h| .v _,.und,h=>by simp[xQ]at h
 | .str _,.v _,h| .str _,.agg _,h| .str _,.tup _,h| .str _,.nil,h| .str _,.emp,h| .str _,.sl _ _,h| .str _,.pin _ _ _,h| .str _,.ptr _ _,h| .str _,.rs _ _ _,h| .str _,.mp _,h| .str _,.fn _ _ _,h| .str _,.und,h=>by simp[xQ]at h
 | .agg _,.v _,h| .agg _,.str _,h| .agg _,.tup _,h| .agg _,.nil,h| .agg _,.emp,h| .agg _,.sl _ _,h| .agg _,.pin _ _ _,h| .agg _,.ptr _ _,h| .agg _,.rs _ _ _,h| .agg _,.mp _,h| .agg _,.fn _ _ _,h| .agg _,.und,h=>by simp[xQ]at h
 | .tup _,_,h| .nil,_,h| .emp,_,h| .sl _ _,_,h| .pin _ _ _,_,h| .ptr _ _,_,h| .rs _ _ _,_,h| .mp _,_,h| .fn _ _ _,_,h| .und,_,h=>by simp[xQ]at h
theorem xO: ∀{xs ys:List PV},xP xs ys=true→xs=ys
 |[],[],_=>rfl
 |x::xs,y::ys,h=>by
  simp only[xP,bjE]at h;rw[aCS h.1,xO h.2]
 |[],_::_,h|_::_,[],h=>by simp[xP]at h
end
theorem Inv.check{p:PSt}{Pl:List fR}{Rl:List jC}(I:Inv P base ν p σ Pl Rl)(M:Mem ν γ p σ)(h:Pl.all (kS P p)=true):Rl.all (AI.check P base σ)=true:=by
 rw[List.all_eq_true]at h⊢;intro r hr;rcases I r hr with hs|⟨q,hq,T⟩
 ·exact hs ν σ (.refl ν g00 σ) (.refl σ ν) fun a cs m h=>⟨cs,m.tip,h⟩
 ·have hc:=h q hq;unfold kS at hc;cases hst:q.stale with
  |false=>exact T.ok hst
  |true=>
   rw[hst]at hc;simp only[bnT,Bool.false_or,Bool.or_eq_true]at hc;rcases hc with hc|hc
   ·cases hcid:cid q.o q.a q.v with
    |none=>rw[hcid]at hc;cases hc
    |some id=>
     rw[hcid]at hc;simp only[clean,Bool.not_eq_true',List.contains_eq_mem,dfN]at hc;obtain⟨_,_,_,h3⟩:=T.cl id hcid hc;exact h3
   split at hc
   ·rename_i t a ho;simp only[bjE]at hc;obtain⟨h1,h2,h3,h4⟩:=T.ld t a ho;cases hv:toV q.v with
    |none=>rw[hv]at hc;simp at hc
    |some w=>
     split at hc
     ·rename_i v' hl;have:=aCS hc.2;subst this;obtain⟨u,hu,hr'⟩:=vB M h3 hl;obtain⟨rfl,_⟩:=aCK hv hr';obtain⟨e,_⟩:=aCK hv h4;unfold AI.check;rw[h1];simp only[gO,h2,ho,hu];rw[e];exact fE _
     ·simp at hc
   ·cases hc
theorem aFz{id:Nat}{c:Call}{s x u:Value}(hf:σ.get id=none)(h1:gG P σ id c s x=some (u,σ')):Qt σ σ':=by
 unfold gG at h1;split at h1
 ·split at h1
  ·rename_i e d _ _;cases hc:fits d x with
   |false=>rw[hc,cdf]at h1;cases h1
   |true=>
    rw[hc,cdt]at h1;split at h1
    ·rename_i info _;split at h1
     ·rename_i n xs z _ _;cases hc2:xs.all one&&Nat.ble 1 info.size&&Nat.ble 1 info.bytes&&Nat.beq z.cells.size info.size&&cV s with
      |false=>rw[hc2,cdf]at h1;cases h1
      |true=>
       rw[hc2,cdt]at h1;cases hc3:Nat.beq n 0 with
       |true=>rw[hc3,cdt]at h1;simp only[ojE,pjE]at h1;obtain⟨_,rfl⟩:=h1;exact .refl σ
       |false=>
        rw[hc3,cdf]at h1;unfold iZ at h1;split at h1
        ·cases hc4:Nat.ble (n*info.bytes) 1073741824 with
         |false=>rw[hc4,cdf]at h1;cases h1
         |true=>rw[hc4,cdt]at h1;simp only[ojE,pjE]at h1;obtain⟨_,rfl⟩:=h1;exact .put hf
        ·rename_i id0 off len k;cases hc4:Nat.ble ((len+n)*info.bytes) 1073741824 with
         |false=>rw[hc4,cdf]at h1;cases h1
         |true=>
          rw[hc4,cdt]at h1;split at h1
          ·rename_i cs m hrow;split at h1
           ·rename_i old _;cases hc5:Nat.beq k len with
            |true=>rw[hc5,cdt]at h1;simp only[ojE,pjE]at h1;obtain⟨_,rfl⟩:=h1;exact .put hf
            |false=>
             rw[hc5,cdf]at h1;cases hc6:m.tip&&m.wr&&Nat.beq m.z info.size&&Nat.beq (off+len*info.size) cs.length&&m.grp.isSome with
             |false=>rw[hc6,cdf]at h1;cases h1
             |true=>
              rw[hc6,cdt]at h1;simp only[ojE,pjE]at h1;obtain⟨_,rfl⟩:=h1;simp only[bjE]at hc6;refine⟨rfl,fun a ob hg=>?_⟩
              rw[aG,if_neg (fun e=>by rw[e,hf]at hg;cases hg),aG]
              by_cases e2:a=id0
              ·subst e2;rw[(bO hrow).1]at hg;simp only[ojE]at hg;subst hg;rw[if_pos rfl];exact .inr ⟨cs,m,false,rfl,hc6.1.1.1.1,rfl⟩
              ·rw[if_neg e2];exact .inl hg
           ·cases h1
          ·cases h1
        ·rename_i b0 o0 s0 l0 k0;cases hc4:Nat.beq s0 1&&Nat.ble (n*info.bytes) 1073741824 with
         |false=>rw[hc4,cdf]at h1;cases h1
         |true=>rw[hc4,cdt]at h1;simp only[ojE,pjE]at h1;obtain⟨_,rfl⟩:=h1;exact .put hf
        ·cases h1
     ·cases h1
    ·cases h1
  ·cases h1
 ·cases h1
theorem Inv.qt{p p':PSt}{Pl:List fR}{Rl:List jC}(I:Inv P base ν p σ Pl Rl)(a:Adv ν γ p σ ν' γ' p' σ')(q:Qt σ σ')(hx: ∀q∈Pl,fU q.o=true→q.stale=false→∀a ob,σ.get a=some ob→σ'.get a=some ob):Inv P base ν' p' σ' Pl Rl:=by
 intro r hr;rcases I r hr with hs|⟨k,hk,T⟩
 ·exact .inl (hs.adv a)
 ·refine .inr ⟨k,hk,T.adv_cl a,T.i,fun hst=>wH q T.rd (fun ob hob b hb=>?_) (T.ok hst),T.box,T.rd,fun t x ho=>?_⟩
  ·cases hm:fU k.o with
   |true=>exact hx k hk hm hst b ob hb
   |false=>
    obtain⟨cs,rfl⟩:=T.box hm ob hob;rcases q.get b _ hb with e|⟨cs',m',b',e1,e2,_⟩
    ·exact e
    ·simp only[AObj.cells.injEq]at e1;obtain⟨rfl,rfl⟩:=e1;cases e2
  ·obtain⟨h1,h2,h3,h4⟩:=T.ld t x ho;exact⟨h1,h2,h3.keep a.keep a.mon,h4.keep a.keep a.mon⟩
theorem Inv.filter{p:PSt}{Pl:List fR}{Rl:List jC}(I:Inv P base ν p σ Pl Rl)(f:Nat→Bool):Inv P base ν p σ (Pl.filter fun q=>f q.i) (Rl.filter fun r=>f r.i):=by
 intro r hr;rw[List.mem_filter]at hr;rcases I r hr.1 with hs|⟨k,hk,T⟩
 ·exact .inl hs
 ·exact .inr ⟨k,List.mem_filter.2 ⟨hk,by rw[T.i];exact hr.2⟩,T⟩
theorem Inv.stale{p p':PSt}{Pl:List fR}{Rl:List jC}(I:Inv P base ν p σ Pl Rl)(a:Adv ν γ p σ ν' γ' p' σ'):Inv P base ν' p' σ' (Pl.map fun q=>{q with stale:=true}) Rl:=by
 intro r hr;rcases I r hr with hs|⟨k,hk,T⟩
 ·exact .inl (hs.adv a)
 ·refine .inr ⟨_,List.mem_map.2 ⟨k,hk,rfl⟩,T.adv_cl a,T.i,fun h=>(by cases h),T.box,T.rd,fun t x ho=>?_⟩
  obtain⟨h1,h2,h3,h4⟩:=T.ld t x ho;exact⟨h1,h2,h3.keep a.keep a.mon,h4.keep a.keep a.mon⟩
theorem Inv.some{p p':PSt}{Pl:List fR}{Rl:List jC}(I:Inv P base ν p σ Pl Rl)(a:Adv ν γ p σ ν' γ' p' σ')(q:Qt σ σ'):Inv P base ν' p' σ' (Pl.map fun q=>bif !fU q.o then q else{q with stale:=true}) Rl:=by
 intro r hr;rcases I r hr with hs|⟨k,hk,T⟩
 ·exact .inl (hs.adv a)
 ·cases hm:fU k.o with
  |true=>
   refine .inr ⟨{k with stale:=true},List.mem_map.2 ⟨k,hk,by simp[hm]⟩,T.adv_cl a,T.i,fun h=>(by cases h),T.box,T.rd,fun t x ho=>?_⟩
   obtain⟨h1,h2,h3,h4⟩:=T.ld t x ho;exact⟨h1,h2,h3.keep a.keep a.mon,h4.keep a.keep a.mon⟩
  |false=>
   refine .inr ⟨k,List.mem_map.2 ⟨k,hk,by simp[hm]⟩,T.adv_cl a,T.i,fun hst=>wH q T.rd (fun ob hob b hb=>?_) (T.ok hst),T.box,T.rd,fun t x ho=>?_⟩
   ·obtain⟨cs,rfl⟩:=T.box hm ob hob;rcases q.get b _ hb with e|⟨cs',m',b',e1,e2,_⟩
    ·exact e
    ·simp only[AObj.cells.injEq]at e1;obtain⟨rfl,rfl⟩:=e1;cases e2
   ·obtain⟨h1,h2,h3,h4⟩:=T.ld t x ho;exact⟨h1,h2,h3.keep a.keep a.mon,h4.keep a.keep a.mon⟩
theorem R.vid{p:PSt}(M:Mem ν γ p σ){v:PV}{u:Value}{id:Nat}(r:R ν σ v u)(hv:PI.vid v=Option.some id)(hg: ∃o,p.get id=Option.some o∧o≠ .gone):
    ∃a,ν id=Option.some (Option.some a)∧((∃off,u= .pointer (Option.some ⟨a,off,none⟩))∨∃off n c,u= .slice (Option.some ⟨a,off,none⟩) n c):=by
 obtain⟨o,ho,hne⟩:=hg;have hν: ∃a,ν id=Option.some (Option.some a):=by
  have:=M.get id o ho;cases o with
  |box cs=>obtain⟨a,us,h1,_⟩:=this;exact⟨a,h1⟩
  |row z ag cs=>obtain⟨a,us,h1,_⟩:=this;exact⟨a,h1⟩
  |map es=>exact this.elim
  |gone=>exact absurd rfl hne
 obtain⟨a,ha⟩:=hν;refine⟨a,ha,?_⟩;cases v<;>simp only[PI.vid,ojE]at hv<;>try cases hv
 ·cases r with
  |ptr _ off' a' h=>rw[ha]at h;simp only[ojE]at h;subst h;exact .inl ⟨_,rfl⟩
  |ptr0 _ off a' h=>rw[ha]at h;cases h
 ·cases r with
  |rs _ off' len' c a' h=>rw[ha]at h;simp only[ojE]at h;subst h;exact .inr ⟨_,_,_,rfl⟩
  |rs0 _ off len c a' h=>rw[ha]at h;cases h
theorem fW{α:Type}{c:Bool}{A:Option α}{x:α}(h:(bif c then A else none)=Option.some x):A=Option.some x:=by cases c with
 |false=>cases h
 |true=>exact h
theorem bif_or{α:Type}{c:Bool}{A B x:α}(h:(bif c then A else B)=x):A=x∨B=x:=by cases c with
 |false=>exact .inr h
 |true=>exact .inl h
theorem aAh{ρ:Operand→Value}{o:Oper}{id a:Nat}{u:Value}{ob:AObj}(h:eA P ρ o id=Option.some (u,ob))(hu:(∃off,u= .pointer (Option.some ⟨a,off,none⟩))∨∃off n c,u= .slice (Option.some ⟨a,off,none⟩) n c):id=a:=by
 have fin: ∀{off n k:Nat},u= .pointer (Option.some ⟨id,off,none⟩)∨u= .slice (Option.some ⟨id,off,none⟩) n k∨u= .map (Option.some id)→id=a:=by
  rintro off n k (rfl|rfl|rfl)<;>rcases hu with⟨o2,e⟩|⟨o2,n2,c2,e⟩<;>first|(cases e;rfl)|cases e
 obtain⟨dst,op,ty,pos,af,g⟩:=o;cases op<;>simp only[eA]at h<;>try cases h
 ·split at h<;>try cases h
  have h:=fW h;simp only[ojE,pjE]at h;exact fin (n:=0) (k:=0) (.inl h.1.symm)
 ·have h:=fW h;simp only[ojE,pjE]at h;exact fin (n:=0) (k:=0) (.inl h.1.symm)
 ·split at h<;>try cases h
  split at h<;>try cases h
  split at h<;>try cases h
  have h:=fW h;simp only[mjE,pjE]at h;obtain⟨cs,_,h2,_⟩:=h;exact fin (.inr (.inl h2.symm))
 ·split at h<;>try cases h
  split at h<;>try cases h
  split at h<;>try cases h
  have h:=fW h;rcases bif_or h with h|h
  ·simp only[ojE,pjE]at h;exact fin (.inr (.inl h.1.symm))
  ·simp only[ojE,pjE]at h;exact fin (.inr (.inl h.1.symm))
theorem Inv.cons{p:PSt}{Pl:List fR}{Rl:List jC}(I:Inv P base ν p σ Pl Rl){r:jC}(h:Stab P base ν σ r):Inv P base ν p σ Pl (r::Rl):=by
 intro x hx;rcases List.mem_cons.1 hx with rfl|hx
 ·exact .inl h
 ·exact I x hx
theorem Inv.cons2{p:PSt}{Pl:List fR}{Rl:List jC}(I:Inv P base ν p σ Pl Rl){r:jC}{q:fR}(h:Trk P base ν p σ q r):Inv P base ν p σ (q::Pl) (r::Rl):=by
 intro x hx;rcases List.mem_cons.1 hx with rfl|hx
 ·exact .inr ⟨q,mhE ..,h⟩
 ·rcases I x hx with h|⟨k,hk,T⟩
  ·exact .inl h
  ·exact .inr ⟨k,mtE _ hk,T⟩
end
end Go.PI
namespace Go.PI
open Go.AI
section
variable{P:Program}{ν ν':Nu}{γ γ1 γ':Ga}{σ σ':St}{S:PS}{A:Slots}{base:Nat}
theorem aA7{o:Oper}(h:aP o= .pure)(S:PS):fI o S=false:=by
 obtain⟨dst,op,ty,pos,af,g⟩:=o;cases op<;>first|rfl|(simp[aP]at h)
theorem aGi{p p1:PSt}{o:Oper}{take own:Bool}{v:PV}{u:Value}{i:Nat}(M:Mem ν γ p σ)(F:FR ν γ σ S A)(ho:o.op.operands.all (aI P)=true)(hp:jL P p S o take=some (v,own,p1))(hn:fI o S=false)
    (hu:gO P σ (ev A) o=some u):Stab P base ν σ ⟨i,o,A,u,none⟩:=by
 intro ν' σ' k m z;have hsame:gO P σ' (ev A) o=some u→check P base σ' ⟨i,o,A,u,none⟩=true:=by
  intro h;simp only[check,h];exact fE u
 apply hsame
 replace ho:=qN ho
 obtain⟨dst,op,ty,pos,af,g⟩:=o;cases op with
 |load t a=>
  simp only[Op.operands,alC,List.all_nil,bnA]at ho;have ra:=aT F ho;simp only[gO]at hu⊢;simp only[jL]at hp;split at hp
  ·rename_i v' hl;simp only[fI]at hn;cases hpa:pev S a<;>rw[hpa]at hl hn ra<;>simp only[gD]at hl<;>(try cases hl)<;>(try cases hn)
   generalize ev A a=w at ra hu⊢;cases ra with
   |pin zz _ _ _ id b rcs mm hs hr hb hh=>
    obtain⟨bb,hf⟩:=hr.keep k m;simp only[fD,hr.1]at hu;simp only[fD,hf.1];exact hu
  ·cases hp
 |slice t x lo hi mx=>
  simp only[gO]at hu⊢;simp only[Op.operands,Array.toList_append,List.all_append,bjE]at ho;have rx:=aT F (P:=P) (x:=x) (by simpa using ho.1.1.1)
  simp only[jL,mjE,pjE]at hp;obtain⟨⟨w,own'⟩,hw,_⟩:=hp;refine aFv (fun id cs mm hr=>?_) (fun id off n c hxx=>?_) hu
  ·obtain⟨h1,h2⟩:=bO hr;obtain⟨cs',b,h3⟩:=z id cs mm h1;exact⟨cs',_,row_of_get h3 (by rw[gM k.vers];exact h2),rfl⟩
  ·rw[hxx]at rx;generalize pev S x=xv at rx hw;cases rx with
   |emp1 _ _ _ rcs m hr=>exact⟨_,_,hr.1⟩
   |sl _ _ _ _ _ rcs m hz hs hr hm hb hh=>exact⟨_,_,hr.1⟩
   |rs id' _ _ _ a hν=>
    obtain⟨o',ho'⟩:=M.live _ _ hν;have:=M.get _ _ ho';cases o' with
    |box cs=>obtain⟨a',us,h1,h2,_⟩:=this;rw[hν]at h1;simp only[ojE]at h1;subst h1;exact⟨_,_,row_of_get h2 rfl⟩
    |row z ag cs=>obtain⟨a',us,h1,h2,_⟩:=this;rw[hν]at h1;simp only[ojE]at h1;subst h1;exact⟨_,_,row_of_get h2 rfl⟩
    |map es=>exact this.elim
    |gone=>rw[show ν id'=some none from this]at hν;cases hν
   |v _ hp=>simp[aB]at hp
   |und _=>
    unfold fT at hw;split at hw
    ·simp at hw
    ·split at hw<;>simp at hw
    ·cases hw
   |rs0 id' _ _ _ a hν=>
    unfold fT at hw;split at hw
    ·simp at hw
    ·split at hw
     ·split at hw
      ·split at hw
       ·rename_i hg;obtain⟨a',us,h1,_⟩:=M.get _ _ hg
        simp_all
       ·cases hw
      all_goals simp_all
     ·cases hw
    ·cases hw
 |_=>simp only[jL]at hp;cases hp
theorem slice_fz{v:PV}{id off n c:Nat}(r:R ν σ v (.slice (some ⟨id,off,none⟩) n c))(hv:v= .emp∨∃z es,v= .sl z es): ∀k,ν k≠some (some id):=by
 rcases hv with rfl|⟨z,es,rfl⟩
 ·cases r with|emp1 _ _ _ rcs m hr=>exact hr.2
 ·cases r with|sl _ _ _ _ _ rcs m hz hs hr hm hb hh=>exact hr.2
theorem mkSl_or(z:Nat)(es:List PV):cQ z es= .emp∨∃z' es',cQ z es= .sl z' es':=by
 cases es with
 |nil=>exact .inl rfl
 |cons e es=>exact .inr ⟨z,_,rfl⟩
theorem runDP_ok{pc:eH}{ac:FuncId→Array Value→St→Option (Value×St)}(hcall:fN pc ac){ops:Array Oper}{ms:List Nat}(hops: ∀o∈ops.toList,o.op.operands.all (aI P)=true):
    ∀(sc:List aER) (Pl:List fR) (Rl:List jC) (ν:Nu) (γ:Ga) (S:PS) (p:PSt) (A:Slots) (σ:St) (S':PS) (p':PSt),(dU sc).Nodup→(∀j∈dU sc,j<ops.size∧σ.get (base+j)=none)→base+ops.size≤σ.next→
      Inv P base ν p σ Pl Rl→Mem ν γ p σ→FR ν γ σ S A→gH P pc ops ms sc Pl S p=some (S',p')→
      ∃A' σ' ν' γ',dK P ac ops ms base (dU sc) Rl A σ=some (A',σ')∧Mem ν' γ' p' σ'∧FR ν' γ' σ' S' A'∧Adv ν γ p σ ν' γ' p' σ'∧(∀j,j<base→σ.get j=none→σ'.get j=none):=by
 intro sc;induction sc with
 |nil=>
  intro Pl Rl ν γ S p A σ S' p' _ _ hb I M F h;simp only[gH]at h;cases hc:Pl.all (kS P p)with
  |false=>rw[hc,cdf]at h;cases h
  |true=>
   rw[hc,cdt]at h;simp only[ojE,pjE]at h;obtain⟨rfl,rfl⟩:=h;refine⟨A,σ,ν,γ,?_,M,F,.refl ν γ p σ,fun j _ hj=>hj⟩
   simp only[dU,dK,I.check M hc,cdt]
 |cons s sc ih=>
  intro Pl Rl ν γ S p A σ S' p' hnd hfree hb I M F h;cases s with
  |freeze t=>
   simp only[gH]at h;split at h
   ·rename_i S1 p1 h1;obtain⟨ν1,M1,F1,A1⟩:=nD M F h1;obtain⟨A',σ',ν',γ',k1,k2,k3,k4,k5⟩:=ih Pl Rl ν1 γ S1 p1 A σ S' p' hnd hfree hb (I.qt A1 (.refl σ) fun _ _ _ _ _ _ h=>h) M1 F1 h
    exact⟨A',σ',ν',γ',k1,k2,k3,A1.trans k4,k5⟩
   ·cases h
  |app a i s=>
   simp only[dU]at hnd hfree⊢;obtain⟨ha,hfa⟩:=hfree a (by simp)
   obtain⟨hi,hfi⟩:=hfree i (by simp)
   obtain⟨hs,hfs⟩:=hfree s (by simp)
   simp only[List.nodup_cons,List.mem_cons,not_or]at hnd;simp only[gH]at h;have hopA:ops[a]?=some ops[a]:=Array.getElem?_eq_getElem ha;have hopI:ops[i]?=some ops[i]:=Array.getElem?_eq_getElem hi;have hopS:ops[s]?=some ops[s]:=Array.getElem?_eq_getElem hs;rw[hopA,hopI,hopS]at h;simp only at h;split at h
   ·rename_i S1 h1;cases hc0:Pl.all (kS P p)&&(Pl.filter fun r=> !bit (ms.getD a 0) r.i).all (fun r=> !fU r.o)with
    |false=>rw[hc0,cdf]at h;cases h
    |true=>
     rw[hc0,cdt]at h;simp only[bjE]at hc0;obtain⟨hc,hmk⟩:=hc0;rw[List.all_eq_true]at hmk;obtain⟨u1,u2,σ1,σ2,γ2,q1,q2,q3,q4,q5,q6,q7,q8,q9,q10,q11,M2,F2,A2,qt1,qt2,q12,q13⟩:=aDr (ac:=ac) (base:=base) (iA:=a) (iI:=i) (iS:=s) M F hfa (by omega) (hops _ (by simp)) (hops _ (by simp)) (hops _ (by simp)) h1
     have hw: ∀{o:Oper} {A0:Slots},o.guard=none→wanted ops A0 o=true:=fun hg=>by simp only[wanted,hg]
     have hfree': ∀j∈dU sc,j<ops.size∧σ2.get (base+j)=none:=fun j hj=>by
      obtain⟨h2,h3⟩:=hfree j (by simp[hj])
      exact⟨h2,(q13 _ (fun e=>hnd.1.2.2 (by rw[show a=j by omega];exact hj)) h3).2⟩
     have If:=I.filter fun k=> !bit (ms.getD a 0) k
     have hck:(Rl.filter fun r=> !bit (ms.getD a 0) r.i).all (check P base σ1)=true:=by
      rw[List.all_eq_true];intro r hr;have hr0:=List.mem_filter.1 hr;have hall:=I.check M hc;rw[List.all_eq_true]at hall;have hcr:=hall r hr0.1;rcases If r hr with hst|⟨q,hq,T⟩
      ·have hk3:Keep ν g00 σ σ1:=by
        refine⟨qt1.vers,by rw[q12];exact nlR _,fun x hx=>?_,fun x hn cs m hg=>?_⟩
        ·cases hxx:σ.get x with
         |none=>rfl
         |some ob=>
          rcases qt1.get x ob hxx with e|⟨_,_,_,_,_,e⟩<;>rw[hx]at e<;>cases e
        ·rcases qt1.get x _ hg with e|⟨cs',m',b',e1,e2,e3⟩
         ·exact⟨m.tip,e,fun h=>h,fun _=>rfl⟩
         ·simp only[AObj.cells.injEq]at e1;obtain⟨rfl,rfl⟩:=e1;exact⟨b',e3,fun h=>(by rw[e2]at h;cases h),fun h=>(by cases h)⟩
       exact hst ν σ1 hk3 (.refl σ ν) fun x cs m hx=>by
        rcases qt1.get x _ hx with e|⟨cs',m',b',e1,e2,e3⟩
        ·exact⟨cs,m.tip,e⟩
        ·simp only[AObj.cells.injEq]at e1;obtain⟨rfl,rfl⟩:=e1;exact⟨_,b',e3⟩
      ·refine wH qt1 T.rd (fun ob hob b hb=>?_) hcr
       have hm:fU q.o=false:=by simpa using hmk q hq
       obtain⟨cs,rfl⟩:=T.box hm ob hob;rcases qt1.get b _ hb with e|⟨cs',m',b',e1,e2,_⟩
       ·exact e
       ·simp only[AObj.cells.injEq]at e1;obtain⟨rfl,rfl⟩:=e1;cases e2
     have I2:=(If.some A2 qt2).filter fun k=> !bit (ms.getD s 0) k
     obtain⟨A',σ',ν',γ',j1,j2,j3,j4,j5⟩:=ih _ _ ν γ2 _ p _ σ2 S' p' hnd.2.2.2 hfree' (Nat.le_trans hb A2.keep.next) I2 M2 F2 h
     refine⟨A',σ',ν',γ',?_,j2,j3,A2.trans j4,fun j hj hn=>j5 j hj (q13 j (by omega) hn).2⟩
     simp only[dK,hopA,hopI,hopS,hw q7,hw q8,hw q9,cdt,q4,q5,q6,I.check M hc,q1,q2,hck,q3];rw[q10];exact j1
   ·cases h
  |op i take=>
   simp only[dU]at hnd hfree⊢;rw[List.nodup_cons]at hnd;obtain⟨hi,hfi⟩:=hfree i (mhE ..);simp only[gH]at h;have hop:ops[i]?=some ops[i]:=Array.getElem?_eq_getElem hi;rw[hop]at h;simp only at h;simp only[dK,hop];have hoi:=hops ops[i] (by simp)
   generalize ops[i]=o at*;split at h
   ·rename_i hw;rw[kC F hw,cdt];split at h
    ·rename_i v own S1 p1 h1;obtain⟨u,σ1,ν1,γ1,k1,k2,k3,k4,k5,k6⟩:=aGh hcall M F hfi (by omega) hoi h1
     have hfree': ∀j∈dU sc,j<ops.size∧σ1.get (base+j)=none:=fun j hj=>by
      obtain⟨h2,h3⟩:=hfree j (mtE _ hj);exact⟨h2,k6 _ (by omega) (fun e=>hnd.1 (by rw[show i=j by omega];exact hj)) h3⟩
     have hb':=Nat.le_trans hb k5.keep.next
     have fin: ∀{Pl' Rl'},Inv P base ν1 p1 σ1 Pl' Rl'→gH P pc ops ms sc Pl' (S1.put o.dst v own) p1=some (S',p')→
              ∃A' σ' ν' γ',dK P ac ops ms base (dU sc) Rl' (A.store o.dst u) σ1=some (A',σ')∧Mem ν' γ' p' σ'∧FR ν' γ' σ' S' A'∧Adv ν γ p σ ν' γ' p' σ'∧(∀j,j<base→σ.get j=none→σ'.get j=none):=by
      intro Pl' Rl' I' h';obtain⟨A',σ',ν',γ',j1,j2,j3,j4,j5⟩:=ih Pl' Rl' ν1 γ1 _ p1 _ σ1 S' p' hnd.2 hfree' hb' I' k3 k4 h';exact⟨A',σ',ν',γ',j1,j2,j3,k5.trans j4,fun j hj hn=>j5 j hj (k6 j (by omega) (by omega) hn)⟩
     cases hk:aP o with
     |pure=>
      simp only[aop,hk,mjE,pjE]at k1;obtain⟨u',hu',rfl,rfl⟩:=k1;have hu:fQ P (ev A) o=some u':=by
       simp only[pop,hk,mjE,pjE]at h1;obtain⟨⟨v',own',S''⟩,hp,rfl,rfl,rfl,rfl⟩:=h1;unfold xV at hp;split at hp
       ·rename_i r hpp;obtain⟨r1,r2,r3⟩:=r;obtain⟨u2,_,h2,_⟩:=aDk F hoi hpp;unfold fL at hu';rw[h2]at hu'⊢;exact hu'
       ·cases hp
      simp only[hu];rw[show gK o=false by simp[gK,hk]]at h
      simp only[cdf,aA7 hk S]at h;exact fin (I.qt k5 (.refl σ) fun _ _ _ _ _ _ h=>h) h
     |read=>
      simp only[aop,hk,mjE,pjE]at k1;obtain⟨u',hu,rfl,rfl⟩:=k1;simp only[hu];rw[show gK o=false by simp[gK,hk]]at h
      simp only[cdf]at h;have I':=I.qt k5 (.refl σ) fun _ _ _ _ _ _ h=>h
      have hpr: ∃own' p'',jL P p S o take=some (v,own',p''):=by
       simp only[pop,hk,mjE,pjE]at h1;obtain⟨⟨v',own',p''⟩,hp,rfl,rfl,rfl,rfl⟩:=h1;exact⟨_,_,hp⟩
      obtain⟨own',p'',hpr⟩:=hpr;cases hip:fI o S with
      |false=>
       rw[hip,cdf]at h;exact fin (I'.cons ((aGi M F hoi hpr hip hu).adv k5)) h
      |true=>
       rw[hip,cdt]at h;have hck:check P base σ ⟨i,o,A,u',none⟩=true:=by simp only[check,hu];exact fE u'
       refine fin (I'.cons2 ⟨fun id hid hd=>?_,rfl,fun _=>hck,fun _ ob hob=>(by cases hob),fun _=>?_,fun t a hoa=>?_⟩) h
       ·simp only[fI]at hip;split at hip
        ·rename_i t a hoa;simp only[cid,jU,hoa]at hid;have hok:aI P a=true:=by
          have:=qN hoi;rw[hoa]at this;simpa [Op.operands]using this
         have hpl: ∃v2,gD P p t (pev S a)=some v2:=by
          simp only[jL,hoa]at hpr;split at hpr
          ·exact⟨_,by assumption⟩
          ·cases hpr
         obtain⟨v2,hpl⟩:=hpl;have hvd:PI.vid (pev S a)=some id:=by
          cases hh:pev S a<;>rw[hh]at hid<;>simp only[aid]at hid<;>first|exact hid|cases hid
         obtain⟨b,hb1,hb2⟩:=R.vid M (aT F hok) hvd (by
          cases hh:pev S a<;>rw[hh]at hid hpl<;>simp only[aid]at hid<;>try cases hid
          simp only[gD]at hpl;split at hpl
          ·exact⟨_,by assumption,by simp⟩
          ·exact⟨_,by assumption,by simp⟩
          ·cases hpl)
         have hb3:=(k5.bx id b hb1 hd).2;refine⟨b,hb3,.inl ⟨rfl,t,a,?_⟩,hck⟩;rcases hb2 with⟨off,e⟩|⟨off,n,c,e⟩
         ·exact⟨off,hoa,e⟩
         ·exfalso;have hr:=aT F hok;rw[e]at hr;cases hh:pev S a<;>rw[hh]at hid hr<;>simp only[aid]at hid<;>try cases hid
          cases hr
        ·rename_i e;simp[aP,e]at hk
        ·rename_i e;simp[aP,e]at hk
        ·rename_i e;simp[aP,e]at hk
        ·cases hip
       ·simp only[fI]at hip;split at hip
        ·rename_i t a e;exact⟨t,a,e⟩
        ·rename_i e;simp[aP,e]at hk
        ·rename_i e;simp[aP,e]at hk
        ·rename_i e;simp[aP,e]at hk
        ·cases hip
       refine⟨rfl,rfl,?_,k2⟩;simp only at hoa;simp only[jU,hoa];have:aI P a=true:=by
        have:=qN hoi;rw[hoa]at this;simpa [Op.operands]using this
       exact(aT F this).keep k5.keep k5.mon
     |alloc=>
      simp only[aop,hk,mjE,pjE]at k1;obtain⟨⟨u',ob⟩,hu,rfl,rfl⟩:=k1;simp only[hu];rw[show gK o=false by simp[gK,hk]]at h
      simp only[cdf]at h;have I':=I.qt k5 (.put hfi) fun _ _ _ _ a ob h=>by rw[aG,if_neg (fun e=>by rw[e,hfi]at h;cases h)];exact h
      have hck:check P base (σ.put (base+i) ob) ⟨i,o,A,u',some ob⟩=true:=by
       simp only[check,aG,if_true];exact oO ob
      simp only[pop,hk,mjE,pjE]at h1;obtain⟨⟨v',own',p''⟩,hp,hv',rfl,rfl,rfl⟩:=h1;simp only at hv';subst hv';have hcl:(∃o2,p''.get p.next=some o2∧o2≠ .gone)→∀id,PI.vid v'=some id→(PI.vid v'=some id→id=p.next)→∃a,ν1 id=some (some a)∧Looks base ⟨i,o,A,u',some ob⟩ a∧check P base (σ.put (base+i) ob) ⟨i,o,A,u',some ob⟩=true:=by
       intro hg id hid hid2;have:=hid2 hid;subst this;obtain⟨b,hb1,hb2⟩:=R.vid k3 k2 hid hg;exact⟨b,hb1,.inr ⟨by simp,aAh hu hb2⟩,hck⟩
      obtain⟨dst,op,ty,pos,af,g⟩:=o;cases op with
      |alloc t=>
       have hcl': ∀id,PI.vid v'=some id→id∉p''.wr→_:=fun id hid _=>hcl (by
        simp only[cI]at hp;split at hp<;>try cases hp
        exact⟨_,by rw[fK,if_pos rfl],by simp⟩) id hid (fun _=>by
        simp only[cI]at hp;split at hp<;>try cases hp
        simp only[PI.vid,ojE]at hid;exact hid.symm)
       refine fin (I'.cons2 (q:=⟨i,⟨dst,.alloc t,ty,pos,af,g⟩,jU ⟨dst,.alloc t,ty,pos,af,g⟩ S,v',false⟩) ⟨hcl',rfl,fun _=>hck,fun _ ob' hob=>?_,fun h=>(by cases h),fun t a hoa=>by cases hoa⟩) h
       simp only[ojE]at hob;subst hob;simp only[eA]at hu;split at hu
       ·rename_i zz _;cases hc:zz.cells.toList.all aB with
        |false=>rw[hc,cdf]at hu;cases hu
        |true=>rw[hc,cdt]at hu;simp only[ojE,pjE]at hu;exact⟨_,hu.2.symm⟩
       ·cases hu
      |box t x=>
       have hcl': ∀id,PI.vid v'=some id→id∉p''.wr→_:=fun id hid _=>hcl (by
        simp only[cI]at hp;have hp:=fW hp;simp only[ojE,pjE]at hp;obtain⟨_,_,rfl⟩:=hp;exact⟨_,by rw[fK,if_pos rfl],by simp⟩) id hid (fun _=>by
        simp only[cI]at hp;have hp:=fW hp;simp only[ojE,pjE]at hp;obtain⟨rfl,_,_⟩:=hp;simp only[PI.vid,ojE]at hid;exact hid.symm)
       refine fin (I'.cons2 (q:=⟨i,⟨dst,.box t x,ty,pos,af,g⟩,jU ⟨dst,.box t x,ty,pos,af,g⟩ S,v',false⟩) ⟨hcl',rfl,fun _=>hck,fun _ ob' hob=>?_,fun h=>(by cases h),fun t a hoa=>by cases hoa⟩) h
       simp only[ojE]at hob;subst hob;simp only[eA]at hu;cases hc:(ev A x).cells.toList.all one with
       |false=>rw[hc,cdf]at hu;cases hu
       |true=>rw[hc,cdt]at hu;simp only[ojE,pjE]at hu;exact⟨_,hu.2.symm⟩
      |makeSlice t l c=>
       have hmk: ∀id,PI.vid v'=some id→id=p.next∧∃o2,p''.get p.next=some o2∧o2≠ .gone:=by
        intro id hid;simp only[cI]at hp;split at hp<;>try cases hp
        split at hp<;>try cases hp
        split at hp<;>try cases hp
        have hp:=fW hp;rcases bif_or hp with hp|hp
        ·simp only[ojE,pjE]at hp;obtain⟨rfl,_,_⟩:=hp;simp only[PI.vid]at hid;cases hid
        ·have hp:=fW hp;simp only[ojE,pjE]at hp;obtain⟨rfl,_,rfl⟩:=hp;simp only[PI.vid,ojE]at hid;exact⟨hid.symm,_,by rw[fK,if_pos rfl],by simp⟩
       exact fin (I'.cons2 (q:=⟨i,⟨dst,.makeSlice t l c,ty,pos,af,g⟩,jU ⟨dst,.makeSlice t l c,ty,pos,af,g⟩ S,v',false⟩) ⟨fun id hid _=>hcl (hmk id hid).2 id hid (fun _=>(hmk id hid).1),rfl,fun _=>hck,fun hm=>(by cases hm),fun h=>(by cases h),fun t a hoa=>by cases hoa⟩) h
      |buildSlice t len parts=>
       refine fin (I'.cons ?_) h;have hob: ∃cs s,ob= .cells cs (bD s)∧u'= .slice (some ⟨base+i,0,none⟩) len len:=by
        simp only[eA]at hu;split at hu
        ·split at hu
         ·rename_i s _;split at hu
          ·rename_i z _;cases hc:z.cells.toList.all aB&&Nat.ble (len*s) 1000000&&Nat.beq z.cells.size s&&Nat.ble 1 s with
           |false=>rw[hc,cdf]at hu;cases hu
           |true=>
            rw[hc,cdt]at hu;simp only[mjE,pjE]at hu;obtain⟨cs,_,h2,h3⟩:=hu;exact⟨_,s,h3.symm,h2.symm⟩
          ·cases hu
         ·cases hu
        ·cases hu
       obtain⟨cs,s,rfl,rfl⟩:=hob;have hvs:v'= .emp∨∃z es,v'= .sl z es:=by
        simp only[cI]at hp;split at hp
        ·split at hp
         ·rename_i s a z _ _ _;cases hc:Nat.ble (len*s) 1000000&&Nat.beq z.length s&&Nat.ble 1 s&&(a||Nat.beq s 1)with
          |false=>rw[hc,cdf]at hp;cases hp
          |true=>
           rw[hc,cdt]at hp;split at hp
           ·simp only[ojE,pjE]at hp;rw[←hp.1];exact mkSl_or _ _
           ·cases hp
         ·cases hp
        ·cases hp
       have hno:=slice_fz k2 hvs;intro ν'' σ'' kk mm zz;obtain⟨b,hb1,hb2,_⟩:=kk.row (base+i) hno cs (bD s) (by rw[aG,if_pos rfl])
       have hbf:=hb2 rfl;subst hbf;simp only[check,hb1];exact oO _
      |_=>simp only[cI]at hp;cases hp
     |eff=>
      have k1':aAK P ac σ (ev A) o (base+i)=some (u,σ1):=by simpa only[aop,hk]using k1
      rw[show gK o=true by simp[gK,hk]]at h
      simp only[cdt]at h;cases hc:Pl.all (kS P p)with
      |false=>rw[hc,cdf]at h;cases h
      |true=>
       rw[hc,cdt]at h;simp only[I.check M hc,cdt,k1'];have If:=I.filter fun k=> !bit (ms.getD i 0) k
       cases ha:iD o with
       |false=>
        rw[ha]at h;simp only[Bool.false_and,cdf]at h;exact fin (If.stale k5) h
       |true=>
        rw[ha]at h;simp only[Bool.true_and]at h;have hqt:Qt σ σ1:=by
         obtain⟨dst,op,ty,pos,af,g⟩:=o;cases op<;>simp only[iD]at ha<;>(try cases ha)
         rename_i c;obtain⟨callee,cargs,ats⟩:=c;cases callee with
         |builtin b=>
          cases b<;>(try cases ha)
          simp only[aAK]at k1';split at k1'
          ·exact aFz hfi k1'
          ·cases k1'
         |_=>cases ha
        exact fin (If.some k5 hqt) h
    ·cases h
   ·rename_i hw;rw[kC F hw,cdf];obtain⟨γ1,M1,F1,A1⟩:=aGl M F o.dst;obtain⟨A',σ',ν',γ',j1,j2,j3,j4,j5⟩:=ih Pl Rl ν γ1 _ p _ σ S' p' hnd.2 (fun j hj=>hfree j (mtE _ hj)) hb I M1 F1 h
    exact⟨A',σ',ν',γ',j1,j2,j3,A1.trans j4,j5⟩
   ·cases h
end
end Go.PI
namespace Go.PI
open Go.AI
theorem bU{n:Nat}{xs:List PV}:eW n xs=true↔∀x∈xs,below n x=true:=by
 induction xs with
 |nil=>simp[eW]
 |cons x xs ih=>simp[eW,ih]
theorem xU{n:Nat}{x:PV}(h:x.pur=true):below n x=true:=by cases x<;>first|rfl|simp[PV.pur]at h
theorem aDX{es:List PV}(h: ∀e∈es,e.cells.all PV.pur=true){i:Nat}{x:PV}(hx:(eG es)[i]?=some x):x.pur=true:=by
 have:=dG hx;simp only[eG,List.mem_flatMap]at this;obtain⟨e,he,hx⟩:=this;exact(List.all_eq_true.1 (h e he)) x hx
section
variable{P:Program}{ν ν' ν'':Nu}{γ γ1 γ':Ga}{σ σ':St}{S:PS}{A:Slots}
theorem mM{α:Type}{us:List α}{xs:List PV}(hl:xs.length=us.length){x:PV}(hx:x∈xs): ∃(i:Nat) (u:α),xs[i]?=some x∧us[i]?=some u:=by
 obtain⟨i,hi,rfl⟩:=List.mem_iff_getElem.1 hx;exact⟨i,us[i],geG hi,geG (by omega)⟩
theorem R.restrict{n:Nat}(hν: ∀k,k<n→ν'' k=ν' k)(hsub: ∀k a,ν'' k=some (some a)→ν' k=some (some a)){x:PV}{u:Value}(r:R ν' σ x u):PI.below n x=true→R ν'' σ x u:=by
 have hfz: ∀{id cs m},Fz ν' σ id cs m→Fz ν'' σ id cs m:=fun h=>⟨h.1,fun k hk=>h.2 k (hsub k _ hk)⟩
 induction r with
 |und u=>intro _;exact .und u
 |v x h=>intro _;exact .v x h
 |str s=>intro _;exact .str s
 |agg xs us hl _ ih=>
  intro hb;simp only[PI.below]at hb;rw[bU]at hb;exact .agg xs us hl fun i x u hx hu=>ih i x u hx hu (hb x (dG hx))
 |tup xs us hl _ ih=>
  intro hb;simp only[PI.below]at hb;rw[bU]at hb;exact .tup xs us hl fun i x u hx hu=>ih i x u hx hu (hb x (dG hx))
 |nil=>intro _;exact .nil
 |emp0=>intro _;exact .emp0
 |emp1 id off c rcs m hr=>intro _;exact .emp1 id off c rcs m (hfz hr)
 |emp2 b o s c=>intro _;exact .emp2 b o s c
 |sl z es id off c rcs m hz hs hr hmz hb _ ih=>
  intro _;exact .sl z es id off c rcs m hz hs (hfz hr) hmz hb fun i x u hx hu=>ih i x u hx hu (xU (aDX (fun e he=>(hs e he).2) hx))
 |pin z es i off id base rcs m hs hr hb _ ih=>
  intro _;exact .pin z es i off id base rcs m hs (hfz hr) hb fun i x u hx hu=>ih i x u hx hu (xU (aDX (fun e he=>(hs e he).2) hx))
 |ptr id off a h=>
  intro hb;simp only[PI.below,fP,djE]at hb;exact .ptr id off a (by rw[hν id hb];exact h)
 |ptr0 id off a h=>
  intro hb;simp only[PI.below,fP,djE]at hb;exact .ptr0 id off a (by rw[hν id hb];exact h)
 |rs id off len c a h=>
  intro hb;simp only[PI.below,fP,djE]at hb;exact .rs id off len c a (by rw[hν id hb];exact h)
 |rs0 id off len c a h=>
  intro hb;simp only[PI.below,fP,djE]at hb;exact .rs0 id off len c a (by rw[hν id hb];exact h)
 |fn f xs ys us vs hl _ hl' _ ih ih'=>
  intro hb;simp only[PI.below,bjE]at hb;rw[bU,bU]at hb;exact .fn f xs ys us vs hl (fun i x u hx hu=>ih i x u hx hu (hb.1 x (dG hx))) hl' fun i x u hx hu=>ih' i x u hx hu (hb.2 x (dG hx))
theorem R.low{n:Nat}(hν: ∀k y,ν k=some y→k<n){x:PV}{u:Value}(r:R ν σ x u):PI.below n x=true:=by
 induction r with
 |agg xs us hl _ ih=>
  simp only[PI.below];rw[bU];intro x hx;obtain⟨i,u,h1,h2⟩:=mM hl hx;exact ih i x u h1 h2
 |tup xs us hl _ ih=>
  simp only[PI.below];rw[bU];intro x hx;obtain⟨i,u,h1,h2⟩:=mM hl hx;exact ih i x u h1 h2
 |ptr id off a h=>simp only[PI.below,fP,djE];exact hν _ _ h
 |ptr0 id off a h=>simp only[PI.below,fP,djE];exact hν _ _ h
 |rs id off len c a h=>simp only[PI.below,fP,djE];exact hν _ _ h
 |rs0 id off len c a h=>simp only[PI.below,fP,djE];exact hν _ _ h
 |fn f xs ys us vs hl _ hl' _ ih ih'=>
  simp only[PI.below,bjE];rw[bU,bU];refine⟨fun x hx=>?_,fun x hx=>?_⟩
  ·obtain⟨i,u,h1,h2⟩:=mM hl hx;exact ih i x u h1 h2
  ·obtain⟨i,u,h1,h2⟩:=mM hl' hx;exact ih' i x u h1 h2
 |_=>rfl
theorem Ow.restrict{k:K}(hsub: ∀k a,ν'' k=some (some a)→ν' k=some (some a)){x:PV}{u:Value}(o:Ow ν' γ σ k x u):Ow ν'' γ σ k x u:=by
 have hfz: ∀{id cs m},Fz ν' σ id cs m→Fz ν'' σ id cs m:=fun h=>⟨h.1,fun k hk=>h.2 k (hsub k _ hk)⟩
 induction o with
 |nil x=>exact .nil x
 |exact x id off len rcs m hr=>exact .exact x id off len rcs m (hfz hr)
 |zer x b o=>exact .zer x b o
 |tup x xs u us hx _ ih=>exact .tup x xs u us hx ih
 |tip z es id off c rcs m hr ht hw hg hb hk=>exact .tip z es id off c rcs m (hfz hr) ht hw hg hb hk
theorem ObjR.restrict{n id:Nat}(hν: ∀k,k<n→ν'' k=ν' k)(hsub: ∀k a,ν'' k=some (some a)→ν' k=some (some a))(hid:id<n){o:lP}(h:ObjR ν' γ σ id o)(hb:mO n o=true):ObjR ν'' γ σ id o:=by
 cases o with
 |box cs=>
  obtain⟨a,us,h1,h2,h3,h4⟩:=h;simp only[mO,List.all_eq_true]at hb;refine⟨a,us,by rw[hν id hid];exact h1,h2,h3,fun i x b u hx hu=>?_⟩
  obtain⟨h5,h6,h7⟩:=h4 i x b u hx hu;exact⟨h5.restrict hν hsub (hb _ (dG hx)),h6,fun hb'=>(h7 hb').restrict hsub⟩
 |row z ag cs=>
  obtain⟨a,us,h1,h2,h3,h5,h4⟩:=h;simp only[mO]at hb;rw[bU]at hb;exact⟨a,us,by rw[hν id hid];exact h1,h2,h3,h5,fun i x u hx hu=>(h4 i x u hx hu).restrict hν hsub (hb x (dG hx))⟩
 |map es=>exact h
 |gone=>show ν'' id=some none;rw[hν id hid];exact h
theorem ObjR.low{n id:Nat}(hν: ∀k y,ν k=some y→k<n){o:lP}(h:ObjR ν γ σ id o):mO n o=true:=by
 cases o with
 |box cs=>
  obtain⟨a,us,h1,h2,h3,h4⟩:=h;simp only[mO,List.all_eq_true];intro c hc;obtain⟨i,hi,rfl⟩:=List.mem_iff_getElem.1 hc;have hx:cs[i]?=some (cs[i].1,cs[i].2):=geG hi;have hu:us[i]?=some (us[i]'(by omega)):=geG _
  exact(h4 i _ _ _ hx hu).1.low hν
 |row z ag cs=>
  obtain⟨a,us,h1,h2,h3,h5,h4⟩:=h;simp only[mO];rw[bU];intro x hx;obtain⟨i,u,e1,e2⟩:=mM h3.symm hx;exact(h4 i x u e1 e2).low hν
 |map es=>exact h.elim
 |gone=>rfl
theorem bS{old d:List Nat}{k:Nat}:k∈old.foldr ins d↔k∈old∨k∈d:=by
 induction old with
 |nil=>simp
 |cons x old ih=>simp only[List.foldr_cons,gE,ih,List.mem_cons,or_assoc]
theorem rA{mem q:Tr lP}{old:List Nat}(hf: ∀id∈old,q.get id≠none)(k:Nat):(old.foldr (back q) mem).get k=if k∈old then q.get k else mem.get k:=by
 induction old with
 |nil=>simp
 |cons x old ih=>
  simp only[List.foldr_cons];have ih:=ih fun id hid=>hf id (mtE _ hid)
  cases hx:q.get x with
  |none=>exact absurd hx (hf x (mhE ..))
  |some o=>
   simp only[back,hx,Tr.get_set];by_cases e:k=x
   ·subst e;simp[hx]
   ·rw[if_neg e,ih];by_cases e2:k∈old
    ·rw[if_pos e2,if_pos (mtE _ e2)]
    ·rw[if_neg e2,if_neg (by simp[e,e2])]
theorem aGm{p p':PSt}(M:Mem ν γ p σ)(M':Mem ν' γ' p' σ')(adv:Adv ν γ (st0 p) σ ν' γ' p' σ'){v:PV}{u:Value}{own:Bool}(r:R ν' σ' v u)(ho:own=true→Ow ν' γ' σ' .hand v u):
    ∃ν'',R ν'' σ' v u∧(own=true→Ow ν'' γ' σ' .hand v u)∧Mem ν'' γ' (settle p v p') σ'∧Adv ν γ p σ ν'' γ' (settle p v p') σ':=by
 have hn:p.next≤p'.next:=adv.dp.next
 have hmem: ∀k,k<p.next→k∉p'.dirty→p'.mem.get k=p.mem.get k:=adv.dp.mem
 unfold settle;cases hc:below p.next v&&(p'.dirty.filter fun id=>Nat.blt id p.next).all (oV p.next p'.mem)with
 |false=>
  simp only[cdf];refine⟨ν',r,ho,⟨M'.le,M'.lt,M'.inj,M'.live,M'.get,M'.free,M'.ver⟩,⟨adv.keep,adv.mon,adv.out,⟨hn,fun id hid=>bS.2 (.inr hid),fun id hid=>bS.2 (.inr hid),fun k hk hd=>?_⟩,adv.rz,fun id a hi hd=>adv.bx id a hi fun hh=>hd (bS.2 (.inl (List.mem_filter.2 ⟨hh,by rw[fP];simpa using M.le _ _ hi⟩)))⟩⟩
  refine hmem k hk fun hh=>hd (bS.2 (.inl ?_))
  rw[List.mem_filter];exact⟨hh,by rw[fP];simpa using hk⟩
 |true=>
  simp only[cdt];simp only[bjE,List.all_eq_true]at hc;obtain⟨hv,hold⟩:=hc;have hmo: ∀{k},k∈(p'.dirty.filter fun id=>Nat.blt id p.next)↔k∈p'.dirty∧k<p.next:=by
   intro k;rw[List.mem_filter,fP];simp
  generalize hO:(p'.dirty.filter fun id=>Nat.blt id p.next)=old at*
  have hf: ∀id∈old,p'.mem.get id≠none:=fun id hid h=>by
   have:=hold id hid;simp only[oV,h]at this;cases this
  have hget: ∀k,PSt.get ⟨old.foldr (back p'.mem) p.mem,p.next,old.foldr ins p.dirty,(p'.wr.filter fun id=>Nat.blt id p.next).foldr ins p.wr⟩ k=if k<p.next then p'.mem.get k else none:=by
   intro k;simp only[PSt.get,fP,Bool.cond_decide];by_cases hk:k<p.next
   ·simp only[hk,if_true];rw[rA hf];by_cases e:k∈old
    ·rw[if_pos e]
    ·rw[if_neg e];exact(hmem k hk fun hh=>e (hmo.2 ⟨hh,hk⟩)).symm
   ·simp[hk]
  have hp': ∀k,k<p.next→p'.get k=p'.mem.get k:=by
   intro k hk;simp only[PSt.get,fP,Bool.cond_decide];rw[if_pos (by omega)]
  have hνn: ∀k,k<p.next→(fun k=>if k<p.next then ν' k else none) k=ν' k:=fun k hk=>by simp[hk]
  have hsub: ∀k a,(fun k=>if k<p.next then ν' k else none) k=some (some a)→ν' k=some (some a):=fun k a h=>by
   by_cases hk:k<p.next
   ·simpa [hk]using h
   ·simp[hk]at h
  refine⟨fun k=>if k<p.next then ν' k else none,r.restrict hνn hsub hv,fun h=>(ho h).restrict hsub,⟨fun k x hk=>?_,fun k a hk=>M'.lt k a (hsub k a hk),fun i j a hi hj=>M'.inj i j a (hsub i a hi) (hsub j a hj),fun k a hk=>?_,fun k o hk=>?_,M'.free,M'.ver⟩,
   ⟨adv.keep,⟨fun id x hx=>?_,fun id a ha=>adv.mon.2 id a (hsub id a ha)⟩,adv.out,⟨nlR _,fun id hid=>bS.2 (.inr hid),fun id hid=>bS.2 (.inr hid),fun k hk hd=>?_⟩,adv.rz,fun id a hi hd=>by
    have hlt:=M.le _ _ hi;obtain⟨e1,e2⟩:=adv.bx id a hi fun hh=>hd (bS.2 (.inl (List.mem_filter.2 ⟨hh,by rw[fP];simpa using hlt⟩)))
    exact⟨e1,by show(if id<p.next then ν' id else none)=_;rw[if_pos hlt];exact e2⟩⟩⟩
  ·by_cases h:k<p.next
   ·exact h
   ·simp[h]at hk
  ·have h1:=hsub k a hk;have hkn:k<p.next:=by
    by_cases h:k<p.next
    ·exact h
    ·simp[h]at hk
   obtain⟨o,ho'⟩:=M'.live k a h1;rw[hp' k hkn]at ho';exact⟨o,by rw[hget,if_pos hkn];exact ho'⟩
  ·rw[hget]at hk;by_cases hkn:k<p.next
   ·rw[if_pos hkn]at hk;have hobj:=M'.get k o (by rw[hp' k hkn];exact hk)
    refine hobj.restrict hνn hsub hkn ?_;by_cases e:k∈old
    ·have:=hold k e;simp only[oV,hk]at this;exact this
    ·have h0:p.mem.get k=some o:=by rw[←hmem k hkn fun hh=>e (hmo.2 ⟨hh,hkn⟩)];exact hk
     have:p.get k=some o:=by
      simp only[PSt.get,fP,Bool.cond_decide];rw[if_pos hkn];exact h0
     exact(M.get k o this).low M.le
   ·rw[if_neg hkn]at hk;cases hk
  ·have hid:=M.le id x hx;rcases adv.mon.1 id x hx with h1|h1
   ·left;show(if id<p.next then ν' id else none)=some x;rw[if_pos hid];exact h1
   ·right;show(if id<p.next then ν' id else none)=some none;rw[if_pos hid];exact h1
  ·rw[rA hf];rw[if_neg fun e=>hd (bS.2 (.inl e))]
end
end Go.PI
namespace Go.PI
open Go.AI
def sL:PC→Prop
 | .region _ ops draw ms sc=>if draw then ms=dV ops.toList []∧dU sc=sK ops ms else dU sc=List.range ops.size
 | .seq a b=>sL a∧sL b
 | .cond _ a b=>sL a∧sL b
 | .block _ c=>sL c
 | .loop c=>sL c
 | .scope c=>sL c
 | .drop _ c=>sL c
 | .ice _ c=>sL c
 |_=>True
theorem aE1{ops:Array Oper}{ms:List Nat}: ∀{l done:List Nat},topo ops ms l done=true→l.Nodup∧(∀i∈l,i<ops.size∧i∉done):=by
 intro l;induction l with
 |nil=>intro done _;exact⟨List.nodup_nil,fun i hi=>by simp at hi⟩
 |cons i l ih=>
  intro done h;simp only[topo,bjE]at h;obtain⟨⟨⟨⟨h1,h2⟩,h3⟩,h4⟩,h5⟩:=h;obtain⟨h6,h7⟩:=ih h5;have hi:i<ops.size:=by rw[fP]at h1;simpa using h1
  have hd:i∉done:=by simpa using h2
  refine⟨List.nodup_cons.2 ⟨fun hh=>(h7 i hh).2 (mhE ..),h6⟩,fun j hj=>?_⟩
  rcases List.mem_cons.1 hj with rfl|hj
  ·exact⟨hi,hd⟩
  ·exact⟨(h7 j hj).1,fun hh=>(h7 j hj).2 (mtE _ hh)⟩
section
variable{P:Program}{ν ν' ν'':Nu}{γ γ1 γ':Ga}{σ σ':St}{S:PS}{A:Slots}
theorem vJ{ops:Array Oper}(h:vK ops=true):(sK ops (dV ops.toList [])).Nodup∧∀i∈sK ops (dV ops.toList []),i<ops.size∧i∉([]:List Nat):=by
 unfold vK at h;split at h
 ·simp only[yF,bjE]at h;exact aE1 h.1
 ·cases h
theorem aHA{ops:Array Oper}{o:Option (PS×PSt)}{r:PS×PSt}(h:fitP ops o=some r):o=some r∧aA0 ops r.1 r.2=true:=by
 unfold fitP at h;split at h
 ·rename_i r';cases hb:aA0 ops r'.1 r'.2 with
  |true=>rw[hb,cdt]at h;cases h;exact⟨rfl,hb⟩
  |false=>rw[hb]at h;cases h
 ·cases h
theorem okTw_ok{ops:Array Oper}{p:PSt}(M:Mem ν γ p σ)(F:FR ν γ σ S A)(h:aA0 ops S p=true):okTw ops A σ=true:=by
 unfold aA0 at h;unfold okTw;split at h
 ·rename_i e;rw[e]
 ·rename_i s t e;rw[e];simp only;have r1:=(F s).1;have r2:=(F t).1;split at h
  ·rename_i es i off id o2 e1 e2;rw[e1]at r1;rw[e2]at r2;split at h
   ·rename_i cs hg;obtain⟨a,us,n1,n2,_⟩:=M.get _ _ hg;show(match A.at s,A.at t with
     | .pointer (some ⟨i,_,none⟩),.pointer (some ⟨j,_,none⟩)=> !Nat.beq i j&&(match σ.get j with|some (.cells _ m)=>m.grp.isNone|_=>false)
     |_,_=>false)=true
    generalize A.at s=u1 at*;generalize A.at t=u2 at*;cases r1 with
    |pin z _ _ _ id' base rcs m hs hr hb h=>
     cases r2 with
     |ptr _ _ a' hν=>
      rw[hν]at n1;simp only[ojE]at n1;subst n1;have:id'≠a':=fun e=>hr.2 _ (e▸hν)
      simp only[cJ,decide_eq_false this,n2,boxMeta,Option.isNone_none,Bool.not_false,Bool.and_self]
     |ptr0 _ _ a' hν=>rw[hν]at n1;cases n1
   ·cases h
  ·cases h
 ·cases h
theorem qR(n:Nat):Keep ν fM σ {σ with next:=σ.next+n}:=⟨rfl,Nat.le_add_right _ _,fun _ h=>h,fun a _ cs m h=>⟨m.tip,h,fun h=>h,fun _=>rfl⟩⟩
theorem Mem.more{p:PSt}(M:Mem ν γ p σ)(n:Nat):Mem ν γ p {σ with next:=σ.next+n}:=
 ⟨M.le,fun id a h=>Nat.lt_of_lt_of_le (M.lt id a h) (Nat.le_add_right _ _),M.inj,M.live,fun id o h=>(M.get id o h).keep (γ1:=fM) (qR n) (.refl σ ν) rfl (fun _ _=>rfl) fun i off hi _=>⟨rfl,hi⟩,
  fun a ha=>M.free a (Nat.le_trans (Nat.le_add_right _ _) ha),M.ver⟩
theorem FR.more(F:FR ν γ σ S A)(n:Nat):FR ν γ {σ with next:=σ.next+n} S A:=F.keep (γ1:=fM) (qR n) (.refl σ ν) fun i t hi _=>⟨rfl,hi⟩
theorem Adv.more{p:PSt}(n:Nat):Adv ν γ p σ ν γ p {σ with next:=σ.next+n}:=⟨(qR n).weak fun _ _=>rfl,.refl σ ν,.refl σ γ,.refl p,fun a cs m h=>⟨cs,m.tip,h⟩,fun _ _ h _=>⟨rfl,h⟩⟩
theorem Mem.cln{p:PSt}(M:Mem ν γ p σ):Mem ν γ (PI.cln p) σ:=⟨M.le,M.lt,M.inj,M.live,M.get,M.free,M.ver⟩
theorem Mem.dty{p':PSt}(M:Mem ν γ p' σ)(p:PSt):Mem ν γ (PI.dty p p') σ:=⟨M.le,M.lt,M.inj,M.live,M.get,M.free,M.ver⟩
theorem Adv.dty{p p':PSt}(h:Adv ν γ (PI.cln p) σ ν' γ' p' σ'):Adv ν γ p σ ν' γ' (PI.dty p p') σ':=
 ⟨h.keep,h.mon,h.out,⟨h.dp.next,fun id hi=>h.dp.dirty id hi,fun id hi=>bS.2 (.inr hi),fun k hk hd=>h.dp.mem k hk hd⟩,h.rz,fun id a hi hd=>h.bx id a hi fun hh=>hd (bS.2 (.inl hh))⟩
theorem aE7{pc:eH}{ac:FuncId→Array Value→St→Option (Value×St)}(hcall:fN pc ac){N id:Nat}{ops:Array Oper}{draw:Bool}{ms:List Nat}{sc:List aER}{p p':PSt}{S':PS}
    (hok:bV P N (.region id ops draw)=true) (hsc:sL (.region id ops draw ms sc)) (M:Mem ν γ p σ) (F:FR ν γ σ S A)
    (h:(bif draw then(fitP ops (gH P pc ops ms sc [] S (cln p))).map (fun r=>(r.1,dty p r.2))else aAE P pc ops sc S p)=some (S',p')):
    ∃A' σ' ν' γ',dN P ac ops draw A σ=some (A',σ')∧Mem ν' γ' p' σ'∧FR ν' γ' σ' S' A'∧Adv ν γ p σ ν' γ' p' σ'∧(∀j,j<σ.next→σ.get j=none→σ'.get j=none):=by
 simp only[bV,bjE,List.all_eq_true,Bool.or_eq_true,Bool.not_eq_true']at hok;obtain⟨hops,hdr⟩:=hok;have hops': ∀o∈ops.toList,o.op.operands.all (aI P)=true:=fun o ho=>by
  have:=hops o ho;simp only[mE,bjE]at this;exact this.2
 unfold dN;cases draw with
 |false=>
  simp only[cdf]at h⊢;simp only[sL]at hsc;obtain⟨A',σ',ν',γ',h1,h2,h3,h4,h5⟩:=runP_ok hcall (base:=σ.next) hops' sc 0 ν γ S p A {σ with next:=σ.next+ops.size} S' p' (by simpa [List.range_eq_range']using hsc) (Nat.zero_le _) (nlR _)
   (fun j _ hj=>M.free _ (Nat.le_add_right _ _)) (M.more _) (F.more _) h
  exact⟨A',σ',ν',γ',h1,h2,h3,(Adv.more _).trans h4,fun j hj hn=>h5 j hj hn⟩
 |true=>
  simp only[cdt]at h⊢;simp only[sL,if_true]at hsc;obtain⟨rfl,hsc⟩:=hsc;have hD:=hdr.resolve_left (by simp)
  obtain⟨hnd,hlt⟩:=vJ hD;simp only[mjE,pjE]at h;obtain⟨⟨S2,p2⟩,h,rfl,rfl⟩:=h;obtain⟨h,htw⟩:=aHA h;obtain⟨A',σ',ν',γ',h1,h2,h3,h4,h5⟩:=runDP_ok hcall (base:=σ.next) hops' sc [] [] ν γ S (cln p) A {σ with next:=σ.next+ops.size} S2 p2 (by rw[hsc];exact hnd)
   (fun j hj=>⟨(hlt j (by rw[←hsc];exact hj)).1,M.free _ (Nat.le_add_right _ _)⟩) (nlR _) (fun r hr=>by simp at hr) (M.cln.more _) (F.more _) h
  rw[hsc]at h1;refine⟨A',σ',ν',γ',?_,h2.dty p,h3,(Adv.more _).trans h4.dty,fun j hj hn=>h5 j hj hn⟩
  rw[h1];simp only[fitTw,okTw_ok h2 h3 htw,cdt]
def ExOK(P:Program)(ac:FuncId→Array Value→St→Option (Value×St))(L:Nat)(run:PS→PSt→Option (Fl×PS×PSt))(arun:Slots→St→Option (Fl×Slots×St)):Prop:=
 ∀(ν:Nu) (γ:Ga) (S:PS) (p:PSt) (A:Slots) (σ:St) (fl:Fl) (S':PS) (p':PSt),Mem ν γ p σ→FR ν γ σ S A→run S p=some (fl,S',p')→
  ∃A' σ' ν' γ',arun A σ=some (fl,A',σ')∧Mem ν' γ' p' σ'∧FR ν' γ' σ' S' A'∧Adv ν γ p σ ν' γ' p' σ'∧(∀j,j<σ.next→σ.get j=none→σ'.get j=none)
theorem iterP_ok{ac:FuncId→Array Value→St→Option (Value×St)}{L:Nat}{run:PS→PSt→Option (Fl×PS×PSt)}{arun:Slots→St→Option (Fl×Slots×St)}(h:ExOK P ac L run arun): ∀n,ExOK P ac L (vO run n) (iter arun n):=by
 intro n;induction n with
 |zero=>intro ν γ S p A σ fl S' p' M F hr;simp only[vO]at hr;cases hr
 |succ n ih=>
  intro ν γ S p A σ fl S' p' M F hr;simp only[vO]at hr;simp only[iter];cases hb:run S p with
  |none=>rw[hb]at hr;cases hr
  |some r=>
   obtain⟨f1,S1,p1⟩:=r;rw[hb]at hr;obtain⟨A1,σ1,ν1,γ1,k1,k2,k3,k4,k5⟩:=h ν γ S p A σ f1 S1 p1 M F hb;rw[k1];cases f1 with
   |normal=>
    simp only at hr⊢;obtain⟨A',σ',ν',γ',j1,j2,j3,j4,j5⟩:=ih ν1 γ1 S1 p1 A1 σ1 fl S' p' k2 k3 hr;exact⟨A',σ',ν',γ',j1,j2,j3,k4.trans j4,fun j hj hn=>j5 j (Nat.lt_of_lt_of_le hj k4.keep.next) (k5 j hj hn)⟩
   |exit m=>
    simp only[ojE,pjE]at hr;obtain⟨rfl,rfl,rfl⟩:=hr;exact⟨A1,σ1,ν1,γ1,rfl,k2,k3,k4,k5⟩
   |ret=>
    simp only[ojE,pjE]at hr;obtain⟨rfl,rfl,rfl⟩:=hr;exact⟨A1,σ1,ν1,γ1,rfl,k2,k3,k4,k5⟩
theorem execP_ok{pc:eH}{ac:FuncId→Array Value→St→Option (Value×St)}(hcall:fN pc ac)(L N:Nat): ∀(c:PC),sL c→bV P N (bZ c)=true→ExOK P ac L (cM P pc L c) (aS P ac L (bZ c)):=by
 intro c;induction c with
 |skip=>
  intro _ _ ν γ S p A σ fl S' p' M F h;simp only[cM,ojE,pjE]at h;obtain⟨rfl,rfl,rfl⟩:=h;exact⟨A,σ,ν,γ,rfl,M,F,.refl ν γ _ σ,fun j _ h=>h⟩
 |label l=>
  intro _ _ ν γ S p A σ fl S' p' M F h;simp only[cM,ojE,pjE]at h;obtain⟨rfl,rfl,rfl⟩:=h;exact⟨A,σ,ν,γ,rfl,M,F,.refl ν γ _ σ,fun j _ h=>h⟩
 |region id ops draw ms sc=>
  intro hk hok ν γ S p A σ fl S' p' M F h;simp only[cM,mjE,pjE]at h;obtain⟨⟨S1,p1⟩,hr,rfl,rfl,rfl⟩:=h;obtain⟨A',σ',ν',γ',h1,h2,h3,h4,h5⟩:=aE7 hcall hok hk M F hr;exact⟨A',σ',ν',γ',by simp only[bZ,aS,h1];rfl,h2,h3,h4,h5⟩
 |seq a b iha ihb=>
  intro hk hok ν γ S p A σ fl S' p' M F h;simp only[bZ,bV,bjE]at hok;simp only[cM]at h;simp only[bZ,aS];cases hb:cM P pc L a S p with
  |none=>rw[hb]at h;cases h
  |some r=>
   obtain⟨f1,S1,p1⟩:=r;rw[hb]at h;obtain⟨A1,σ1,ν1,γ1,k1,k2,k3,k4,k5⟩:=iha hk.1 hok.1 ν γ S p A σ f1 S1 p1 M F hb;rw[k1];cases f1 with
   |normal=>
    simp only at h⊢;obtain⟨A',σ',ν',γ',j1,j2,j3,j4,j5⟩:=ihb hk.2 hok.2 ν1 γ1 S1 p1 A1 σ1 fl S' p' k2 k3 h;exact⟨A',σ',ν',γ',j1,j2,j3,k4.trans j4,fun j hj hn=>j5 j (Nat.lt_of_lt_of_le hj k4.keep.next) (k5 j hj hn)⟩
   |exit m=>
    simp only[ojE,pjE]at h;obtain⟨rfl,rfl,rfl⟩:=h;exact⟨A1,σ1,ν1,γ1,rfl,k2,k3,k4,k5⟩
   |ret=>
    simp only[ojE,pjE]at h;obtain⟨rfl,rfl,rfl⟩:=h;exact⟨A1,σ1,ν1,γ1,rfl,k2,k3,k4,k5⟩
 |cond x a b iha ihb=>
  intro hk hok ν γ S p A σ fl S' p' M F h;simp only[bZ,bV,bjE]at hok;simp only[cM]at h;have hx:=aT F hok.1.1;split at h
  ·rename_i e;rw[e]at hx;obtain⟨A',σ',ν',γ',k1,k2⟩:=iha hk.1 hok.1.2 ν γ S p A σ fl S' p' M F h;refine⟨A',σ',ν',γ',?_,k2⟩;simp only[bZ,aS];generalize ev A x=w at hx;cases hx;exact k1
  ·rename_i e;rw[e]at hx;obtain⟨A',σ',ν',γ',k1,k2⟩:=ihb hk.2 hok.2 ν γ S p A σ fl S' p' M F h;refine⟨A',σ',ν',γ',?_,k2⟩;simp only[bZ,aS];generalize ev A x=w at hx;cases hx;exact k1
  ·cases h
 |block id c ih=>
  intro hk hok ν γ S p A σ fl S' p' M F h;simp only[bZ,bV]at hok;simp only[cM]at h;simp only[bZ,aS];cases hb:cM P pc L c S p with
  |none=>rw[hb]at h;cases h
  |some r=>
   obtain⟨f1,S1,p1⟩:=r;rw[hb]at h;obtain⟨A1,σ1,ν1,γ1,k1,k2,k3,k4,k5⟩:=ih hk hok ν γ S p A σ f1 S1 p1 M F hb;rw[k1];cases f1 with
   |normal=>
    simp only[ojE,pjE]at h;obtain⟨rfl,rfl,rfl⟩:=h;exact⟨A1,σ1,ν1,γ1,rfl,k2,k3,k4,k5⟩
   |exit m=>
    simp only at h⊢;cases he:Nat.beq m id with
    |true=>
     simp only[he,cdt,ojE,pjE]at h⊢;obtain⟨rfl,rfl,rfl⟩:=h;exact⟨A1,σ1,ν1,γ1,⟨rfl,rfl,rfl⟩,k2,k3,k4,k5⟩
    |false=>
     simp only[he,cdf,ojE,pjE]at h⊢;obtain⟨rfl,rfl,rfl⟩:=h;exact⟨A1,σ1,ν1,γ1,⟨rfl,rfl,rfl⟩,k2,k3,k4,k5⟩
   |ret=>
    simp only[ojE,pjE]at h;obtain⟨rfl,rfl,rfl⟩:=h;exact⟨A1,σ1,ν1,γ1,rfl,k2,k3,k4,k5⟩
 |loop c ih=>
  intro hk hok;simp only[bZ,bV]at hok;exact iterP_ok (ih hk hok) L
 |exit id=>
  intro _ _ ν γ S p A σ fl S' p' M F h;simp only[cM,ojE,pjE]at h;obtain⟨rfl,rfl,rfl⟩:=h;exact⟨A,σ,ν,γ,rfl,M,F,.refl ν γ _ σ,fun j _ h=>h⟩
 |ret=>
  intro _ _ ν γ S p A σ fl S' p' M F h;simp only[cM,ojE,pjE]at h;obtain⟨rfl,rfl,rfl⟩:=h;exact⟨A,σ,ν,γ,rfl,M,F,.refl ν γ _ σ,fun j _ h=>h⟩
 |scope c ih=>
  intro hk hok;simp only[bZ,bV]at hok;exact ih hk hok
 |other c=>intro _ _ ν γ S p A σ fl S' p' M F h;simp only[cM]at h;cases h
 |drop ts c ih=>
  intro hk hok ν γ S p A σ fl S' p' M F h;simp only[cM]at h;exact ih hk hok ν γ _ p A σ fl S' p' M (F.keeps ts) h
 |ice t c ih=>
  intro hk hok ν γ S p A σ fl S' p' M F h;simp only[cM]at h;split at h
  ·rename_i S1 p1 h1;obtain⟨ν1,M1,F1,A1⟩:=nD M F h1;obtain⟨A',σ',ν',γ',k1,k2,k3,k4,k5⟩:=ih hk hok ν1 γ S1 p1 A σ fl S' p' M1 F1 h;exact⟨A',σ',ν',γ',k1,k2,k3,A1.trans k4,k5⟩
  ·cases h
theorem aDZ: ∀(l:List (PV×Bool)) (i:Nat) (S:PS) (k:Nat),(vZ l i S).at k=if i≤k∧k<i+l.length then(l[k-i]?).getD (.und,false)else S.at k:=by
 intro l;induction l with
 |nil=>intro i S k;simp[vZ];omega
 |cons x l ih=>
  intro i S k;simp only[vZ,ih,kU,lcS];by_cases h:k=i
  ·subst h;simp;omega
  ·by_cases h2:i+1≤k∧k<i+1+l.length
   ·rw[if_pos h2,if_pos (by omega),show k-i=(k-(i+1))+1 by omega,gcS]
   ·rw[if_neg h2,if_neg h,if_neg (by omega)]
theorem FR.fill{args:List (PV×Bool)}{us:List Value}(r:RL ν σ (args.map (·.1)) us)(ho: ∀(i:Nat) (x:PV) (w:Value),args[i]?=some (x,true)→us[i]?=some w→Ow ν γ σ (.slot i) x w):FR ν γ σ (vZ args 0 .none) (gF us 0 .nil):=by
 intro t;rw[aDZ,pS];have hl:args.length=us.length:=by have:=r.1;simpa using this
 by_cases h:0≤t∧t<0+args.length
 ·rw[if_pos h,if_pos (by rw[←hl];exact h)]
  have h1:args[t]?=some (args[t]'(by omega)):=geG _
  obtain⟨u,h2,h3⟩:=r.get (i:=t) (x:=(args[t]'(by omega)).1) (by rw[List.getElem?_map,h1];rfl)
  simp only[Nat.sub_zero,h1,h2,Option.getD_some];refine⟨h3,fun hb=>ho t _ u ?_ h2⟩
  rw[h1,←hb]
 ·rw[if_neg h];exact⟨.und _,fun h=>(by cases h)⟩
theorem aAW{p:PSt}(M:Mem ν γ p σ)(F:FR ν γ σ S A): ∀(l:List ResultVar) (vs:List (PV×Bool)),cP P S p l=some vs→∃us,cG P A σ l=some us∧RL ν σ (vs.map (·.1)) us:=by
 intro l;induction l with
 |nil=>intro vs h;simp only[cP,ojE]at h;subst h;exact⟨[],rfl,.nil⟩
 |cons r l ih=>
  intro vs h;simp only[cP]at h;split at h
  ·rename_i v vs' hv hvs;simp only[ojE]at h;subst h;obtain⟨us,h1,h2⟩:=ih vs' hvs;have: ∃u,qD P A σ r=some u∧R ν σ v.1 u:=by
    cases r with
    |tmp t=>simp only[kZ,ojE]at hv;subst hv;exact⟨_,rfl,(F t).1⟩
    |cell a t=>
     simp only[kZ,mjE]at hv;obtain⟨v',hl,rfl⟩:=hv;exact vB M (F a).1 hl
   obtain⟨u,h3,h4⟩:=this;exact⟨u::us,by simp only[cG,h3,h1],.cons h4 h2⟩
  ·cases h
theorem first_ok{p:PSt}(M:Mem ν γ p σ)(F:FR ν γ σ S A){r:ResultVar}{l:List ResultVar}{v:PV×Bool}{vs:List (PV×Bool)}(h:cP P S p (r::l)=some (v::vs)){u:Value}{us:List Value}(h1:cG P A σ (r::l)=some (u::us))(h3:R ν σ v.1 u):
    ∃γ',(((v.2||gJ v.1)&& !isE v.1)=true→Ow ν γ' σ .hand (wk v.1) u)∧G2 γ γ':=by
 cases r with
 |tmp t=>
  have hv:v=S.at t:=by
   simp only[cP,kZ]at h;split at h
   ·rename_i v' vs' e1 e2;simp only[ojE,List.cons.injEq]at h e1;rw[←h.1,←e1]
   ·cases h
  have hu:u=A.at t:=by
   simp only[cG,qD]at h1;split at h1
   ·rename_i v' vs' e1 e2;simp only[ojE,List.cons.injEq]at h1 e1;rw[←h1.1,←e1]
   ·cases h1
  refine⟨PI.mv (.slot t) .hand γ,fun ho=>?_,.mv (by simp) (by simp)⟩
  simp only[bjE]at ho;subst hv;subst hu;have how:Ow ν (PI.mv (.slot t) .hand γ) σ .hand (S.at t).1 (A.at t):=by
   cases hs:(S.at t).2 with
   |true=>exact((F t).2 hs).mv (k':= .hand)
   |false=>
    rw[hs,Bool.false_or]at ho;have h5:=(F t).1;cases hx:(S.at t).1 with
    |nil=>rw[hx]at h5;generalize A.at t=w at h5⊢;cases h5;exact .nil _
    |_=>rw[hx]at ho;cases ho.1
  exact how.wk (by simpa using ho.2)
 |cell a t=>
  refine⟨γ,fun ho=>?_,.refl γ⟩
  simp only[cP,kZ]at h;split at h
  ·rename_i v' vs' e1 e2;simp only[ojE,List.cons.injEq]at h;simp only[mjE]at e1;obtain⟨v2,_,rfl⟩:=e1;simp only[←h.1,Bool.false_or,bjE]at ho⊢;rw[←h.1]at h3;cases v2 with
   |nil=>cases h3;exact .nil _
   |_=>cases ho.1
  ·cases h
theorem aFw{p:PSt}(M:Mem ν γ p σ)(F:FR ν γ σ S A){l:List ResultVar}{vs:List (PV×Bool)}(h:cP P S p l=some vs):
    ∃us γ',cG P A σ l=some us∧R ν σ (bF vs).1 (rU us)∧((bF vs).2=true→Ow ν γ' σ .hand (bF vs).1 (rU us))∧G2 γ γ':=by
 obtain⟨us,h1,h2⟩:=aAW M F l vs h;cases vs with
 |nil=>
  have:=h2.nil_inv;subst this;exact⟨[],γ,h1,.mkTup .nil,fun h=>(by cases h),.refl γ⟩
 |cons v vs=>
  cases l with
  |nil=>simp[cP]at h
  |cons r l=>
   obtain⟨u,us',rfl,h3,h4⟩:=h2.cons_inv;obtain⟨γ',g1,g2⟩:=first_ok M F h h1 h3;cases vs with
   |nil=>
    have:=h4.nil_inv;subst this;exact⟨[u],γ',h1,h3.wk,g1,g2⟩
   |cons v2 vs=>
    obtain⟨u2,us'',rfl,h5,h6⟩:=h4.cons_inv;refine⟨_,γ',h1,.mkTup h2.wks,fun h=>?_,g2⟩
    simp only[bF]at h;rw[bjE]at h;refine .tup _ _ u _ ?_ (g1 h.1);have h5:=h.2;show(wk v.1).one=true;generalize v.1=x at h5⊢;cases x with
    |sl z es=>cases es<;>rfl
    |emp=>rfl
    |nil=>rfl
    |_=>cases h5
end
end Go.PI
namespace Go.PI
open Go.AI
def uni:List Nat→List Nat→List Nat
 |[],l=>l
 |x::xs,l=>bif l.contains x then uni xs l else x::uni xs l
def del(l:List Nat)(k:List Nat):List Nat:=l.filter fun x=> !k.contains x
def tmpOf:Operand→List Nat
 | .tmp t=>[t]
 |_=>[]
def usesOf(ops:Array Oper)(o:Oper):List Nat:=
 o.op.operands.toList.flatMap tmpOf++(match o.guard with|some (j,_)=>(match ops[j]? with|some q=>q.dst.toList|none=>[])|none=>[])
def aHk(ops:Array Oper):List Oper→List Nat→List Nat
 |[],out=>out
 |o::os,out=>uni (usesOf ops o) (del (aHk ops os out) o.dst.toList)
def lv(rs:List Nat):Code→List Nat→List (Nat×List Nat)→List Nat
 | .region _ ops _,out,_=>aHk ops ops.toList out
 | .seq a b,out,ex=>lv rs a (lv rs b out ex) ex
 | .cond c a b,out,ex=>uni (tmpOf c) (uni (lv rs a out ex) (lv rs b out ex))
 | .block id c,out,ex=>lv rs c out ((id,out)::ex)
 | .loop c,_,ex=>lv rs c [] ex
 | .exit id,_,ex=>match ex.find? fun e=>Nat.beq e.1 id with|some e=>e.2|none=>[]
 | .ret,_,_=>rs
 | .scope c,out,ex=>lv rs c out ex
 |_,out,_=>out
def isApp(ops:Array Oper)(a i s:Nat):Bool:=
 match ops[a]?,ops[i]?,ops[s]? with
 |some oA,some oI,some oS=>
  match oA.op,oA.dst,oI.op,oI.dst,oS.op with
  | .call c,some d,.indexAddr _ (.tmp d') _,some b,.store _ (.tmp b') _=>iD oA&&Nat.beq d d'&&Nat.beq b b'
  |_,_,_,_,_=>false
 |_,_,_=>false
end Go.PI
