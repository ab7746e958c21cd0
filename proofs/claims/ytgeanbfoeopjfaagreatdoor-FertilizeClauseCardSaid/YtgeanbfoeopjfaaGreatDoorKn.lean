import Derived.Test.YtgeanbfoeopjfaaGreatDoorKm
import Derived.Test.YtgeanbfoeopjfaaGreatDoorKg
import Derived.Test.YtgeanbfoeopjfaaGreatDoorProg
set_option linter.unusedVariables false
set_option linter.unusedSimpArgs false
set_option linter.constructorNameAsVariable false
namespace Go.Rf
open Go.AI Go.Proofs
section
variable(call:FuncId→Array Value→St→Option (Value×St))(L:Nat)(σ:St)
def k1(j:Nat):Oper:=clO1.toList.getD j (mkO none (.move (.tmp 0)) 0)
def k2(j:Nat):Oper:=clO2.toList.getD j (mkO none (.move (.tmp 0)) 0)
theorem b10{S:Slots}{σ:St}{b i:Nat}:aop Tryz.prog call b i (k1 0) S σ=aop Tryz.prog call b i (k1 0) (one0 (S.at 0)) σ:=by kernel_rfl
theorem b10s{σ:St}{b i n c:Nat}{a:Option Addr}:aop Tryz.prog call b i (k1 0) (one0 (.slice a n c)) σ=some (goInt (n:Int),σ):=by kernel_rfl
theorem b11{S:Slots}{σ:St}{b i:Nat}:aop Tryz.prog call b i (k1 1) S σ=aop Tryz.prog call b i (k1 1) (one3 (S.at 3)) σ:=by kernel_rfl
theorem b11t{σ:St}{b i:Nat}:aop Tryz.prog call b i (k1 1) (one3 (goInt ((0:Nat):Int))) σ=some (.bool true,σ):=by kernel_rfl
theorem b11f{σ:St}{b i n:Nat}:aop Tryz.prog call b i (k1 1) (one3 (goInt ((n+1:Nat):Int))) σ=some (.bool false,σ):=by kernel_rfl
theorem b20{S:Slots}:aop Tryz.prog call (σ.next+3) 0 (k2 0) S {σ with next:=σ.next+7}=some (.slice (some ⟨σ.next+3,0,none⟩) 0 0,clS σ):=by kernel_rfl
theorem b21{S:Slots}{σ:St}{b i:Nat}:aop Tryz.prog call b i (k2 1) S σ=aop Tryz.prog call b i (k2 1) (one0 (S.at 0)) σ:=by kernel_rfl
theorem b21z{σ:St}{b i c:Nat}{a:Option Addr}:aop Tryz.prog call b i (k2 1) (one0 (.slice a 0 c)) σ=some (pH a,σ):=by kernel_rfl
theorem b22{S:Slots}{σ:St}{b i:Nat}:aop Tryz.prog call b i (k2 2) S σ=some (S.at 0,σ):=by kernel_rfl
theorem b23{S:Slots}{σ:St}{b i:Nat}:aop Tryz.prog call b i (k2 3) S σ=some (S.at 0,σ):=by kernel_rfl
theorem headC{S:Slots}{u w:Value}(hu:S.at 0=u)(hl: ∀(σ:St) b i,aop Tryz.prog call b i (k1 0) (one0 u) σ=some (w,σ)){q:Bool}(hq: ∀(σ:St) b i,aop Tryz.prog call b i (k1 1) (one3 w) σ=some (.bool q,σ)):
    bG Tryz.prog call L (aAb clB) S σ=(bif q then bG Tryz.prog call L (.seq (.seq (.region 2 clO2 false) .ret) clR) (((S.store (some 2) (.slice none 0 0)).store (some 3) w).store (some 4) (.bool q)) {σ with next:=σ.next+3}
      else bG Tryz.prog call L clR (((S.store (some 2) (.slice none 0 0)).store (some 3) w).store (some 4) (.bool q)) {σ with next:=σ.next+3}):=by
 have h0:bG Tryz.prog call L (.region 0 (kO 0) false) S σ=some (.normal,S.store (some 2) (.slice none 0 0),{σ with next:=σ.next+1}):=by
  refine regN call L ?_;rw[l0,n0,aV call g00 (a00 call),d00];rfl
 have h1:bG Tryz.prog call L (.region 1 clO1 false) (S.store (some 2) (.slice none 0 0)) {σ with next:=σ.next+1}=some (.normal,((S.store (some 2) (.slice none 0 0)).store (some 3) w).store (some 4) (.bool q),{σ with next:=σ.next+3}):=by
  refine regN call L ?_;have e0:(S.store (some 2) (.slice none 0 0)).at 0=u:=by rw[Go.Rf.at_store,if_neg (by decide)];exact hu
  have e3:((S.store (some 2) (.slice none 0 0)).store (some 3) w).at 3=w:=by rw[Go.Rf.at_store,if_pos rfl]
  rw[show clO1.toList=[k1 0,k1 1] from rfl,show clO1.size=2 from rfl,aV call (show(k1 0).guard=none from rfl) (by rw[b10,e0];exact hl _ _ _),show(k1 0).dst=some 3 from rfl,
   aV call (show(k1 1).guard=none from rfl) (by rw[b11,e3];exact hq _ _ _),show(k1 1).dst=some 4 from rfl];rfl
 have e4:ev (((S.store (some 2) (.slice none 0 0)).store (some 3) w).store (some 4) (.bool q)) (.tmp 4)= .bool q:=by
  show Slots.at _ 4=_;rw[Go.Rf.at_store,if_pos rfl]
 rw[clC_eq,seqN call L h0];cases q with
 |true=>
  rw[cdt,bG,seqN call L h1,condT call L e4]
  conv=>rhs;rw[bG]
 |false=>
  rw[cdf,bG,seqN call L h1,condF call L e4,bG]
theorem headN{S:Slots}{u:Value}(hu:S.at 0=u)(hl: ∀(σ:St) b i,aop Tryz.prog call b i (k1 0) (one0 u) σ=none):bG Tryz.prog call L (aAb clB) S σ=none:=by
 have h0:bG Tryz.prog call L (.region 0 (kO 0) false) S σ=some (.normal,S.store (some 2) (.slice none 0 0),{σ with next:=σ.next+1}):=by
  refine regN call L ?_;rw[l0,n0,aV call g00 (a00 call),d00];rfl
 have e0:(S.store (some 2) (.slice none 0 0)).at 0=u:=by rw[Go.Rf.at_store,if_neg (by decide)];exact hu
 have h1:bG Tryz.prog call L (.region 1 clO1 false) (S.store (some 2) (.slice none 0 0)) {σ with next:=σ.next+1}=none:=by
  rw[bG,dL,cdf,show clO1.toList=[k1 0,k1 1] from rfl,nU call (show(k1 0).guard=none from rfl) (by rw[b10,e0];exact hl _ _ _)];rfl
 rw[clC_eq,seqN call L h0,bG,bG,h1]
theorem c_zeroS{S:Slots}{a:Option Addr}{c:Nat}(hu:S.at 0= .slice a 0 c):cB Tryz.prog clF (bG Tryz.prog call L (aAb clB) S σ)=some (pH a,clS σ):=by
 rw[headC call L σ hu (fun _ _ _=>b10s call) (q:=true) (fun _ _ _=>b11t call),cdt]
 have h2: ∀T:Slots,T.at 0= .slice a 0 c→bG Tryz.prog call L (.region 2 clO2 false) T {σ with next:=σ.next+3}=some (.normal,(((T.store (some 5) (.slice (some ⟨σ.next+3,0,none⟩) 0 0)).store (some 2) (pH a)).store (some 6) (.slice a 0 c)).store (some 6) (.slice a 0 c),clS σ):=fun T hT=>regN call L (by
  have q1:(T.store (some 5) (.slice (some ⟨σ.next+3,0,none⟩) 0 0)).at 0= .slice a 0 c:=by rw[Go.Rf.at_store,if_neg (by decide)];exact hT
  have q2:((T.store (some 5) (.slice (some ⟨σ.next+3,0,none⟩) 0 0)).store (some 2) (pH a)).at 0= .slice a 0 c:=by rw[Go.Rf.at_store,if_neg (by decide)];exact q1
  have q3:(((T.store (some 5) (.slice (some ⟨σ.next+3,0,none⟩) 0 0)).store (some 2) (pH a)).store (some 6) (.slice a 0 c)).at 0= .slice a 0 c:=by rw[Go.Rf.at_store,if_neg (by decide)];exact q2
  rw[show clO2.toList=[k2 0,k2 1,k2 2,k2 3] from rfl,show clO2.size=4 from rfl]
  refine(aV call (show(k2 0).guard=none from rfl) (b20 call σ)).trans ?_
  refine(aV call (σ1:=clS σ) (v:=pH a) (show(k2 1).guard=none from rfl) ?_).trans ?_
  ·rw[show(k2 0).dst=some 5 from rfl,b21,q1];exact b21z call
  refine(aV call (σ1:=clS σ) (v:= .slice a 0 c) (show(k2 2).guard=none from rfl) ?_).trans ?_
  ·rw[show(k2 0).dst=some 5 from rfl,show(k2 1).dst=some 2 from rfl,b22,q2]
  refine(aV call (σ1:=clS σ) (v:= .slice a 0 c) (show(k2 3).guard=none from rfl) ?_).trans ?_
  ·rw[show(k2 0).dst=some 5 from rfl,show(k2 1).dst=some 2 from rfl,show(k2 2).dst=some 6 from rfl,b23,q3]
  rfl)
 rw[seqR call L ((seqN call L (h2 _ (at0 hu))).trans (by rw[bG])),fnC,Go.Rf.at_store,if_neg (by decide),Go.Rf.at_store,if_neg (by decide),Go.Rf.at_store,if_pos rfl]
theorem c_consS{S:Slots}{a:Addr}{n c:Nat}(hu:S.at 0= .slice (some a) (n+1) c):cB Tryz.prog clF (bG Tryz.prog call L (aAb clB) S σ)=cB Tryz.prog Tryz.f87 (bG Tryz.prog call L clB S σ):=by
 rw[aGd call L σ hu,headC call L σ hu (fun _ _ _=>b10s call) (q:=false) (fun _ _ _=>b11f call),cdf]
 exact R_eqS call L σ (at0 hu) fnC rfl
end
end Go.Rf
namespace Go.Rf
open Go.AI Go.Proofs
theorem fill_0(u:Value)(rest:List Value):(jC (u::rest) 0 .nil).at 0=u:=by
 rw[uO,if_pos ⟨nlR _,by simp⟩];rfl
theorem fill_n:(jC [] 0 .nil).at 0=undef:=rfl
theorem aHG(w0:W0):aIN w0 Tryz.prog 87 clF (aAb clB):=by
 refine⟨⟨_,_,aHH,aHI,by kernel_rfl⟩,?_⟩
 intro call L hcall args args' σ σ' w μ r h Z hargs _;have hc:=hcall w0 rfl;have run:=fun{args2:Array Value} {σ1 σ2:St} {r2:Value} (h2:cB Tryz.prog Tryz.f87 (bG Tryz.prog call L clB (jC args2.toList 0 .nil) σ1)=some (r2,σ2)) (Z2:Sim w0 Tryz.prog μ σ1 w) (ha:VRL μ args2.toList args'.toList)=>
  (vQ (P:=Tryz.prog) mixed_ aHH aHI cl_ok hc h2 Z2 ha).2
 cases hA:args.toList with
 |nil=>
  rw[hA,headN call L σ fill_n (fun _ _ _=>by kernel_rfl)]at h
  exact absurd ((by kernel_rfl:none=cB Tryz.prog clF none).trans h) (fun e=>by cases e)
 |cons u rest=>
  rw[hA]at h hargs;obtain⟨u',rest',hA',ru,rr⟩:=hargs.cons_inv;have hu:=fill_0 u rest;have hsl: ∃a n c,u= .slice a n c:=by
   cases u with
   |slice a n c=>exact⟨a,n,c,rfl⟩
   |_=>
    rw[headN call L σ hu (fun _ _ _=>by kernel_rfl)]at h
    exact absurd ((by kernel_rfl:none=cB Tryz.prog clF none).trans h) (fun e=>by cases e)
  obtain⟨a,n,c,rfl⟩:=hsl;cases n with
  |zero=>
   rw[c_zeroS call L σ hu]at h;simp only[ojE,pjE]at h;obtain⟨rfl,rfl⟩:=h;cases a with
   |none=>
    obtain⟨_,rfl,rfl⟩:=ru.nilslc_inv;have Z2:Sim w0 Tryz.prog μ (({σ with next:=σ.next+3}:St).put (σ.next+3) (.cells [] (bE 11))) w:=
     (Z.next (by omega)).put_new (Z.dom _ (by omega)) (fun cs m g v e1 e2=>by cases e1;cases e2)
    have h2:=p_nilS call L (({σ with next:=σ.next+3}:St).put (σ.next+3) (.cells [] (bE 11))) hu
    refine(run (args2:=args) (by rw[hA];exact h2) Z2 (by rw[hA];exact hargs)).mono ?_
    rintro e w' ⟨μ',r',he,hr,hZ,hE,hn⟩;refine⟨μ',r',he,hr,hZ,⟨hE.1,fun id hi=>hE.2 id ?_⟩,?_⟩
    ·show id<σ.next+3;omega
    ·show σ.next≤σ.next+7;omega
   |some a=>
    have hus: ∃a' cap,u'= .slice (some a') 0 cap:=by
     cases ru with
     |same _ h=>simp[aC]at h
     |slc=>exact⟨_,_,rfl⟩
     |emp=>exact⟨_,_,rfl⟩
    obtain⟨a',cap,rfl⟩:=hus;have h2:=p_empS call L σ (fill_0 xN rest);refine(run (args2:=(xN::rest).toArray) (by simpa using h2) Z (by rw[hA'];exact VRL.cons (x:=xN) (.emp a' 0 cap (fun e=>by cases e)) rr)).mono ?_
    rintro e w' ⟨μ',r',he,hr,hZ,hE,hn⟩;obtain⟨p,cap',hp,rfl,hcap,_⟩:=hr.slc_inv;obtain rfl:=hcap rfl;exact⟨μ',_,he,.emp _ 1 0 (fun _=>rfl),hZ,hE,hn⟩
  |succ n=>
   cases a with
   |none=>exact absurd ru.nilslc_inv.1 (by simp)
   |some a=>
    rw[c_consS call L σ hu]at h;exact run (args2:=args) (by rw[hA];exact h) Z (by rw[hA];exact hargs)
end Go.Rf
namespace Go.AI
variable{P:Program}
def Known(w0:W0)(P:Program)(f:FuncId)(fn:Func)(c:Code):Prop:=
 ∀(call:FuncId→Array Value→St→Option (Value×St)) (L:Nat) (args:Array Value) (σ σ':St) (r:Value),
  aEG P f args.size=true→cB P fn (bG P call L c (jC args.toList 0 .nil) σ)=some (r,σ')→
  args.toList.all aC=true∧(∃n,σ.next≤n∧σ'={σ with next:=n})∧∃r',(∀μ,VR μ r r')∧
   ∀w,Kept w0.toWorld w→Calls P f args w fun e w'=>e= .returned r'∧Kept w w'
theorem vS {w0 : W0} {f : FuncId} {fn : Func} {c : Code} (h1 : ∃ fn c, P.funcs[f]? = some fn ∧ fn.body = some c ∧ (fn.name == "runtime.NumGoroutine") = false)
    (h2:Known w0 P f fn c):aIN w0 P f fn c:=by
 refine⟨h1,?_⟩;intro call L hcall args args' σ σ' w μ r h Z hargs har;obtain⟨hp,⟨n,hn,rfl⟩,r',hr,hc⟩:=h2 call L args σ σ' r har h;have e:args'.toList=args.toList:=hargs.eq0 hp;have e':args'=args:=by rw[←Array.toArray_toList (xs:=args'),e]
 subst e';exact(hc w Z.kept.toKept).mono fun e w' ⟨h5,h6⟩=>⟨μ,r',h5,hr μ,(Z.keep h6).next hn,.refl _ _,hn⟩
def tD(C:Program)(f:FuncId)(fn:Func):Program:={C with funcs:=⟨C.funcs.toList.set f fn⟩}
theorem aFu{C:Program}{f g:FuncId}{fn fn':Func}(h:(tD C f fn).funcs[g]?=some fn'):(g=f∧fn'=fn)∨C.funcs[g]?=some fn':=by
 have h1:(C.funcs.toList.set f fn)[g]?=some fn':=by simpa [tD]using h
 by_cases e:g=f
 ·subst e;left;rw[List.getElem?_set]at h1;simp only[if_true]at h1;split at h1
  ·exact⟨rfl,(Option.some.inj h1).symm⟩
  ·cases h1
 ·right;rw[List.getElem?_set,if_neg (Ne.symm e)]at h1;simpa using h1
theorem oO{w0:W0}{C:Program}{f:FuncId}{fn:Func}{c:Code}(hC:sT w0 P C)(hb:fn.body=some c)(hr:aIN w0 P f fn c):sT w0 P (tD C f fn):=by
 intro g fn' c' h1 h2;rcases aFu h1 with⟨rfl,rfl⟩|h3
 ·right;rw[hb]at h2;cases h2;exact hr
 ·exact hC g fn' c' h3 h2
end Go.AI
namespace Go.AI
variable{P:Program}
def stK(P:Program):St:=⟨.nil,.nil,P.globals.size⟩
def muK(P:Program):Mp:=fun id=>if id<P.globals.size then some ⟨id,0,0,0⟩else none
theorem muK_lt{id:Nat}{p:Place}(h:muK P id=some p):id<P.globals.size∧p.b=id:=by
 unfold muK at h;split at h
 ·cases h;exact⟨‹_›,rfl⟩
 ·cases h
theorem aAA(id:Nat):(stK P).get id=none:=rfl
theorem simK{w:World}(hg:P.globals.size≤w.heap.size):Sim (W0.of w) P (muK P) (stK P) w where
 kept:=KeptO.refl fun id p h=>by obtain⟨h1,h2⟩:=muK_lt h;omega
 dom id h:=by
  unfold muK;rw[if_neg (show¬id<P.globals.size from by have:P.globals.size≤id:=h;omega)]
 glob g h:=⟨⟨g,0,0,0⟩,by unfold muK;rw[if_pos h],rfl,rfl⟩
 row id p cs m _ h:=by rw[aAA]at h;cases h
 map id p es _ h:=by rw[aAA]at h;cases h
 off i j p q cs ds m n _ _ _ h:=by rw[aAA]at h;cases h
 tip i j p q cs ds m n _ _ _ h:=by rw[aAA]at h;cases h
 maps i j p q es fs _ _ _ h:=by rw[aAA]at h;cases h
 vers id cs m g v h:=by rw[aAA]at h;cases h
 lim i j p q cs ds m n _ _ _ h:=by rw[aAA]at h;cases h
theorem qF{C:Program}(hfol:P.toTables.follows .mixedOrders=true){w:World}(hC: ∀w0:W0,w0.toWorld=w→sT w0 P C){O:Orc}(hO:aIO P w O)(hg:P.globals.size≤w.heap.size)
    {L n:Nat} {f:FuncId} {args:Array Value} {r:Value} {σ':St} (hrun:oM P C O L n f args (stK P)=some (r,σ')) (ha:args.toList.all aC=true) (hr:aC r=true):
    Calls P f args w fun e w'=>e= .returned r∧Kept w w':=by
 refine((uT hfol hC hO L n (W0.of w) rfl) f args args _ σ' w (muK P) r hrun (simK hg) (VRL.same ha)).2.mono ?_;rintro e w' ⟨μ',r',rfl,h2,Z,_,_⟩;exact⟨by rw[h2.eq0 hr],Z.kept.toKept⟩
end Go.AI
namespace Go.Rf
open Go.AI Go.Proofs
def sV(l:List UInt8):Value:= .string ⟨l.toArray⟩
def eqO(d:Nat)(t:TypeId)(k:Nat)(v:Value):Oper:=mkO (some d) (.binOp .eql t (.tmp k) (.const v) t) 4
def mvO(d:Nat)(v:Value)(t:TypeId):Oper:=mkO (some d) (.move (.const v)) t
def gcO:Array Oper:= #[eqO 5 9 0 (sV [49]),eqO 6 9 1 (sV [50]),eqO 7 9 0 (sV [45,53]),eqO 8 9 1 (sV [51]),mvO 4 (sV [49]) 9]
def gcT:Code:= .seq (.region 0 gcO false) (.cond (.tmp 5) (.cond (.tmp 6) .ret (.exit 999)) (.cond (.tmp 7) (.cond (.tmp 8) .ret (.exit 999)) (.exit 999)))
noncomputable def gcF:Func:={Tryz.f210 with body:=some gcT}
def puO:Array Oper:= #[eqO 8 3 1 (.int .i64 10),eqO 9 3 2 (.int .i64 32),eqO 10 9 0 (sV [49]),eqO 11 9 0 (sV [50]),eqO 12 9 0 (sV [51]),eqO 13 9 0 (sV [53]),mvO 7 .nilIface 273]
def puR(n:Int):Code:= .seq (.region 1 #[mvO 6 (.int .u64 n) 66] false) .ret
def puT:Code:= .seq (.region 0 puO false) (.cond (.tmp 8) (.cond (.tmp 9) (.cond (.tmp 10) (puR 1) (.cond (.tmp 11) (puR 2) (.cond (.tmp 12) (puR 3) (.cond (.tmp 13) (puR 5) (.exit 999))))) (.exit 999)) (.exit 999))
noncomputable def puF:Func:={Tryz.f233 with body:=some puT}
def stO1:Array Oper:= #[mkO (some 7) (.field 259 (.tmp 0) 1) 257,mkO (some 11) (.field 259 (.tmp 0) 0) 4,
 mkO (some 8) (.call {callee:= .builtin .len,args:= #[.tmp 7],argTypes:= #[257]}) 3,eqO 9 3 8 (.int .i64 1)]
def stO2:Array Oper:= #[mkO (some 19) (.indexAddr 257 (.tmp 7) (.const (.int .i64 0))) 0,mkO (some 20) (.load 26 (.tmp 19)) 26,eqO 21 26 20 (.int .u32 1),mvO 2 (sV [49]) 9]
def stT:Code:= .seq (.region 0 stO1 false) (.cond (.tmp 9) (.cond (.tmp 11) (.exit 999) (.seq (.region 1 stO2 false) (.cond (.tmp 21) .ret (.exit 999)))) (.exit 999))
noncomputable def stF:Func:={Tryz.f222 with body:=some stT}
noncomputable def cdR:Program:=tD (tD Tryz.prog 233 puF) 222 stF
noncomputable def cdG:Program:=tD (tD Tryz.prog 87 clF) 210 gcF
end Go.Rf
