import Derived.Test.YtgeanbfoeopjfaaGreatDoorKn
import Derived.Test.YtgeanbfoeopjfaaGreatDoorKt
set_option linter.unusedVariables false
set_option linter.unusedSimpArgs false
set_option linter.constructorNameAsVariable false
namespace Go.Rf
open Go.AI Go.Proofs
section
variable{call:FuncId→Array Value→St→Option (Value×St)}{L:Nat}
theorem aQ{P:Program}{ops:Array Oper}{base i:Nat}{o:Oper}{rest:List Oper}{S S':Slots}{σ σ':St}(hg:o.guard=none)(h:bZ P call ops base (o::rest) i S σ=some (S',σ')):
    ∃v σ1,aop P call base i o S σ=some (v,σ1)∧bZ P call ops base rest (i+1) (S.store o.dst v) σ1=some (S',σ'):=by
 rw[bZ,wanted,hg]at h;simp only[cdt]at h;split at h
 ·rename_i v σ1 h1;exact⟨v,σ1,h1,h⟩
 ·cases h
theorem aGU{S:Slots}{σ:St}{b i d k:Nat}{T:TypeId}{c:Value}(hc:aM c=true)(hT: ∀e,Tryz.prog.underlying T≠some (.slice e)):aop Tryz.prog call b i (eqO d T k c) S σ=
    (bif aM (S.at k)then aR Tryz.prog (do eqGuard .eql T (.tmp k) (.const c) (S.at k) c;binOp .eql T (S.at k) c)else none).map fun v=>(v,σ):=by
 have h1:aop Tryz.prog call b i (eqO d T k c) S σ=(lW Tryz.prog σ (ev S) (eqO d T k c)).map fun v=>(v,σ):=by kernel_rfl
 have h2:iM Tryz.prog (ev S) (eqO d T k c)=(bif aM (S.at k)&&aM c then aR Tryz.prog (do eqGuard .eql T (.tmp k) (.const c) (S.at k) c;binOp .eql T (S.at k) c)
  else match Tryz.prog.underlying T with
   |some (.slice _)=>anil .eql (S.at k) c
   |_=>none):=by kernel_rfl
 rw[h1];congr 1;unfold lW;rw[h2,hc,bnA];cases aM (S.at k)with
 |true=>
  simp only[cdt];split
  ·rename_i v h;exact h.symm
  ·rename_i h;rw[h];rfl
 |false=>
  simp only[cdf];have:(match Tryz.prog.underlying T with
   |some (.slice _)=>anil .eql (S.at k) c
   |_=>none)=none:=by
   split
   ·rename_i e h;exact absurd h (hT e)
   ·rfl
  first|rfl|(rw[this];rfl)
theorem str_ns: ∀e,Tryz.prog.underlying 9≠some (.slice e):=fun e h=>by rw[Tryz.underlying9]at h;cases h
theorem int_ns: ∀e,Tryz.prog.underlying 3≠some (.slice e):=fun e h=>by rw[Tryz.underlying3]at h;cases h
theorem u32_ns: ∀e,Tryz.prog.underlying 26≠some (.slice e):=fun e h=>by rw[Tryz.underlying26]at h;cases h
theorem jD{S:Slots}{σ σ':St}{b i d k:Nat}{c:List UInt8}{x:Value}(h:aop Tryz.prog call b i (eqO d 9 k (sV c)) S σ=some (x,σ')): ∃q:Bool,x= .bool q∧(q=true→S.at k=sV c)∧σ'=σ:=by
 rw[aGU rfl str_ns]at h;generalize S.at k=u at h⊢;cases hp:aM u with
 |false=>rw[hp]at h;cases h
 |true=>
  rw[hp,cdt]at h;cases u with
  |string s=>
   have e2:aR Tryz.prog (do eqGuard .eql 9 (.tmp k) (.const (sV c)) (.string s) (sV c);binOp .eql 9 (.string s) (sV c))=some (.bool (s.toList==(⟨c.toArray⟩:ByteArray).toList)):=by kernel_rfl
   rw[e2]at h;simp only[omS,ojE,pjE]at h;refine⟨_,h.1.symm,fun hq=>?_,h.2.symm⟩
   have:s=⟨c.toArray⟩:=by
    cases s with|mk d=>
    have:d.toList=c:=by simpa [ByteArray.toList_eq]using hq
    rw[←this,Array.toArray_toList]
   rw[this];rfl
  |_=>exact absurd ((by kernel_rfl:none=_).trans h) (fun e=>by cases e)
theorem aAG{S:Slots}{σ σ':St}{b i d k:Nat}{c:Int}{x:Value}(h:aop Tryz.prog call b i (eqO d 3 k (.int .i64 c)) S σ=some (x,σ')): ∃q:Bool,x= .bool q∧(q=true→S.at k= .int .i64 c)∧σ'=σ:=by
 rw[aGU rfl int_ns]at h;generalize S.at k=u at h⊢;cases hp:aM u with
 |false=>rw[hp]at h;cases h
 |true=>
  rw[hp,cdt]at h;cases u with
  |int kd n=>
   cases kd with
   |i64=>
    have e2:aR Tryz.prog (do eqGuard .eql 3 (.tmp k) (.const (.int .i64 c)) (.int .i64 n) (.int .i64 c);binOp .eql 3 (.int .i64 n) (.int .i64 c))=some (.bool (n==c)):=by kernel_rfl
    rw[e2]at h;simp only[omS,ojE,pjE]at h;refine⟨_,h.1.symm,fun hq=>?_,h.2.symm⟩
    rw[beq_iff_eq]at hq;rw[hq]
   |_=>exact absurd ((by kernel_rfl:none=_).trans h) (fun e=>by cases e)
  |pointer a=>cases a with
   |none=>exact absurd ((by kernel_rfl:none=_).trans h) (fun e=>by cases e)
   |some v=>simp[aM,aC]at hp
  |_=>exact absurd ((by kernel_rfl:none=_).trans h) (fun e=>by cases e)
theorem equ_inv{S:Slots}{σ σ':St}{b i d k:Nat}{c:Int}{x:Value}(h:aop Tryz.prog call b i (eqO d 26 k (.int .u32 c)) S σ=some (x,σ')): ∃q:Bool,x= .bool q∧(q=true→S.at k= .int .u32 c)∧σ'=σ:=by
 rw[aGU rfl u32_ns]at h;generalize S.at k=u at h⊢;cases hp:aM u with
 |false=>rw[hp]at h;cases h
 |true=>
  rw[hp,cdt]at h;cases u with
  |int kd n=>
   cases kd with
   |u32=>
    have e2:aR Tryz.prog (do eqGuard .eql 26 (.tmp k) (.const (.int .u32 c)) (.int .u32 n) (.int .u32 c);binOp .eql 26 (.int .u32 n) (.int .u32 c))=some (.bool (n==c)):=by kernel_rfl
    rw[e2]at h;simp only[omS,ojE,pjE]at h;refine⟨_,h.1.symm,fun hq=>?_,h.2.symm⟩
    rw[beq_iff_eq]at hq;rw[hq]
   |_=>exact absurd ((by kernel_rfl:none=_).trans h) (fun e=>by cases e)
  |pointer a=>cases a with
   |none=>exact absurd ((by kernel_rfl:none=_).trans h) (fun e=>by cases e)
   |some v=>simp[aM,aC]at hp
  |_=>exact absurd ((by kernel_rfl:none=_).trans h) (fun e=>by cases e)
theorem aCD{S:Slots}{σ σ':St}{b i d:Nat}{t:TypeId}{c x:Value}(h:aop Tryz.prog call b i (mvO d c t) S σ=some (x,σ')):x=c∧σ'=σ:=by
 have e2:aop Tryz.prog call b i (mvO d c t) S σ=some (c,σ):=by kernel_rfl
 rw[e2]at h;simp only[ojE,pjE]at h;exact⟨h.1.symm,h.2.symm⟩
theorem fH{P:Program}{id:Nat}{ops:Array Oper}{S:Slots}{σ:St}{r:Value}{σ':St}{rest:Code}{fn:Func}(h:cB P fn (bG P call L (.seq (.region id ops false) rest) S σ)=some (r,σ')):
    ∃S1 σ1,bZ P call ops σ.next ops.toList 0 S {σ with next:=σ.next+ops.size}=some (S1,σ1)∧cB P fn (bG P call L rest S1 σ1)=some (r,σ'):=by
 cases hx:bZ P call ops σ.next ops.toList 0 S {σ with next:=σ.next+ops.size}with
 |none=>
  rw[bG,bG,dL,cdf,hx]at h;cases h
 |some x=>
  obtain⟨S1,σ1⟩:=x;rw[seqN call L (regN call L hx)]at h;exact⟨S1,σ1,rfl,h⟩
theorem size2{a:Array Value}{P:Program}{f:FuncId}(h:aEG P f a.size=true){k:Nat}(hk:aEG P f k=true):a.size=k:=by
 unfold aEG at h hk;split at h
 ·rename_i fn hf;rw[hf]at hk;simp only[Nat.beq_eq]at h hk;omega
 ·cases h
theorem cN{P:Program}{fn:Func}{x:Operand}{a b:Code}{S:Slots}{σ σ':St}{r:Value}{q:Bool}(hq:ev S x= .bool q)(h:cB P fn (bG P call L (.cond x a b) S σ)=some (r,σ')):cB P fn (bG P call L (bif q then a else b) S σ)=some (r,σ'):=by
 cases q with
 |true=>rwa [condT call L hq]at h
 |false=>rwa [condF call L hq]at h
theorem dY{P:Program}{fn:Func}{S:Slots}{σ σ':St}{r:Value}{k:Nat}(h:cB P fn (bG P call L (.exit k) S σ)=some (r,σ')):False:=by
 rw[bG,cB]at h;cases h
theorem endG{S:Slots}{σ:St}:cB Tryz.prog gcF (bG Tryz.prog call L .ret S σ)=some (S.at 4,σ):=by kernel_rfl
theorem gc_known(hcalls: ∀(w0 w:World) (a b:List UInt8),Tryz.prog.globals.size≤w.heap.size→((a=[49]∧b=[50])∨(a=[45,53]∧b=[51]))→Calls Tryz.prog 210 #[sV a,sV b] w fun e w'=>e= .returned (sV [49])∧Kept w w')
    (w0:W0) (hg:Tryz.prog.globals.size≤w0.heap.size):Known w0 Tryz.prog 210 gcF gcT:=by
 intro call L args σ σ' r har h;have hs:=size2 har (k:=2) (by kernel_rfl)
 obtain⟨u0,u1,ha⟩: ∃u0 u1,args.toList=[u0,u1]:=by
  match hl:args.toList,(show args.toList.length=2 by simpa using hs)with
  |[u0,u1],_=>exact⟨u0,u1,rfl⟩
 rw[ha]at h;obtain⟨S1,σ1,h1,h2⟩:=fH h;obtain⟨x0,τ0,e0,h1⟩:=aQ (o:=eqO 5 9 0 (sV [49])) rfl h1;obtain⟨q0,rfl,k0,rfl⟩:=jD e0;obtain⟨x1,τ1,e1,h1⟩:=aQ (o:=eqO 6 9 1 (sV [50])) rfl h1;obtain⟨q1,rfl,k1,rfl⟩:=jD e1;obtain⟨x2,τ2,e2,h1⟩:=aQ (o:=eqO 7 9 0 (sV [45,53])) rfl h1;obtain⟨q2,rfl,k2,rfl⟩:=jD e2;obtain⟨x3,τ3,e3,h1⟩:=aQ (o:=eqO 8 9 1 (sV [51])) rfl h1;obtain⟨q3,rfl,k3,rfl⟩:=jD e3;obtain⟨x4,τ4,e4,h1⟩:=aQ (o:=mvO 4 (sV [49]) 9) rfl h1;obtain⟨rfl,rfl⟩:=aCD e4;simp only[bZ,ojE,pjE]at h1;obtain⟨rfl,rfl⟩:=h1;generalize hS:((((((jC [u0,u1] 0 .nil).store (eqO 5 9 0 (sV [49])).dst (.bool q0)).store (eqO 6 9 1 (sV [50])).dst (.bool q1)).store (eqO 7 9 0 (sV [45,53])).dst (.bool q2)).store (eqO 8 9 1 (sV [51])).dst (.bool q3)).store (mvO 4 (sV [49]) 9).dst (sV [49]))=S at h2;have c5:ev S (.tmp 5)= .bool q0:=by subst hS;rfl
 have c6:ev S (.tmp 6)= .bool q1:=by subst hS;rfl
 have c7:ev S (.tmp 7)= .bool q2:=by subst hS;rfl
 have c8:ev S (.tmp 8)= .bool q3:=by subst hS;rfl
 have c4:S.at 4=sV [49]:=by subst hS;rfl
 have k0':q0=true→u0=sV [49]:=k0;have k1':q1=true→u1=sV [50]:=k1;have k2':q2=true→u0=sV [45,53]:=k2;have k3':q3=true→u1=sV [51]:=k3;have fin: ∀a b:List UInt8,u0=sV a→u1=sV b→((a=[49]∧b=[50])∨(a=[45,53]∧b=[51]))→cB Tryz.prog gcF (bG Tryz.prog call L .ret S {σ with next:=σ.next+gcO.size})=some (r,σ')→
      args.toList.all aC=true∧(∃n,σ.next≤n∧σ'={σ with next:=n})∧∃r',(∀μ,VR μ r r')∧∀w,Kept w0.toWorld w→Calls Tryz.prog 210 args w fun e w'=>e= .returned r'∧Kept w w':=by
  rintro a b rfl rfl hab h5;rw[endG,c4]at h5;simp only[ojE,pjE]at h5;obtain⟨rfl,rfl⟩:=h5;refine⟨by rw[ha];rfl,⟨_,Nat.le_add_right _ _,rfl⟩,_,fun μ=> .same _ rfl,fun w hK=>?_⟩
  have e:args= #[sV a,sV b]:=by rw[←Array.toArray_toList (xs:=args),ha]
  rw[e];exact hcalls w0 w a b (Nat.le_trans hg hK.size) hab
 have h3:=cN c5 h2;cases q0 with
 |true=>
  have h4:=cN c6 h3;cases q1 with
  |true=>exact fin _ _ (k0' rfl) (k1' rfl) (.inl ⟨rfl,rfl⟩) h4
  |false=>exact(dY h4).elim
 |false=>
  have h4:=cN c7 h3;cases q2 with
  |true=>
   have h5:=cN c8 h4;cases q3 with
   |true=>exact fin _ _ (k2' rfl) (k3' rfl) (.inr ⟨rfl,rfl⟩) h5
   |false=>exact(dY h5).elim
  |false=>exact(dY h4).elim
end
end Go.Rf
namespace Go.Rf
open Go.AI Go.Proofs Go.RowKit
theorem rY{w w':World}(h:Below w.heap.size w w'):Kept w w':=⟨h.os,h.output,h.size,h.block⟩
theorem pu_calls(w:World)(l:List UInt8)(u:Nat)(hl:l.length≤100)(h:Lib.parseUintB 32 l= .ok u):Calls Tryz.prog 233 #[sV l,.int .i64 10,.int .i64 32] w fun e w'=>e= .returned (.tuple #[.int .u64 u,.nilIface])∧Kept w w':=by
 refine(Tryz.strconv_ParseUint_10_at32_ok ⟨l.toArray⟩ (by show l.toArray.size≤_;simp;omega) u (by simpa using h) w).mono ?_
 rintro e w' ⟨rfl,rfl|rfl⟩
 ·exact⟨rfl,Kept.refl _⟩
 ·exact⟨rfl,rY (Lib.bytesWorld_below _ _ _)⟩
theorem endP{call:FuncId→Array Value→St→Option (Value×St)}{L:Nat}{S:Slots}{σ:St}:cB Tryz.prog puF (bG Tryz.prog call L .ret S σ)=some (.tuple #[S.at 6,S.at 7],σ):=by kernel_rfl
theorem pu_known(w0:W0):Known w0 Tryz.prog 233 puF puT:=by
 intro call L args σ σ' r har h;have hs:=size2 har (k:=3) (by kernel_rfl)
 obtain⟨u0,u1,u2,ha⟩: ∃u0 u1 u2,args.toList=[u0,u1,u2]:=by
  match hl:args.toList,(show args.toList.length=3 by simpa using hs)with
  |[u0,u1,u2],_=>exact⟨u0,u1,u2,rfl⟩
 rw[ha]at h;obtain⟨S1,σ1,h1,h2⟩:=fH h;obtain⟨x0,τ0,e0,h1⟩:=aQ (o:=eqO 8 3 1 (.int .i64 10)) rfl h1;obtain⟨q0,rfl,k0,rfl⟩:=aAG e0;obtain⟨x1,τ1,e1,h1⟩:=aQ (o:=eqO 9 3 2 (.int .i64 32)) rfl h1;obtain⟨q1,rfl,k1,rfl⟩:=aAG e1;obtain⟨x2,τ2,e2,h1⟩:=aQ (o:=eqO 10 9 0 (sV [49])) rfl h1;obtain⟨q2,rfl,k2,rfl⟩:=jD e2;obtain⟨x3,τ3,e3,h1⟩:=aQ (o:=eqO 11 9 0 (sV [50])) rfl h1;obtain⟨q3,rfl,k3,rfl⟩:=jD e3;obtain⟨x4,τ4,e4,h1⟩:=aQ (o:=eqO 12 9 0 (sV [51])) rfl h1;obtain⟨q4,rfl,k4,rfl⟩:=jD e4;obtain⟨x5,τ5,e5,h1⟩:=aQ (o:=eqO 13 9 0 (sV [53])) rfl h1;obtain⟨q5,rfl,k5,rfl⟩:=jD e5;obtain⟨x6,τ6,e6,h1⟩:=aQ (o:=mvO 7 .nilIface 273) rfl h1;obtain⟨rfl,rfl⟩:=aCD e6;simp only[bZ,ojE,pjE]at h1;obtain⟨rfl,rfl⟩:=h1;generalize hS:Slots.store _ (mvO 7 .nilIface 273).dst .nilIface=S at h2;have c8:ev S (.tmp 8)= .bool q0:=by subst hS;rfl
 have c9:ev S (.tmp 9)= .bool q1:=by subst hS;rfl
 have c10:ev S (.tmp 10)= .bool q2:=by subst hS;rfl
 have c11:ev S (.tmp 11)= .bool q3:=by subst hS;rfl
 have c12:ev S (.tmp 12)= .bool q4:=by subst hS;rfl
 have c13:ev S (.tmp 13)= .bool q5:=by subst hS;rfl
 have c7:S.at 7= .nilIface:=by subst hS;rfl
 have k0':q0=true→u1= .int .i64 10:=k0;have k1':q1=true→u2= .int .i64 32:=k1;have k2':q2=true→u0=sV [49]:=k2;have k3':q3=true→u0=sV [50]:=k3;have k4':q4=true→u0=sV [51]:=k4;have k5':q5=true→u0=sV [53]:=k5;have fin: ∀(l:List UInt8) (n:Nat),l.length≤100→Lib.parseUintB 32 l= .ok n→u0=sV l→u1= .int .i64 10→u2= .int .i64 32→cB Tryz.prog puF (bG Tryz.prog call L (puR n) S {σ with next:=σ.next+puO.size})=some (r,σ')→
      args.toList.all aC=true∧(∃n,σ.next≤n∧σ'={σ with next:=n})∧∃r',(∀μ,VR μ r r')∧∀w,Kept w0.toWorld w→Calls Tryz.prog 233 args w fun e w'=>e= .returned r'∧Kept w w':=by
  rintro l n hl hn rfl rfl rfl h5;obtain⟨S2,σ2,h6,h7⟩:=fH h5;obtain⟨y,τ,f0,h6⟩:=aQ (o:=mvO 6 (.int .u64 n) 66) rfl h6;obtain⟨rfl,rfl⟩:=aCD f0;simp only[bZ,ojE,pjE]at h6;obtain⟨rfl,rfl⟩:=h6;rw[endP]at h7;simp only[ojE,pjE]at h7;obtain⟨rfl,rfl⟩:=h7;have g6:(S.store (mvO 6 (.int .u64 n) 66).dst (.int .u64 n)).at 6= .int .u64 n:=by
   show Slots.at (S.store (some 6) _) 6=_;rw[Go.Rf.at_store,if_pos rfl]
  have g7:(S.store (mvO 6 (.int .u64 n) 66).dst (.int .u64 n)).at 7= .nilIface:=by
   show Slots.at (S.store (some 6) _) 7=_;rw[Go.Rf.at_store,if_neg (by decide),c7]
  rw[g6,g7];refine⟨by rw[ha];rfl,⟨_,by show σ.next≤σ.next+_+_;omega,rfl⟩,_,fun μ=> .mkTuple (xs:=[.int .u64 n,.nilIface]) (.same rfl),fun w hK=>?_⟩
  have e:args= #[sV l,.int .i64 10,.int .i64 32]:=by rw[←Array.toArray_toList (xs:=args),ha]
  rw[e];exact pu_calls w l n hl hn
 have h3:=cN c8 h2;cases q0 with
 |false=>exact(dY h3).elim
 |true=>
 have h4:=cN c9 h3;cases q1 with
 |false=>exact(dY h4).elim
 |true=>
 have h5:=cN c10 h4;cases q2 with
 |true=>exact fin [49] 1 (by decide) (by decide) (k2' rfl) (k0' rfl) (k1' rfl) h5
 |false=>
 have h6:=cN c11 h5;cases q3 with
 |true=>exact fin [50] 2 (by decide) (by decide) (k3' rfl) (k0' rfl) (k1' rfl) h6
 |false=>
 have h7:=cN c12 h6;cases q4 with
 |true=>exact fin [51] 3 (by decide) (by decide) (k4' rfl) (k0' rfl) (k1' rfl) h7
 |false=>
 have h8:=cN c13 h7;cases q5 with
 |true=>exact fin [53] 5 (by decide) (by decide) (k5' rfl) (k0' rfl) (k1' rfl) h8
 |false=>exact(dY h8).elim
section
variable{call:FuncId→Array Value→St→Option (Value×St)}{L:Nat}
theorem oQ{P:Program}{o:Oper}{S:Slots}{σ σ':St}{b i:Nat}{x:Value}(hk:aW o= .pure)(hc: ∀s d y,o.op≠ .convert s d y)(h:aop P call b i o S σ=some (x,σ')):iM P (ev S) o=some x∧σ'=σ:=by
 unfold aop at h;rw[hk]at h;simp only[mjE,pjE]at h;obtain⟨v,h1,rfl,rfl⟩:=h;refine⟨?_,rfl⟩;unfold lW at h1;split at h1
 ·rename_i v' h2;rw[h2];exact h1
 ·split at h1
  ·rename_i s d y e;exact absurd e (hc s d y)
  ·cases h1
theorem read_inv{P:Program}{o:Oper}{S:Slots}{σ σ':St}{b i:Nat}{x:Value}(hk:aW o= .read)(h:aop P call b i o S σ=some (x,σ')):gH P σ (ev S) o=some x∧σ'=σ:=by
 unfold aop at h;rw[hk]at h;simp only[mjE,pjE]at h;obtain⟨v,h1,rfl,rfl⟩:=h;exact⟨h1,rfl⟩
theorem cond_inv{P:Program}{fn:Func}{x:Operand}{a b:Code}{S:Slots}{σ σ':St}{r:Value}(h:cB P fn (bG P call L (.cond x a b) S σ)=some (r,σ')): ∃q,ev S x= .bool q∧cB P fn (bG P call L (bif q then a else b) S σ)=some (r,σ'):=by
 rw[bG]at h;split at h
 ·rename_i e;exact⟨true,e,h⟩
 ·rename_i e;exact⟨false,e,h⟩
 ·cases h
set_option maxRecDepth 100000 in
theorem aGL{u x:Value}{f:Nat}(h:lX Tryz.prog 259 u f=some x)(hf:f<2): ∃cs,u= .agg cs∧cs[f]?=some x:=by
 unfold lX at h;rw[Tryz.underlying259]at h;cases u with
 |agg cs=>
  refine⟨cs,rfl,?_⟩;obtain rfl|rfl:f=0∨f=1:=by omega
  ·exact(by kernel_rfl:_=cs[0]?).symm.trans h
  ·exact(by kernel_rfl:_=cs[1]?).symm.trans h
 |_=>
  simp only[]at h;split at h<;>cases h
set_option maxRecDepth 100000 in
theorem len_inv{u:Value}(h:alen Tryz.prog 257 u=some (.int .i64 1)): ∃a c,u= .slice a 1 c:=by
 unfold alen at h;rw[Tryz.underlying257]at h;cases u with
 |slice a n c=>
  simp only[goInt,ojE,Value.int.injEq,true_and]at h;obtain rfl:n=1:=by omega
  exact⟨a,c,rfl⟩
 |_=>cases h
theorem idx_inv{a:Option Addr}{c:Nat}{x:Value}(h:dQ Tryz.prog 257 (.slice a 1 c) (.int .i64 0)=some x): ∃id off,a=some ⟨id,off,none⟩∧x= .pointer (some ⟨id,off,none⟩):=by
 cases a with
 |none=>exact absurd ((by kernel_rfl:none=_).trans h) (fun e=>by cases e)
 |some a=>
  obtain⟨id,off,sp⟩:=a;cases sp with
  |none=>exact⟨id,off,rfl,Option.some.inj (h.symm.trans (by kernel_rfl))⟩
  |some s=>exact absurd ((by kernel_rfl:none=_).trans h) (fun e=>by cases e)
theorem load_inv{σ:St}{id off:Nat}{x:Value}(h:gJ Tryz.prog σ 26 (.pointer (some ⟨id,off,none⟩))=some x): ∃cs m,σ.row id=some (cs,m)∧cs[off]?=some x:=by
 have e:gJ Tryz.prog σ 26 (.pointer (some ⟨id,off,none⟩))=match σ.row id with
  |some (cs,_)=>cs[off]?
  |none=>none:=by kernel_rfl
 rw[e]at h;split at h
 ·rename_i cs m h1;exact⟨cs,m,h1,h⟩
 ·cases h
theorem endS{S:Slots}{σ:St}:cB Tryz.prog stF (bG Tryz.prog call L .ret S σ)=some (S.at 2,σ):=by kernel_rfl
end
set_option maxRecDepth 100000 in
theorem st_rep(w0:W0):aIN w0 Tryz.prog 222 stF stT:=by
 refine⟨⟨_,_,Tryz.func222,rfl,by kernel_rfl⟩,?_⟩
 intro call L hcall args args' σ σ' w μ r h Z hargs har;have hs:=size2 har (k:=1) (by kernel_rfl)
 obtain⟨u,ha⟩: ∃u,args.toList=[u]:=by
  match hl:args.toList,(show args.toList.length=1 by simpa using hs)with
  |[u],_=>exact⟨u,rfl⟩
 rw[ha]at h hargs;obtain⟨u',us',ha',ru,rr⟩:=hargs.cons_inv;rw[rr.nil_inv]at ha';have e':args'= #[u']:=by rw[←Array.toArray_toList (xs:=args'),ha']
 subst e';obtain⟨S1,σ1,h1,h2⟩:=fH h;obtain⟨x0,τ0,e0,h1⟩:=aQ (o:=mkO (some 7) (.field 259 (.tmp 0) 1) 257) rfl h1;obtain⟨pe0,rfl⟩:=oQ rfl (fun _ _ _ h=>by cases h) e0
 obtain⟨x1,τ1,e1,h1⟩:=aQ (o:=mkO (some 11) (.field 259 (.tmp 0) 0) 4) rfl h1;obtain⟨pe1,rfl⟩:=oQ rfl (fun _ _ _ h=>by cases h) e1
 obtain⟨x2,τ2,e2,h1⟩:=aQ (o:=mkO (some 8) (.call {callee:= .builtin .len,args:= #[.tmp 7],argTypes:= #[257]}) 3) rfl h1;obtain⟨pe2,rfl⟩:=oQ rfl (fun _ _ _ h=>by cases h) e2
 obtain⟨x3,τ3,e3,h1⟩:=aQ (o:=eqO 9 3 8 (.int .i64 1)) rfl h1;obtain⟨q3,rfl,k3,rfl⟩:=aAG e3;simp only[bZ,ojE,pjE]at h1;obtain⟨rfl,rfl⟩:=h1;have e0':lX Tryz.prog 259 u 1=some x0:=pe0;have e1':lX Tryz.prog 259 u 0=some x1:=pe1;have e2':alen Tryz.prog 257 x0=some x2:=pe2;have k3':q3=true→x2= .int .i64 1:=k3;obtain⟨cs,rfl,g1⟩:=aGL e0' (by omega)
 obtain⟨cs2,hcs2,g0⟩:=aGL e1' (by omega)
 cases hcs2;generalize hS:Slots.store _ (eqO 9 3 8 (.int .i64 1)).dst (.bool q3)=S at h2;have c9:ev S (.tmp 9)= .bool q3:=by subst hS;rfl
 have c11:ev S (.tmp 11)=x1:=by subst hS;rfl
 have c7:S.at 7=x0:=by subst hS;rfl
 have h3:=cN c9 h2;cases q3 with
 |false=>exact(dY h3).elim
 |true=>
 obtain⟨qb,hqb,h4⟩:=cond_inv h3;cases qb with
 |true=>exact(dY h4).elim
 |false=>
 rw[c11]at hqb;subst hqb;rw[k3' rfl]at e2';obtain⟨a,c,rfl⟩:=len_inv e2';obtain⟨S2,σ2,h5,h6⟩:=fH h4;obtain⟨y0,t0,f0,h5⟩:=aQ (o:=mkO (some 19) (.indexAddr 257 (.tmp 7) (.const (.int .i64 0))) 0) rfl h5;obtain⟨pf0,rfl⟩:=oQ rfl (fun _ _ _ h=>by cases h) f0
 obtain⟨y1,t1,f1,h5⟩:=aQ (o:=mkO (some 20) (.load 26 (.tmp 19)) 26) rfl h5;obtain⟨pf1,rfl⟩:=read_inv rfl f1;obtain⟨y2,t2,f2,h5⟩:=aQ (o:=eqO 21 26 20 (.int .u32 1)) rfl h5;obtain⟨p2,rfl,l2,rfl⟩:=equ_inv f2;obtain⟨y3,t3,f3,h5⟩:=aQ (o:=mvO 2 (sV [49]) 9) rfl h5;obtain⟨rfl,rfl⟩:=aCD f3;simp only[bZ,ojE,pjE]at h5;obtain⟨rfl,rfl⟩:=h5;have f0':dQ Tryz.prog 257 (.slice a 1 c) (.int .i64 0)=some y0:=by rw[←c7];exact pf0
 obtain⟨id,off,rfl,rfl⟩:=idx_inv f0';have f1':gJ Tryz.prog σ 26 (Slots.at (S.store (some 19) (.pointer (some ⟨id,off,none⟩))) 19)=some y1:=pf1;rw[Go.Rf.at_store,if_pos rfl]at f1';obtain⟨rs,m,hrow,hcell⟩:=load_inv f1';have l2':p2=true→Slots.at ((S.store (some 19) (.pointer (some ⟨id,off,none⟩))).store (some 20) y1) 20= .int .u32 1:=l2;rw[Go.Rf.at_store,if_pos rfl]at l2';generalize hS3:Slots.store _ (mvO 2 (sV [49]) 9).dst (sV [49])=S3 at h6;have d21:ev S3 (.tmp 21)= .bool p2:=by
  subst hS3;show Slots.at ((((S.store (some 19) _).store (some 20) _).store (some 21) _).store (some 2) _) 21=_;rw[Go.Rf.at_store,if_neg (by decide),Go.Rf.at_store,if_pos rfl]
 have d2:S3.at 2=sV [49]:=by
  subst hS3;show Slots.at ((((S.store (some 19) _).store (some 20) _).store (some 21) _).store (some 2) _) 2=_;rw[Go.Rf.at_store,if_pos rfl]
 have h7:=cN d21 h6;cases p2 with
 |false=>exact(dY h7).elim
 |true=>
 have h8:cB Tryz.prog stF (bG Tryz.prog call L .ret S3 _)=some (r,σ'):=h7;rw[endS,d2]at h8;simp only[ojE,pjE]at h8;obtain⟨rfl,rfl⟩:=h8;have hy:=l2' rfl;subst hy;obtain⟨us,rfl,hus⟩:=ru.agg_inv;obtain⟨z0,hz0,rz0⟩:=hus.get (i:=0) (by simpa using g0)
 obtain⟨z1,hz1,rz1⟩:=hus.get (i:=1) (by simpa using g1)
 have:=rz0.eq0 rfl;subst this;obtain⟨p,cap,hp,rfl,_,_⟩:=rz1.slc_inv;obtain⟨hget,hgood⟩:=St.row_some hrow;obtain⟨⟨C,tt,fr,r1,r2,_⟩,_,_,_,_⟩:=Z.row id p rs m hp hget hgood;obtain⟨v,hv,rv⟩:=r2 off _ hcell;have:=rv.eq0 rfl;subst this;refine(aD3 p.b (p.o+off) cap w C tt fr r1 hv us (by simpa using hz0) (by simpa using hz1)).mono ?_
 rintro e w' ⟨rfl,hb⟩;exact⟨μ,_,rfl,.same _ rfl,(Z.keep (rY hb)).next (by show σ.next≤σ.next+_+_;omega),.refl _ _,by show σ.next≤σ.next+_+_;omega⟩
end Go.Rf
