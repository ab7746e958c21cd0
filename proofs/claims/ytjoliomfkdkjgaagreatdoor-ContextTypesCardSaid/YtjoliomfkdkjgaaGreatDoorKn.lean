import Derived.Test.YtjoliomfkdkjgaaGreatDoorProg
import Derived.Test.YtjoliomfkdkjgaaGreatDoorKg
set_option linter.unusedVariables false
set_option linter.unusedSimpArgs false
set_option linter.constructorNameAsVariable false
namespace Go.Rf
open Go.AI Go.Proofs
def mkO (d : Option Nat) (op : Op) (t : TypeId) : Oper := { dst := d, op := op, type := t, pos := "", after := #[], guard := none }
def opsA:Array Oper:= #[mkO (some 70) (.load 41 (.tmp 3)) 41,mkO (some 71) (.move (.tmp 0)) 30,
 mkO (some 72) (.call {callee:= .builtin .len,args:= #[.tmp 71],argTypes:= #[30]}) 3,mkO (some 73) (.move (.const (.int .i64 0))) 3]
def opsB:Array Oper:= #[mkO (some 74) (.binOp .lss 3 (.tmp 73) (.tmp 72) 3) 4]
def opsC:Array Oper:= #[mkO (some 75) (.indexAddr 30 (.tmp 71) (.tmp 73)) 0,mkO (some 76) (.load 41 (.tmp 75)) 41,
 mkO (some 85) (.alloc 41) 0,mkO none (.store 41 (.tmp 85) (.tmp 76)) 0]
def opsD:Array Oper:= #[mkO (some 77) (.call {callee:= .value (.func 85),args:= #[.tmp 76,.tmp 70],argTypes:= #[41,41]}) 170,
 mkO (some 78) (.extract (.tmp 77) 0) 33,mkO (some 79) (.extract (.tmp 77) 1) 41,mkO (some 80) (.extract (.tmp 77) 2) 4,
 mkO (some 86) (.alloc 41) 0,mkO none (.store 41 (.tmp 86) (.tmp 79)) 0]
def opsE:Array Oper:= #[mkO (some 81) (.call {callee:= .value (.func 39),args:= #[.tmp 76],argTypes:= #[41]}) 41,
 mkO (some 87) (.build 92 #[(0,.tmp 78),(1,.tmp 79),(2,.tmp 81)]) 92,
 mkO (some 90) (.alloc 92) 0,mkO none (.store 92 (.tmp 90) (.tmp 87)) 0,
 mkO (some 82) (.load 33 (.tmp 5)) 33,mkO (some 91) (.fieldAddr 92 (.tmp 90) 0) 0,mkO (some 92) (.load 33 (.tmp 91)) 33,
 mkO (some 83) (.binOp .and 33 (.tmp 82) (.tmp 92) 33) 33,mkO none (.store 33 (.tmp 5) (.tmp 83)) 0]
def opsF:Array Oper:= #[mkO (some 84) (.binOp .add 3 (.tmp 73) (.const (.int .i64 1)) 3) 3,mkO (some 73) (.move (.tmp 84)) 3]
def cdL:Code:= .seq (.region 51 opsB false) (.seq (.cond (.tmp 74) .skip (.exit 5)) (.seq (.region 52 opsC false) (.seq (.region 53 opsD false)
 (.seq (.cond (.tmp 80) (.region 54 opsE false) .skip) (.region 55 opsF false)))))
def cdA:Code:= .seq (.region 50 opsA false) (.block 5 (.loop cdL))
def opsZ:Array Oper:= #[mkO (some 67) (.load 33 (.tmp 5)) 33,mkO (some 4) (.move (.tmp 67)) 33]
def cdZ:Code:= .seq (.region 56 opsZ false) .ret
def swapC:Code→Code
 | .seq a (.seq b (.seq c _))=> .seq a (.seq b (.seq c (.seq cdA cdZ)))
 |c=>c
noncomputable def tyB:Code:=Tryz.f8.body.getD .skip
noncomputable def tyF:Func:={Tryz.f8 with body:=some (swapC tyB),ntmps:=93}
noncomputable def cdP:Program:={Tryz.prog with funcs:=⟨Tryz.prog.funcs.toList.set 8 tyF⟩}
section
variable{call:FuncId→Array Value→St→Option (Value×St)}
theorem aO{P:Program}{ops:Array Oper}{base i:Nat}{o:Oper}{rest:List Oper}{S:Slots}{σ:St}{r:Slots×St}(hg:o.guard=none)(h:fU P call ops base (o::rest) i S σ=some r):
    ∃v σ1,aop P call base i o S σ=some (v,σ1)∧fU P call ops base rest (i+1) (S.store o.dst v) σ1=some r:=by
 unfold fU wanted at h;rw[hg,cdt]at h;split at h
 ·rename_i v σ1 e;exact⟨v,σ1,e,h⟩
 ·cases h
theorem lC(S:Slots)(k j:Nat)(v:Value):Slots.at (Tr.set S k v) j=if j=k then v else S.at j:=by
 unfold Slots.at;rw[Tr.get_set];split<;>rfl
theorem at_store(S:Slots)(k j:Nat)(v:Value):Slots.at (S.store (some k) v) j=if j=k then v else S.at j:=lC S k j v
theorem cJ(S:Slots)(v:Value):S.store none v=S:=rfl
theorem bS{P:Program}{id:Nat}{ops:Array Oper}{L:Nat}{S S':Slots}{σ σ':St}{fl:Fl}(h:cZ P call L (.region id ops false) S σ=some (fl,S',σ')):
    fl= .normal∧fU P call ops σ.next ops.toList 0 S {σ with next:=σ.next+ops.size}=some (S',σ'):=by
 simp only[cZ,mjE]at h;obtain⟨⟨a,b⟩,h,e⟩:=h;cases e;exact⟨rfl,h⟩
theorem eT{P:Program}{ops:Array Oper}{base i:Nat}{S S':Slots}{σ σ':St}(h:fU P call ops base [] i S σ=some (S',σ')):S'=S∧σ'=σ:=by
 simp only[fU,ojE,pjE]at h;exact⟨h.1.symm,h.2.symm⟩
theorem eR{P:Program}{a b:Code}{L:Nat}{S S':Slots}{σ σ':St}{fl:Fl}(h:cZ P call L (.seq a b) S σ=some (fl,S',σ')):
    (∃S1 σ1,cZ P call L a S σ=some (.normal,S1,σ1)∧cZ P call L b S1 σ1=some (fl,S',σ'))∨(fl≠ .normal∧cZ P call L a S σ=some (fl,S',σ')):=by
 simp only[cZ]at h;cases hx:cZ P call L a S σ with
 |none=>rw[hx]at h;cases h
 |some r=>
  obtain⟨f1,S1,σ1⟩:=r;rw[hx]at h;cases f1 with
  |normal=>exact .inl ⟨S1,σ1,rfl,h⟩
  |exit n=>cases h;exact .inr ⟨(fun e=>by cases e),rfl⟩
  |ret=>cases h;exact .inr ⟨(fun e=>by cases e),rfl⟩
def up(σ:St)(n:Nat):St:={σ with next:=σ.next+n}
variable{P:Program}{S:Slots}{σ σ1:St}{b i:Nat}{v:Value}{d:Option Nat}{ty:TypeId}
theorem nG{t:TypeId}{a:Operand}(h:aop P call b i (mkO d (.load t a) ty) S σ=some (v,σ1)):eK P σ t (ev S a)=some v∧σ1=σ:=by
 simp only[aop,mkO,aM,iB,mjE,pjE]at h;obtain⟨x,h1,rfl,rfl⟩:=h;exact⟨h1,rfl⟩
theorem qI{x:Operand}(h:aop P call b i (mkO d (.move x) ty) S σ=some (v,σ1)):v=ev S x∧σ1=σ:=by
 simp only[aop,mkO,aM,iC,dQ,mjE,pjE,ojE]at h;obtain⟨x,h1,rfl,rfl⟩:=h;exact⟨h1.symm,rfl⟩
theorem aBT{x:Operand}{k:Nat}(h:aop P call b i (mkO d (.extract x k) ty) S σ=some (v,σ1)):(∃vs:Array Value,ev S x= .tuple vs∧vs[k]?=some v)∧σ1=σ:=by
 simp only[aop,mkO,aM,iC,dQ,mjE,pjE]at h;obtain⟨y,h1,rfl,rfl⟩:=h;split at h1
 ·rename_i v' e;cases h1;split at e
  ·rename_i vs e2;exact⟨⟨vs,e2,e⟩,rfl⟩
  ·cases e
 ·cases h1
theorem aop_len{t:TypeId}{x:Operand}(h:aop P call b i (mkO d (.call {callee:= .builtin .len,args:= #[x],argTypes:= #[t]}) ty) S σ=some (v,σ1)):alen P t (ev S x)=some v∧σ1=σ:=by
 simp only[aop,mkO,aM,iC,dQ,iD,mjE,pjE]at h;obtain⟨y,h1,rfl,rfl⟩:=h;split at h1
 ·rename_i v' e;cases h1;exact⟨e,rfl⟩
 ·cases h1
theorem aop_idx{t:TypeId}{x y:Operand}(h:aop P call b i (mkO d (.indexAddr t x y) ty) S σ=some (v,σ1)):eB P t (ev S x) (ev S y)=some v∧σ1=σ:=by
 simp only[aop,mkO,aM,iC,dQ,mjE,pjE]at h;obtain⟨y,h1,rfl,rfl⟩:=h;split at h1
 ·rename_i v' e;cases h1;exact⟨e,rfl⟩
 ·cases h1
theorem aBU{op:BinOp}{t t2:TypeId}{x y:Operand}(h:aop P call b i (mkO d (.binOp op t x y t2) ty) S σ=some (v,σ1)):dQ P (ev S) (mkO d (.binOp op t x y t2) ty)=some v∧σ1=σ:=by
 simp only[aop,mkO,aM,iC,mjE,pjE]at h;obtain⟨y,h1,rfl,rfl⟩:=h;split at h1
 ·rename_i v' e;cases h1;exact⟨e,rfl⟩
 ·cases h1
theorem nF{t:TypeId}{x y:Operand}(h:aop P call b i (mkO d (.store t x y) ty) S σ=some (v,σ1)):eP P σ t (ev S x) (ev S y)=some σ1∧v=undef:=by
 simp only[aop,mkO,aM,aAa,mjE,pjE]at h;obtain⟨y,h1,rfl,rfl⟩:=h;exact⟨h1,rfl⟩
theorem aDK{g:FuncId}{args:Array Operand}{ts:Array TypeId}(h:aop P call b i (mkO d (.call {callee:= .value (.func g),args:=args,argTypes:=ts}) ty) S σ=some (v,σ1)):call g (args.map (ev S)) σ=some (v,σ1):=by
 simp only[aop,mkO,aM,aAa,rT,ev]at h;simpa using h
theorem zX{t:TypeId}(h:aop P call b i (mkO d (.alloc t) ty) S σ=some (v,σ1)): ∃z,v= .pointer (some ⟨b+i,0,none⟩)∧σ1=σ.put (b+i) (.cells z boxMeta):=by
 simp only[aop,mkO,aM,cV,mjE,Prod.exists]at h;obtain⟨a,ob,h1,h2⟩:=h;cases h2;split at h1
 ·simp only[cond_eq_ite]at h1;split at h1
  ·cases h1;exact⟨_,rfl,rfl⟩
  ·cases h1
 ·cases h1
theorem zT{t:TypeId}{k n:Nat}{z:List Value}{x:Value}{σ σ1:St}(hz:gX P t=some n)(h:eP P (σ.put k (.cells z boxMeta)) t (.pointer (some ⟨k,0,none⟩)) x=some σ1):
    x.cells.size=n∧x.cells.toList.all one=true∧∃z',σ1=(σ.put k (.cells z boxMeta)).put k (.cells z' boxMeta):=by
 have e:(σ.put k (.cells z boxMeta)).row k=some (z,boxMeta):=by
  unfold St.row;rw[St.get_put,if_pos rfl];rfl
 unfold eP at h;simp only[e,hz]at h;simp only[cond_eq_ite]at h;split at h
 ·rename_i hc;simp only[bjE,cM,djE]at hc;exact⟨hc.1.1.2,hc.2,_,(Option.some.inj h).symm⟩
 ·cases h
theorem aF0{w0:W0}{μ:Mp}{w:World}{k:Nat}{z z':List Value}(S:Sim w0 P μ σ w)(h:μ k=none):Sim w0 P μ ((σ.put k (.cells z boxMeta)).put k (.cells z' boxMeta)) w:=
 (S.put_new h (fun cs m g v e e2=>by cases e;cases e2)).put_new h (fun cs m g v e e2=>by cases e;cases e2)
set_option maxRecDepth 20000
theorem opsA_inv{L:Nat}{S S':Slots}{σ σ':St}{fl:Fl}(h:cZ Tryz.prog call L (.region 50 opsA false) S σ=some (fl,S',σ')):
    fl= .normal∧σ'=up σ 4∧∃u a n c,eK Tryz.prog σ' 41 (S.at 3)=some u∧S.at 0= .slice a n c∧S'.at 70=u∧S'.at 71= .slice a n c∧S'.at 72= .int .i64 n∧S'.at 73= .int .i64 0∧S'.at 5=S.at 5:=by
 obtain⟨rfl,g⟩:=bS h;clear h;obtain⟨v1,σ1,h1,g⟩:=aO rfl g;obtain⟨v2,σ2,h2,g⟩:=aO rfl g;obtain⟨v3,σ3,h3,g⟩:=aO rfl g;obtain⟨v4,σ4,h4,g⟩:=aO rfl g;obtain⟨rfl,rfl⟩:=eT g;clear g;obtain⟨k1,rfl⟩:=nG h1;obtain⟨rfl,rfl⟩:=qI h2;obtain⟨k3,rfl⟩:=aop_len h3;obtain⟨rfl,rfl⟩:=qI h4;clear h1 h2 h3 h4;simp only[mkO,ev,at_store,Nat.reduceEqDiff,if_false,if_true]at k1 k3;have e0: ∃a n c,S.at 0= .slice a n c∧v3=goInt n:=by
  unfold alen at k3;rw[Tryz.underlying30]at k3;simp only at k3;split at k3
  ·rename_i a n c e;cases k3;exact⟨a,n,c,e,rfl⟩
  ·cases k3
 obtain⟨a,n,c,e0,rfl⟩:=e0;refine⟨rfl,rfl,v1,a,n,c,k1,e0,?_⟩;simp only[mkO,ev,at_store,Nat.reduceEqDiff,if_false,if_true,e0];exact⟨trivial,trivial,rfl,trivial,trivial⟩
theorem lss_inv{x y v:Value}{n m:Int}{ρ:Operand→Value}{a b:Operand}{d:Option Nat}{t2 ty:TypeId}(ha:ρ a= .int .i64 n)(hb:ρ b= .int .i64 m)(h:dQ Tryz.prog ρ (mkO d (.binOp .lss 3 a b t2) ty)=some v):v= .bool (decide (n<m)):=by
 simp only[dQ,mkO,ha,hb]at h;have e:some (Value.bool (decide (n<m)))=some v:=h;exact(Option.some.inj e).symm
theorem add_inv{v:Value}{n:Int}{ρ:Operand→Value}{a:Operand}{d:Option Nat}{t2 ty:TypeId}(ha:ρ a= .int .i64 n)(h:dQ Tryz.prog ρ (mkO d (.binOp .add 3 a (.const (.int .i64 1)) t2) ty)=some v)(hc:ρ (.const (.int .i64 1))= .int .i64 1):v= .int .i64 (IntKind.i64.wrap (n+1)):=by
 simp only[dQ,mkO,ha,hc]at h;have e:some (Value.int .i64 (IntKind.i64.wrap (n+1)))=some v:=h;exact(Option.some.inj e).symm
theorem opsB_inv{L:Nat}{S S':Slots}{σ σ':St}{fl:Fl}{n i:Int}(h73:S.at 73= .int .i64 i)(h72:S.at 72= .int .i64 n)(h:cZ Tryz.prog call L (.region 51 opsB false) S σ=some (fl,S',σ')):
    fl= .normal∧σ'=up σ 1∧S'.at 74= .bool (decide (i<n))∧∀k,k≠74→S'.at k=S.at k:=by
 obtain⟨rfl,g⟩:=bS h;clear h;obtain⟨v1,σ1,h1,g⟩:=aO rfl g;obtain⟨rfl,rfl⟩:=eT g;clear g;obtain⟨k1,rfl⟩:=aBU h1;refine⟨rfl,rfl,?_,fun k hk=>?_⟩
 ·rw[lss_inv (x:=v1) (y:=v1) (n:=i) (m:=n) h73 h72 k1];simp only[mkO,at_store,if_true]
 ·simp only[mkO,at_store];rw[if_neg hk]
theorem opsF_inv{L:Nat}{S S':Slots}{σ σ':St}{fl:Fl}{i:Int}(h73:S.at 73= .int .i64 i)(h:cZ Tryz.prog call L (.region 55 opsF false) S σ=some (fl,S',σ')):
    fl= .normal∧σ'=up σ 2∧S'.at 73= .int .i64 (IntKind.i64.wrap (i+1))∧∀k,k≠84→k≠73→S'.at k=S.at k:=by
 obtain⟨rfl,g⟩:=bS h;clear h;obtain⟨v1,σ1,h1,g⟩:=aO rfl g;obtain⟨v2,σ2,h2,g⟩:=aO rfl g;obtain⟨rfl,rfl⟩:=eT g;clear g;obtain⟨k1,rfl⟩:=aBU h1;obtain⟨rfl,rfl⟩:=qI h2;have e:=add_inv (n:=i) h73 k1 rfl;refine⟨rfl,rfl,?_,fun k hk hk2=>?_⟩
 ·simp only[mkO,at_store,ev,if_true];exact e
 ·simp only[mkO,at_store,ev];rw[if_neg hk2,if_neg hk]
theorem aC6{σ:St}{p v:Value}(h:eK Tryz.prog σ 41 p=some v): ∃l:List Value,v= .agg l.toArray∧l.length=11:=by
 unfold eK at h;split at h
 ·rename_i id off;have e1:iV Tryz.prog 41=some true:=by kernel_rfl
  have e2:gX Tryz.prog 41=some 11:=by kernel_rfl
  rw[e1,e2]at h;split at h
  ·rename_i cs m e;simp only[mjE]at h;obtain⟨l,hl,rfl⟩:=h;refine⟨l,rfl,?_⟩;unfold cut at hl;simp only[cond_eq_ite]at hl;split at hl
   ·rename_i hh;cases hl;exact nqE hh
   ·cases hl
  ·cases h
 ·cases h
theorem opsC_inv{L:Nat}{S S':Slots}{σ σ':St}{fl:Fl}{i:Int}{a:Option Addr}{n c:Nat}(h71:S.at 71= .slice a n c)(h73:S.at 73= .int .i64 i)(h:cZ Tryz.prog call L (.region 52 opsC false) S σ=some (fl,S',σ')):
    fl= .normal∧0≤i∧i<n∧∃(id off:Nat) (l z z':List Value),a=some ⟨id,off,none⟩∧eK Tryz.prog (up σ 4) 41 (.pointer (some ⟨id,off+i.toNat*11,none⟩))=some (.agg l.toArray)∧l.length=11∧l.all one=true∧
      S'.at 76= .agg l.toArray∧(∀k,k<75→S'.at k=S.at k)∧σ'=((up σ 4).put (σ.next+2) (.cells z boxMeta)).put (σ.next+2) (.cells z' boxMeta):=by
 obtain⟨rfl,g⟩:=bS h;clear h;obtain⟨v1,σ1,h1,g⟩:=aO rfl g;obtain⟨v2,σ2,h2,g⟩:=aO rfl g;obtain⟨v3,σ3,h3,g⟩:=aO rfl g;obtain⟨v4,σ4,h4,g⟩:=aO rfl g;obtain⟨rfl,rfl⟩:=eT g;clear g;obtain⟨k1,rfl⟩:=aop_idx h1;obtain⟨k2,rfl⟩:=nG h2;obtain⟨z,rfl,rfl⟩:=zX h3;obtain⟨k4,rfl⟩:=nF h4;clear h1 h2 h3 h4;simp only[mkO,ev,at_store,cJ,Nat.reduceEqDiff,if_false,if_true,Nat.zero_add,Nat.reduceAdd]at k1 k2 k4;rw[h71,h73]at k1;have e1:0≤i∧i<n∧∃id off,a=some ⟨id,off,none⟩∧v1= .pointer (some ⟨id,off+i.toNat*11,none⟩):=by
  unfold eB at k1;rw[Tryz.underlying30]at k1;have e2:gX Tryz.prog 41=some 11:=by kernel_rfl
  simp only[e2]at k1;split at k1
  ·rename_i id off len c' e;cases e;simp only[cond_eq_ite]at k1;split at k1
   ·rename_i hr;cases k1;simp only[bD,bjE,djE]at hr;exact⟨hr.1,hr.2,id,off,rfl,rfl⟩
   ·cases k1
  ·cases k1
 obtain⟨b1,b2,id,off,rfl,rfl⟩:=e1;obtain⟨l,rfl,hl⟩:=aC6 k2;obtain⟨s1,s2,z',s3⟩:=zT (n:=11) (by kernel_rfl) k4
 refine⟨rfl,b1,b2,id,off,l,z,z',rfl,k2,hl,by simpa [Value.cells]using s2,?_,fun k hk=>?_,s3⟩
 ·simp only[mkO,at_store,cJ,Nat.reduceEqDiff,if_false,if_true]
 ·simp only[mkO,at_store,cJ];rw[if_neg (by omega),if_neg (by omega),if_neg (by omega)]
theorem opsD_inv{L:Nat}{S S':Slots}{σ σ':St}{fl:Fl}(h:cZ Tryz.prog call L (.region 53 opsD false) S σ=some (fl,S',σ')):
    fl= .normal∧∃(vs:Array Value) (σ2:St) (s l bb:Value) (z z':List Value),call 85 #[S.at 76,S.at 70] (up σ 6)=some (.tuple vs,σ2)∧vs[0]?=some s∧vs[1]?=some l∧vs[2]?=some bb∧l.cells.size=11∧l.cells.toList.all one=true∧
      S'.at 78=s∧S'.at 79=l∧S'.at 80=bb∧(∀k,k<77→S'.at k=S.at k)∧σ'=(σ2.put (σ.next+4) (.cells z boxMeta)).put (σ.next+4) (.cells z' boxMeta):=by
 obtain⟨rfl,g⟩:=bS h;clear h;obtain⟨v1,σ1,h1,g⟩:=aO rfl g;obtain⟨v2,σ2,h2,g⟩:=aO rfl g;obtain⟨v3,σ3,h3,g⟩:=aO rfl g;obtain⟨v4,σ4,h4,g⟩:=aO rfl g;obtain⟨v5,σ5,h5,g⟩:=aO rfl g;obtain⟨v6,σ6,h6,g⟩:=aO rfl g;obtain⟨rfl,rfl⟩:=eT g;clear g;have k1:=aDK h1;obtain⟨⟨vs,k2,k2'⟩,rfl⟩:=aBT h2;obtain⟨⟨vs3,k3,k3'⟩,rfl⟩:=aBT h3;obtain⟨⟨vs4,k4,k4'⟩,rfl⟩:=aBT h4;obtain⟨z,rfl,rfl⟩:=zX h5;obtain⟨k6,rfl⟩:=nF h6;clear h1 h2 h3 h4 h5 h6;simp only[mkO,ev,at_store,cJ,Nat.reduceEqDiff,if_false,if_true,Nat.zero_add,Nat.reduceAdd]at k2 k3 k4 k6;subst k2;cases k3;cases k4;obtain⟨s1,s2,z',s3⟩:=zT (n:=11) (by kernel_rfl) k6
 refine⟨rfl,vs,_,v2,v3,v4,z,z',(by simp only[List.map_toArray,mpC,List.map_nil,ev]at k1;exact k1),k2',k3',k4',s1,s2,?_,?_,?_,fun k hk=>?_,s3⟩
 ·simp only[mkO,at_store,cJ,Nat.reduceEqDiff,if_false,if_true]
 ·simp only[mkO,at_store,cJ,Nat.reduceEqDiff,if_false,if_true]
 ·simp only[mkO,at_store,cJ,Nat.reduceEqDiff,if_false,if_true]
 ·simp only[mkO,at_store,cJ];rw[if_neg (by omega),if_neg (by omega),if_neg (by omega),if_neg (by omega),if_neg (by omega)]
noncomputable def andV(x y:Value):Option Value:=dQ Tryz.prog (fun o=>match o with| .tmp 0=>x|_=>y) (mkO none (.binOp .and 33 (.tmp 0) (.tmp 1) 33) 33)
theorem aE3{t:TypeId}(h:aop P call b i (mkO d (.alloc t) ty) S σ=some (v,σ1)): ∃z,v= .pointer (some ⟨b+i,0,none⟩)∧σ1=σ.put (b+i) (.cells z boxMeta)∧∀(ρ:Operand→Value) (o:Oper),o.op= .alloc t→cV P ρ o (b+i)=some (v,.cells z boxMeta):=by
 simp only[aop,mkO,aM,cV,mjE,Prod.exists]at h;obtain⟨a,ob,h1,h2⟩:=h;cases h2;split at h1
 ·rename_i zv hz;simp only[cond_eq_ite]at h1;split at h1
  ·rename_i hh;cases h1;refine⟨_,rfl,rfl,fun ρ o ho=>?_⟩
   unfold cV;rw[ho];simp only[hz,cond_eq_ite];rw[if_pos hh]
  ·cases h1
 ·cases h1
theorem aIH{t:TypeId}{ps:Array (Nat×Operand)}(h:aop P call b i (mkO d (.build t ps) ty) S σ=some (v,σ1)):rU P t (ps.map fun(i,x)=>(i,ev S x))=some v∧σ1=σ:=by
 simp only[aop,mkO,aM,iC,dQ,mjE,pjE]at h;obtain⟨y,h1,rfl,rfl⟩:=h;split at h1
 ·rename_i v' e;cases h1;exact⟨e,rfl⟩
 ·cases h1
theorem aop_fa{t:TypeId}{x:Operand}{f:Nat}(h:aop P call b i (mkO d (.fieldAddr t x f) ty) S σ=some (v,σ1)):cN P t (ev S x) f=some v∧σ1=σ:=by
 simp only[aop,mkO,aM,iC,dQ,mjE,pjE]at h;obtain⟨y,h1,rfl,rfl⟩:=h;split at h1
 ·rename_i v' e;cases h1;exact⟨e,rfl⟩
 ·cases h1
structure RdE(b:Nat)(σ2 σ':St)(s l g vo:Value)(fv:Value)(z:List Value)(σ4:St)(x s2 y:Value):Prop where
 bld:rU Tryz.prog 92 #[(0,s),(1,l),(2,g)]=some fv
 al: ∀(ρ:Operand→Value) (o:Oper),o.op= .alloc 92→cV Tryz.prog ρ o b=some (.pointer (some ⟨b,0,none⟩),.cells z boxMeta)
 st:eP Tryz.prog (σ2.put b (.cells z boxMeta)) 92 (.pointer (some ⟨b,0,none⟩)) fv=some σ4
 ld:eK Tryz.prog σ4 33 vo=some x
 ls:eK Tryz.prog σ4 33 (.pointer (some ⟨b,0,none⟩))=some s2
 an:andV x s2=some y
 so:eP Tryz.prog σ4 33 vo y=some σ'
theorem fa0{b:Nat}{v:Value}(h:cN Tryz.prog 92 (.pointer (some ⟨b,0,none⟩)) 0=some v):v= .pointer (some ⟨b,0,none⟩):=by
 have e:cN Tryz.prog 92 (.pointer (some ⟨b,0,none⟩)) 0=some (.pointer (some ⟨b,0,none⟩)):=by
  unfold cN;rw[Tryz.underlying92];have e2:gX Tryz.prog 33=some 1:=by kernel_rfl
  simp[e2];rfl
 rw[e]at h;exact(Option.some.inj h).symm
theorem opsE_inv{L:Nat}{S S':Slots}{σ σ':St}{fl:Fl}(h:cZ Tryz.prog call L (.region 54 opsE false) S σ=some (fl,S',σ')):
    fl= .normal∧∃(g:Value) (σ2:St) (fv:Value) (z:List Value) (σ4:St) (x s2 y:Value),call 39 #[S.at 76] (up σ 9)=some (g,σ2)∧
      RdE (σ.next+2) σ2 σ' (S.at 78) (S.at 79) g (S.at 5) fv z σ4 x s2 y∧(∀k,k<81→S'.at k=S.at k):=by
 obtain⟨rfl,g⟩:=bS h;clear h;obtain⟨v1,σ1,h1,g⟩:=aO rfl g;obtain⟨v2,σ2,h2,g⟩:=aO rfl g;obtain⟨v3,σ3,h3,g⟩:=aO rfl g;obtain⟨v4,σ4,h4,g⟩:=aO rfl g;obtain⟨v5,σ5,h5,g⟩:=aO rfl g;obtain⟨v6,σ6,h6,g⟩:=aO rfl g;obtain⟨v7,σ7,h7,g⟩:=aO rfl g;obtain⟨v8,σ8,h8,g⟩:=aO rfl g;obtain⟨v9,σ9,h9,g⟩:=aO rfl g;obtain⟨rfl,rfl⟩:=eT g;clear g;have k1:=aDK h1;obtain⟨k2,rfl⟩:=aIH h2;obtain⟨z,rfl,rfl,k3⟩:=aE3 h3;obtain⟨k4,rfl⟩:=nF h4;obtain⟨k5,rfl⟩:=nG h5;obtain⟨k6,rfl⟩:=aop_fa h6;obtain⟨k7,rfl⟩:=nG h7;obtain⟨k8,rfl⟩:=aBU h8;obtain⟨k9,rfl⟩:=nF h9;clear h1 h2 h3 h4 h5 h6 h7 h8 h9;simp only[mkO,ev,at_store,cJ,Nat.reduceEqDiff,if_false,if_true,Nat.zero_add,Nat.reduceAdd,List.map_toArray,mpC,List.map_nil]at k2 k3 k4 k5 k6 k7 k9;have e6:=fa0 k6;subst e6;refine⟨rfl,v1,_,v2,z,_,v5,v7,v8,(by simp only[List.map_toArray,mpC,List.map_nil,ev]at k1;exact k1),⟨k2,k3,k4,k5,k7,?_,k9⟩,fun k hk=>?_⟩
 ·simp only[dQ,mkO,ev,at_store,cJ,Nat.reduceEqDiff,if_false,if_true]at k8;exact k8
 ·simp only[mkO,at_store,cJ];rw[if_neg (by omega),if_neg (by omega),if_neg (by omega),if_neg (by omega),if_neg (by omega),if_neg (by omega),if_neg (by omega)]
theorem cdZ_inv{L:Nat}{S S':Slots}{σ σ':St}{fl:Fl}(h:cZ Tryz.prog call L cdZ S σ=some (fl,S',σ')):fl= .ret∧σ'=up σ 2∧∃x,eK Tryz.prog σ' 33 (S.at 5)=some x∧S'.at 4=x:=by
 unfold cdZ at h;rcases eR h with⟨S1,σ1,e1,e2⟩|⟨hne,e1⟩
 rotate_left
 ·exact absurd (bS e1).1 hne
 simp only[cZ,ojE,pjE]at e2;obtain⟨rfl,rfl,rfl⟩:=e2;obtain⟨-,g⟩:=bS e1;obtain⟨v1,σ2,h1,g⟩:=aO rfl g;obtain⟨v2,σ3,h2,g⟩:=aO rfl g;obtain⟨rfl,rfl⟩:=eT g;obtain⟨k1,rfl⟩:=nG h1;obtain⟨rfl,rfl⟩:=qI h2;refine⟨rfl,rfl,v1,k1,?_⟩;simp only[mkO,ev,at_store,if_true]
end
end Go.Rf
