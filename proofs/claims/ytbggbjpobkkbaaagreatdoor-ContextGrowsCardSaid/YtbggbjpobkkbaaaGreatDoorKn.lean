import Derived.Test.YtbggbjpobkkbaaaGreatDoorProg
import Derived.Test.YtbggbjpobkkbaaaGreatDoorKg
import Derived.Test.YtbggbjpobkkbaaaGreatDoorKm
set_option linter.unusedVariables false
set_option linter.unusedSimpArgs false
set_option linter.constructorNameAsVariable false
namespace Go.Rf
open Go.AI Go.Proofs
def mkO (d : Option Nat) (op : Op) (t : TypeId) : Oper := { dst := d, op := op, type := t, pos := "", after := #[], guard := none }
def opsA:Array Oper:= #[mkO (some 70) (.load 38 (.tmp 3)) 38,mkO (some 71) (.move (.tmp 0)) 30,
 mkO (some 72) (.call {callee:= .builtin .len,args:= #[.tmp 71],argTypes:= #[30]}) 3,mkO (some 73) (.move (.const (.int .i64 0))) 3]
def opsB:Array Oper:= #[mkO (some 74) (.binOp .lss 3 (.tmp 73) (.tmp 72) 3) 4]
def opsC:Array Oper:= #[mkO (some 75) (.indexAddr 30 (.tmp 71) (.tmp 73)) 0,mkO (some 76) (.load 38 (.tmp 75)) 38,
 mkO (some 85) (.alloc 38) 0,mkO none (.store 38 (.tmp 85) (.tmp 76)) 0]
def opsD:Array Oper:= #[mkO (some 77) (.call {callee:= .value (.func 128),args:= #[.tmp 76,.tmp 70],argTypes:= #[38,38]}) 170,
 mkO (some 78) (.extract (.tmp 77) 0) 79,mkO (some 79) (.extract (.tmp 77) 1) 38,mkO (some 80) (.extract (.tmp 77) 2) 4,
 mkO (some 86) (.alloc 38) 0,mkO none (.store 38 (.tmp 86) (.tmp 79)) 0]
def opsE:Array Oper:= #[mkO (some 81) (.call {callee:= .value (.func 39),args:= #[.tmp 76],argTypes:= #[38]}) 38,
 mkO (some 87) (.build 137 #[(0,.tmp 78),(1,.tmp 79),(2,.tmp 81)]) 137,
 mkO (some 90) (.alloc 137) 0,mkO none (.store 137 (.tmp 90) (.tmp 87)) 0,
 mkO (some 82) (.load 79 (.tmp 5)) 79,mkO (some 91) (.fieldAddr 137 (.tmp 90) 0) 0,mkO (some 92) (.load 79 (.tmp 91)) 79,
 mkO (some 83) (.binOp .and 79 (.tmp 82) (.tmp 92) 79) 79,mkO none (.store 79 (.tmp 5) (.tmp 83)) 0]
def opsF:Array Oper:= #[mkO (some 84) (.binOp .add 3 (.tmp 73) (.const (.int .i64 1)) 3) 3,mkO (some 73) (.move (.tmp 84)) 3]
def cdL:Code:= .seq (.region 51 opsB false) (.seq (.cond (.tmp 74) .skip (.exit 5)) (.seq (.region 52 opsC false) (.seq (.region 53 opsD false)
 (.seq (.cond (.tmp 80) (.region 54 opsE false) .skip) (.region 55 opsF false)))))
def cdA:Code:= .seq (.region 50 opsA false) (.block 5 (.loop cdL))
def opsZ:Array Oper:= #[mkO (some 67) (.load 79 (.tmp 5)) 79,mkO (some 4) (.move (.tmp 67)) 79]
def cdZ:Code:= .seq (.region 56 opsZ false) .ret
def swapC:Code→Code
 | .seq a (.seq b (.seq c _))=> .seq a (.seq b (.seq c (.seq cdA cdZ)))
 |c=>c
noncomputable def tyB:Code:=Tryz.f43.body.getD .skip
noncomputable def tyF:Func:={Tryz.f43 with body:=some (swapC tyB),ntmps:=93}
noncomputable def cdP:Program:={Tryz.prog with funcs:=⟨Tryz.prog.funcs.toList.set 43 tyF⟩}
section
variable{call:FuncId→Array Value→St→Option (Value×St)}
theorem aM{P:Program}{ops:Array Oper}{base i:Nat}{o:Oper}{rest:List Oper}{S:Slots}{σ:St}{r:Slots×St}(hg:o.guard=none)(h:fN P call ops base (o::rest) i S σ=some r):
    ∃v σ1,aop P call base i o S σ=some (v,σ1)∧fN P call ops base rest (i+1) (S.store o.dst v) σ1=some r:=by
 unfold fN wanted at h;rw[hg,cdt]at h;split at h
 ·rename_i v σ1 e;exact⟨v,σ1,e,h⟩
 ·cases h
theorem kS(S:Slots)(k j:Nat)(v:Value):Slots.at (Tr.set S k v) j=if j=k then v else S.at j:=by
 unfold Slots.at;rw[Tr.get_set];split<;>rfl
theorem at_store(S:Slots)(k j:Nat)(v:Value):Slots.at (S.store (some k) v) j=if j=k then v else S.at j:=kS S k j v
theorem cH(S:Slots)(v:Value):S.store none v=S:=rfl
theorem bN{P:Program}{id:Nat}{ops:Array Oper}{L:Nat}{S S':Slots}{σ σ':St}{fl:Fl}(h:cS P call L (.region id ops false) S σ=some (fl,S',σ')):
    fl= .normal∧fN P call ops σ.next ops.toList 0 S {σ with next:=σ.next+ops.size}=some (S',σ'):=by
 simp only[cS,mjE]at h;obtain⟨⟨a,b⟩,h,e⟩:=h;cases e;exact⟨rfl,h⟩
theorem eJ{P:Program}{ops:Array Oper}{base i:Nat}{S S':Slots}{σ σ':St}(h:fN P call ops base [] i S σ=some (S',σ')):S'=S∧σ'=σ:=by
 simp only[fN,ojE,pjE]at h;exact⟨h.1.symm,h.2.symm⟩
theorem eH{P:Program}{a b:Code}{L:Nat}{S S':Slots}{σ σ':St}{fl:Fl}(h:cS P call L (.seq a b) S σ=some (fl,S',σ')):
    (∃S1 σ1,cS P call L a S σ=some (.normal,S1,σ1)∧cS P call L b S1 σ1=some (fl,S',σ'))∨(fl≠ .normal∧cS P call L a S σ=some (fl,S',σ')):=by
 simp only[cS]at h;cases hx:cS P call L a S σ with
 |none=>rw[hx]at h;cases h
 |some r=>
  obtain⟨f1,S1,σ1⟩:=r;rw[hx]at h;cases f1 with
  |normal=>exact .inl ⟨S1,σ1,rfl,h⟩
  |exit n=>cases h;exact .inr ⟨(fun e=>by cases e),rfl⟩
  |ret=>cases h;exact .inr ⟨(fun e=>by cases e),rfl⟩
def up(σ:St)(n:Nat):St:={σ with next:=σ.next+n}
variable{P:Program}{S:Slots}{σ σ1:St}{b i:Nat}{v:Value}{d:Option Nat}{ty:TypeId}
theorem mR{t:TypeId}{a:Operand}(h:aop P call b i (mkO d (.load t a) ty) S σ=some (v,σ1)):eB P σ t (ev S a)=some v∧σ1=σ:=by
 simp only[aop,mkO,aK,gP,mjE,pjE]at h;obtain⟨x,h1,rfl,rfl⟩:=h;exact⟨h1,rfl⟩
theorem pR{x:Operand}(h:aop P call b i (mkO d (.move x) ty) S σ=some (v,σ1)):v=ev S x∧σ1=σ:=by
 simp only[aop,mkO,aK,gQ,dL,mjE,pjE,ojE]at h;obtain⟨x,h1,rfl,rfl⟩:=h;exact⟨h1.symm,rfl⟩
theorem aAS{x:Operand}{k:Nat}(h:aop P call b i (mkO d (.extract x k) ty) S σ=some (v,σ1)):(∃vs:Array Value,ev S x= .tuple vs∧vs[k]?=some v)∧σ1=σ:=by
 simp only[aop,mkO,aK,gQ,dL,mjE,pjE]at h;obtain⟨y,h1,rfl,rfl⟩:=h;split at h1
 ·rename_i v' e;cases h1;split at e
  ·rename_i vs e2;exact⟨⟨vs,e2,e⟩,rfl⟩
  ·cases e
 ·cases h1
theorem aop_len{t:TypeId}{x:Operand}(h:aop P call b i (mkO d (.call {callee:= .builtin .len,args:= #[x],argTypes:= #[t]}) ty) S σ=some (v,σ1)):alen P t (ev S x)=some v∧σ1=σ:=by
 simp only[aop,mkO,aK,gQ,dL,gT,mjE,pjE]at h;obtain⟨y,h1,rfl,rfl⟩:=h;split at h1
 ·rename_i v' e;cases h1;exact⟨e,rfl⟩
 ·cases h1
theorem aop_idx{t:TypeId}{x y:Operand}(h:aop P call b i (mkO d (.indexAddr t x y) ty) S σ=some (v,σ1)):dR P t (ev S x) (ev S y)=some v∧σ1=σ:=by
 simp only[aop,mkO,aK,gQ,dL,mjE,pjE]at h;obtain⟨y,h1,rfl,rfl⟩:=h;split at h1
 ·rename_i v' e;cases h1;exact⟨e,rfl⟩
 ·cases h1
theorem aAT{op:BinOp}{t t2:TypeId}{x y:Operand}(h:aop P call b i (mkO d (.binOp op t x y t2) ty) S σ=some (v,σ1)):dL P (ev S) (mkO d (.binOp op t x y t2) ty)=some v∧σ1=σ:=by
 simp only[aop,mkO,aK,gQ,mjE,pjE]at h;obtain⟨y,h1,rfl,rfl⟩:=h;split at h1
 ·rename_i v' e;cases h1;exact⟨e,rfl⟩
 ·cases h1
theorem mQ{t:TypeId}{x y:Operand}(h:aop P call b i (mkO d (.store t x y) ty) S σ=some (v,σ1)):eE P σ t (ev S x) (ev S y)=some σ1∧v=undef:=by
 simp only[aop,mkO,aK,yE,mjE,pjE]at h;obtain⟨y,h1,rfl,rfl⟩:=h;exact⟨h1,rfl⟩
theorem aCw{g:FuncId}{args:Array Operand}{ts:Array TypeId}(h:aop P call b i (mkO d (.call {callee:= .value (.func g),args:=args,argTypes:=ts}) ty) S σ=some (v,σ1)):call g (args.map (ev S)) σ=some (v,σ1):=by
 simp only[aop,mkO,aK,yE,qX,ev]at h;simpa using h
theorem yA{t:TypeId}(h:aop P call b i (mkO d (.alloc t) ty) S σ=some (v,σ1)): ∃z,v= .pointer (some ⟨b+i,0,none⟩)∧σ1=σ.put (b+i) (.cells z boxMeta):=by
 simp only[aop,mkO,aK,cQ,mjE,Prod.exists]at h;obtain⟨a,ob,h1,h2⟩:=h;cases h2;split at h1
 ·simp only[cond_eq_ite]at h1;split at h1
  ·cases h1;exact⟨_,rfl,rfl⟩
  ·cases h1
 ·cases h1
theorem xV{t:TypeId}{k n:Nat}{z:List Value}{x:Value}{σ σ1:St}(hz:iM P t=some n)(h:eE P (σ.put k (.cells z boxMeta)) t (.pointer (some ⟨k,0,none⟩)) x=some σ1):
    x.cells.size=n∧x.cells.toList.all one=true∧∃z',σ1=(σ.put k (.cells z boxMeta)).put k (.cells z' boxMeta):=by
 have e:(σ.put k (.cells z boxMeta)).row k=some (z,boxMeta):=by
  unfold St.row;rw[St.get_put,if_pos rfl];rfl
 unfold eE at h;simp only[e,hz]at h;simp only[cond_eq_ite]at h;split at h
 ·rename_i hc;simp only[bjE,cK,djE]at hc;exact⟨hc.1.1.2,hc.2,_,(Option.some.inj h).symm⟩
 ·cases h
theorem aEk{w0:W0}{μ:Mp}{w:World}{k:Nat}{z z':List Value}(S:Sim w0 P μ σ w)(h:μ k=none):Sim w0 P μ ((σ.put k (.cells z boxMeta)).put k (.cells z' boxMeta)) w:=
 (S.put_new h (fun cs m g v e e2=>by cases e;cases e2)).put_new h (fun cs m g v e e2=>by cases e;cases e2)
set_option maxRecDepth 20000
theorem opsA_inv{L:Nat}{S S':Slots}{σ σ':St}{fl:Fl}(h:cS Tryz.prog call L (.region 50 opsA false) S σ=some (fl,S',σ')):
    fl= .normal∧σ'=up σ 4∧∃u a n c,eB Tryz.prog σ' 38 (S.at 3)=some u∧S.at 0= .slice a n c∧S'.at 70=u∧S'.at 71= .slice a n c∧S'.at 72= .int .i64 n∧S'.at 73= .int .i64 0∧S'.at 5=S.at 5:=by
 obtain⟨rfl,g⟩:=bN h;clear h;obtain⟨v1,σ1,h1,g⟩:=aM rfl g;obtain⟨v2,σ2,h2,g⟩:=aM rfl g;obtain⟨v3,σ3,h3,g⟩:=aM rfl g;obtain⟨v4,σ4,h4,g⟩:=aM rfl g;obtain⟨rfl,rfl⟩:=eJ g;clear g;obtain⟨k1,rfl⟩:=mR h1;obtain⟨rfl,rfl⟩:=pR h2;obtain⟨k3,rfl⟩:=aop_len h3;obtain⟨rfl,rfl⟩:=pR h4;clear h1 h2 h3 h4;simp only[mkO,ev,at_store,Nat.reduceEqDiff,if_false,if_true]at k1 k3;have e0: ∃a n c,S.at 0= .slice a n c∧v3=goInt n:=by
  unfold alen at k3;rw[Tryz.underlying30]at k3;simp only at k3;split at k3
  ·rename_i a n c e;cases k3;exact⟨a,n,c,e,rfl⟩
  ·cases k3
 obtain⟨a,n,c,e0,rfl⟩:=e0;refine⟨rfl,rfl,v1,a,n,c,k1,e0,?_⟩;simp only[mkO,ev,at_store,Nat.reduceEqDiff,if_false,if_true,e0];exact⟨trivial,trivial,rfl,trivial,trivial⟩
theorem lss_inv{x y v:Value}{n m:Int}{ρ:Operand→Value}{a b:Operand}{d:Option Nat}{t2 ty:TypeId}(ha:ρ a= .int .i64 n)(hb:ρ b= .int .i64 m)(h:dL Tryz.prog ρ (mkO d (.binOp .lss 3 a b t2) ty)=some v):v= .bool (decide (n<m)):=by
 simp only[dL,mkO,ha,hb]at h;have e:some (Value.bool (decide (n<m)))=some v:=h;exact(Option.some.inj e).symm
theorem add_inv{v:Value}{n:Int}{ρ:Operand→Value}{a:Operand}{d:Option Nat}{t2 ty:TypeId}(ha:ρ a= .int .i64 n)(h:dL Tryz.prog ρ (mkO d (.binOp .add 3 a (.const (.int .i64 1)) t2) ty)=some v)(hc:ρ (.const (.int .i64 1))= .int .i64 1):v= .int .i64 (IntKind.i64.wrap (n+1)):=by
 simp only[dL,mkO,ha,hc]at h;have e:some (Value.int .i64 (IntKind.i64.wrap (n+1)))=some v:=h;exact(Option.some.inj e).symm
theorem opsB_inv{L:Nat}{S S':Slots}{σ σ':St}{fl:Fl}{n i:Int}(h73:S.at 73= .int .i64 i)(h72:S.at 72= .int .i64 n)(h:cS Tryz.prog call L (.region 51 opsB false) S σ=some (fl,S',σ')):
    fl= .normal∧σ'=up σ 1∧S'.at 74= .bool (decide (i<n))∧∀k,k≠74→S'.at k=S.at k:=by
 obtain⟨rfl,g⟩:=bN h;clear h;obtain⟨v1,σ1,h1,g⟩:=aM rfl g;obtain⟨rfl,rfl⟩:=eJ g;clear g;obtain⟨k1,rfl⟩:=aAT h1;refine⟨rfl,rfl,?_,fun k hk=>?_⟩
 ·rw[lss_inv (x:=v1) (y:=v1) (n:=i) (m:=n) h73 h72 k1];simp only[mkO,at_store,if_true]
 ·simp only[mkO,at_store];rw[if_neg hk]
theorem opsF_inv{L:Nat}{S S':Slots}{σ σ':St}{fl:Fl}{i:Int}(h73:S.at 73= .int .i64 i)(h:cS Tryz.prog call L (.region 55 opsF false) S σ=some (fl,S',σ')):
    fl= .normal∧σ'=up σ 2∧S'.at 73= .int .i64 (IntKind.i64.wrap (i+1))∧∀k,k≠84→k≠73→S'.at k=S.at k:=by
 obtain⟨rfl,g⟩:=bN h;clear h;obtain⟨v1,σ1,h1,g⟩:=aM rfl g;obtain⟨v2,σ2,h2,g⟩:=aM rfl g;obtain⟨rfl,rfl⟩:=eJ g;clear g;obtain⟨k1,rfl⟩:=aAT h1;obtain⟨rfl,rfl⟩:=pR h2;have e:=add_inv (n:=i) h73 k1 rfl;refine⟨rfl,rfl,?_,fun k hk hk2=>?_⟩
 ·simp only[mkO,at_store,ev,if_true];exact e
 ·simp only[mkO,at_store,ev];rw[if_neg hk2,if_neg hk]
theorem aBW{σ:St}{p v:Value}(h:eB Tryz.prog σ 38 p=some v): ∃l:List Value,v= .agg l.toArray∧l.length=11:=by
 unfold eB at h;split at h
 ·rename_i id off;have e1:iK Tryz.prog 38=some true:=by kernel_rfl
  have e2:iM Tryz.prog 38=some 11:=by kernel_rfl
  rw[e1,e2]at h;split at h
  ·rename_i cs m e;simp only[mjE]at h;obtain⟨l,hl,rfl⟩:=h;refine⟨l,rfl,?_⟩;unfold cut at hl;simp only[cond_eq_ite]at hl;split at hl
   ·rename_i hh;cases hl;exact nqE hh
   ·cases hl
  ·cases h
 ·cases h
theorem opsC_inv{L:Nat}{S S':Slots}{σ σ':St}{fl:Fl}{i:Int}{a:Option Addr}{n c:Nat}(h71:S.at 71= .slice a n c)(h73:S.at 73= .int .i64 i)(h:cS Tryz.prog call L (.region 52 opsC false) S σ=some (fl,S',σ')):
    fl= .normal∧0≤i∧i<n∧∃(id off:Nat) (l z z':List Value),a=some ⟨id,off,none⟩∧eB Tryz.prog (up σ 4) 38 (.pointer (some ⟨id,off+i.toNat*11,none⟩))=some (.agg l.toArray)∧l.length=11∧l.all one=true∧
      S'.at 76= .agg l.toArray∧(∀k,k<75→S'.at k=S.at k)∧σ'=((up σ 4).put (σ.next+2) (.cells z boxMeta)).put (σ.next+2) (.cells z' boxMeta):=by
 obtain⟨rfl,g⟩:=bN h;clear h;obtain⟨v1,σ1,h1,g⟩:=aM rfl g;obtain⟨v2,σ2,h2,g⟩:=aM rfl g;obtain⟨v3,σ3,h3,g⟩:=aM rfl g;obtain⟨v4,σ4,h4,g⟩:=aM rfl g;obtain⟨rfl,rfl⟩:=eJ g;clear g;obtain⟨k1,rfl⟩:=aop_idx h1;obtain⟨k2,rfl⟩:=mR h2;obtain⟨z,rfl,rfl⟩:=yA h3;obtain⟨k4,rfl⟩:=mQ h4;clear h1 h2 h3 h4;simp only[mkO,ev,at_store,cH,Nat.reduceEqDiff,if_false,if_true,Nat.zero_add,Nat.reduceAdd]at k1 k2 k4;rw[h71,h73]at k1;have e1:0≤i∧i<n∧∃id off,a=some ⟨id,off,none⟩∧v1= .pointer (some ⟨id,off+i.toNat*11,none⟩):=by
  unfold dR at k1;rw[Tryz.underlying30]at k1;have e2:iM Tryz.prog 38=some 11:=by kernel_rfl
  simp only[e2]at k1;split at k1
  ·rename_i id off len c' e;cases e;simp only[cond_eq_ite]at k1;split at k1
   ·rename_i hr;cases k1;simp only[bC,bjE,djE]at hr;exact⟨hr.1,hr.2,id,off,rfl,rfl⟩
   ·cases k1
  ·cases k1
 obtain⟨b1,b2,id,off,rfl,rfl⟩:=e1;obtain⟨l,rfl,hl⟩:=aBW k2;obtain⟨s1,s2,z',s3⟩:=xV (n:=11) (by kernel_rfl) k4
 refine⟨rfl,b1,b2,id,off,l,z,z',rfl,k2,hl,by simpa [Value.cells]using s2,?_,fun k hk=>?_,s3⟩
 ·simp only[mkO,at_store,cH,Nat.reduceEqDiff,if_false,if_true]
 ·simp only[mkO,at_store,cH];rw[if_neg (by omega),if_neg (by omega),if_neg (by omega)]
theorem opsD_inv{L:Nat}{S S':Slots}{σ σ':St}{fl:Fl}(h:cS Tryz.prog call L (.region 53 opsD false) S σ=some (fl,S',σ')):
    fl= .normal∧∃(vs:Array Value) (σ2:St) (s l bb:Value) (z z':List Value),call 128 #[S.at 76,S.at 70] (up σ 6)=some (.tuple vs,σ2)∧vs[0]?=some s∧vs[1]?=some l∧vs[2]?=some bb∧l.cells.size=11∧l.cells.toList.all one=true∧
      S'.at 78=s∧S'.at 79=l∧S'.at 80=bb∧(∀k,k<77→S'.at k=S.at k)∧σ'=(σ2.put (σ.next+4) (.cells z boxMeta)).put (σ.next+4) (.cells z' boxMeta):=by
 obtain⟨rfl,g⟩:=bN h;clear h;obtain⟨v1,σ1,h1,g⟩:=aM rfl g;obtain⟨v2,σ2,h2,g⟩:=aM rfl g;obtain⟨v3,σ3,h3,g⟩:=aM rfl g;obtain⟨v4,σ4,h4,g⟩:=aM rfl g;obtain⟨v5,σ5,h5,g⟩:=aM rfl g;obtain⟨v6,σ6,h6,g⟩:=aM rfl g;obtain⟨rfl,rfl⟩:=eJ g;clear g;have k1:=aCw h1;obtain⟨⟨vs,k2,k2'⟩,rfl⟩:=aAS h2;obtain⟨⟨vs3,k3,k3'⟩,rfl⟩:=aAS h3;obtain⟨⟨vs4,k4,k4'⟩,rfl⟩:=aAS h4;obtain⟨z,rfl,rfl⟩:=yA h5;obtain⟨k6,rfl⟩:=mQ h6;clear h1 h2 h3 h4 h5 h6;simp only[mkO,ev,at_store,cH,Nat.reduceEqDiff,if_false,if_true,Nat.zero_add,Nat.reduceAdd]at k2 k3 k4 k6;subst k2;cases k3;cases k4;obtain⟨s1,s2,z',s3⟩:=xV (n:=11) (by kernel_rfl) k6
 refine⟨rfl,vs,_,v2,v3,v4,z,z',(by simp only[List.map_toArray,mpC,List.map_nil,ev]at k1;exact k1),k2',k3',k4',s1,s2,?_,?_,?_,fun k hk=>?_,s3⟩
 ·simp only[mkO,at_store,cH,Nat.reduceEqDiff,if_false,if_true]
 ·simp only[mkO,at_store,cH,Nat.reduceEqDiff,if_false,if_true]
 ·simp only[mkO,at_store,cH,Nat.reduceEqDiff,if_false,if_true]
 ·simp only[mkO,at_store,cH];rw[if_neg (by omega),if_neg (by omega),if_neg (by omega),if_neg (by omega),if_neg (by omega)]
noncomputable def andV(x y:Value):Option Value:=dL Tryz.prog (fun o=>match o with| .tmp 0=>x|_=>y) (mkO none (.binOp .and 79 (.tmp 0) (.tmp 1) 79) 79)
theorem aDz{t:TypeId}(h:aop P call b i (mkO d (.alloc t) ty) S σ=some (v,σ1)): ∃z,v= .pointer (some ⟨b+i,0,none⟩)∧σ1=σ.put (b+i) (.cells z boxMeta)∧∀(ρ:Operand→Value) (o:Oper),o.op= .alloc t→cQ P ρ o (b+i)=some (v,.cells z boxMeta):=by
 simp only[aop,mkO,aK,cQ,mjE,Prod.exists]at h;obtain⟨a,ob,h1,h2⟩:=h;cases h2;split at h1
 ·rename_i zv hz;simp only[cond_eq_ite]at h1;split at h1
  ·rename_i hh;cases h1;refine⟨_,rfl,rfl,fun ρ o ho=>?_⟩
   unfold cQ;rw[ho];simp only[hz,cond_eq_ite];rw[if_pos hh]
  ·cases h1
 ·cases h1
theorem aGp{t:TypeId}{ps:Array (Nat×Operand)}(h:aop P call b i (mkO d (.build t ps) ty) S σ=some (v,σ1)):qY P t (ps.map fun(i,x)=>(i,ev S x))=some v∧σ1=σ:=by
 simp only[aop,mkO,aK,gQ,dL,mjE,pjE]at h;obtain⟨y,h1,rfl,rfl⟩:=h;split at h1
 ·rename_i v' e;cases h1;exact⟨e,rfl⟩
 ·cases h1
theorem aop_fa{t:TypeId}{x:Operand}{f:Nat}(h:aop P call b i (mkO d (.fieldAddr t x f) ty) S σ=some (v,σ1)):cL P t (ev S x) f=some v∧σ1=σ:=by
 simp only[aop,mkO,aK,gQ,dL,mjE,pjE]at h;obtain⟨y,h1,rfl,rfl⟩:=h;split at h1
 ·rename_i v' e;cases h1;exact⟨e,rfl⟩
 ·cases h1
structure RdE(b:Nat)(σ2 σ':St)(s l g vo:Value)(fv:Value)(z:List Value)(σ4:St)(x s2 y:Value):Prop where
 bld:qY Tryz.prog 137 #[(0,s),(1,l),(2,g)]=some fv
 al: ∀(ρ:Operand→Value) (o:Oper),o.op= .alloc 137→cQ Tryz.prog ρ o b=some (.pointer (some ⟨b,0,none⟩),.cells z boxMeta)
 st:eE Tryz.prog (σ2.put b (.cells z boxMeta)) 137 (.pointer (some ⟨b,0,none⟩)) fv=some σ4
 ld:eB Tryz.prog σ4 79 vo=some x
 ls:eB Tryz.prog σ4 79 (.pointer (some ⟨b,0,none⟩))=some s2
 an:andV x s2=some y
 so:eE Tryz.prog σ4 79 vo y=some σ'
theorem fa0{b:Nat}{v:Value}(h:cL Tryz.prog 137 (.pointer (some ⟨b,0,none⟩)) 0=some v):v= .pointer (some ⟨b,0,none⟩):=by
 have e:cL Tryz.prog 137 (.pointer (some ⟨b,0,none⟩)) 0=some (.pointer (some ⟨b,0,none⟩)):=by
  unfold cL;rw[Tryz.underlying137];have e2:iM Tryz.prog 79=some 1:=by kernel_rfl
  simp[e2];rfl
 rw[e]at h;exact(Option.some.inj h).symm
theorem opsE_inv{L:Nat}{S S':Slots}{σ σ':St}{fl:Fl}(h:cS Tryz.prog call L (.region 54 opsE false) S σ=some (fl,S',σ')):
    fl= .normal∧∃(g:Value) (σ2:St) (fv:Value) (z:List Value) (σ4:St) (x s2 y:Value),call 39 #[S.at 76] (up σ 9)=some (g,σ2)∧
      RdE (σ.next+2) σ2 σ' (S.at 78) (S.at 79) g (S.at 5) fv z σ4 x s2 y∧(∀k,k<81→S'.at k=S.at k):=by
 obtain⟨rfl,g⟩:=bN h;clear h;obtain⟨v1,σ1,h1,g⟩:=aM rfl g;obtain⟨v2,σ2,h2,g⟩:=aM rfl g;obtain⟨v3,σ3,h3,g⟩:=aM rfl g;obtain⟨v4,σ4,h4,g⟩:=aM rfl g;obtain⟨v5,σ5,h5,g⟩:=aM rfl g;obtain⟨v6,σ6,h6,g⟩:=aM rfl g;obtain⟨v7,σ7,h7,g⟩:=aM rfl g;obtain⟨v8,σ8,h8,g⟩:=aM rfl g;obtain⟨v9,σ9,h9,g⟩:=aM rfl g;obtain⟨rfl,rfl⟩:=eJ g;clear g;have k1:=aCw h1;obtain⟨k2,rfl⟩:=aGp h2;obtain⟨z,rfl,rfl,k3⟩:=aDz h3;obtain⟨k4,rfl⟩:=mQ h4;obtain⟨k5,rfl⟩:=mR h5;obtain⟨k6,rfl⟩:=aop_fa h6;obtain⟨k7,rfl⟩:=mR h7;obtain⟨k8,rfl⟩:=aAT h8;obtain⟨k9,rfl⟩:=mQ h9;clear h1 h2 h3 h4 h5 h6 h7 h8 h9;simp only[mkO,ev,at_store,cH,Nat.reduceEqDiff,if_false,if_true,Nat.zero_add,Nat.reduceAdd,List.map_toArray,mpC,List.map_nil]at k2 k3 k4 k5 k6 k7 k9;have e6:=fa0 k6;subst e6;refine⟨rfl,v1,_,v2,z,_,v5,v7,v8,(by simp only[List.map_toArray,mpC,List.map_nil,ev]at k1;exact k1),⟨k2,k3,k4,k5,k7,?_,k9⟩,fun k hk=>?_⟩
 ·simp only[dL,mkO,ev,at_store,cH,Nat.reduceEqDiff,if_false,if_true]at k8;exact k8
 ·simp only[mkO,at_store,cH];rw[if_neg (by omega),if_neg (by omega),if_neg (by omega),if_neg (by omega),if_neg (by omega),if_neg (by omega),if_neg (by omega)]
theorem cdZ_inv{L:Nat}{S S':Slots}{σ σ':St}{fl:Fl}(h:cS Tryz.prog call L cdZ S σ=some (fl,S',σ')):fl= .ret∧σ'=up σ 2∧∃x,eB Tryz.prog σ' 79 (S.at 5)=some x∧S'.at 4=x:=by
 unfold cdZ at h;rcases eH h with⟨S1,σ1,e1,e2⟩|⟨hne,e1⟩
 rotate_left
 ·exact absurd (bN e1).1 hne
 simp only[cS,ojE,pjE]at e2;obtain⟨rfl,rfl,rfl⟩:=e2;obtain⟨-,g⟩:=bN e1;obtain⟨v1,σ2,h1,g⟩:=aM rfl g;obtain⟨v2,σ3,h2,g⟩:=aM rfl g;obtain⟨rfl,rfl⟩:=eJ g;obtain⟨k1,rfl⟩:=mR h1;obtain⟨rfl,rfl⟩:=pR h2;refine⟨rfl,rfl,v1,k1,?_⟩;simp only[mkO,ev,at_store,if_true]
end
end Go.Rf
namespace Go.TV
open Go.AI Go.PI Go.Proofs
set_option maxRecDepth 20000
abbrev wA(k:Nat)(t:Ty):Nat×Sh×Rts:=(k,.val t,[])
abbrev wB(k:Nat)(t:Ty):Nat×Sh×Rts:=(k,.val t,[(0,true)])
abbrev wC(k j:Nat):Nat×Sh×Rts:=(k,.lc j 0 [],[])
abbrev wD(x:SkT):SkT:= .s .n x
abbrev wE(l:List (Nat×Nat×List Nat)):SkT:= .r [] [] l
def aDt:Cut:=⟨[wB 5 (zS 3),wC 6 106,wA 7 i6,wA 8 i6],[wA 106 (.rc 3)]⟩
def ct0x2:Cut:=⟨[wA 41 .bool,wA 9 i6,wA 8 i6,wB 5 (zS 3),wC 6 106],[wA 106 (.rc 3)]⟩
def ii0:Ins:=⟨⟨3,[(.val (.sl (.int .u8)),false)],[],[],[.bool],false⟩,(wD (.s (.s (wE [(0,1,[])]) .n) (wD (.s (.r [1] [] [(0,2,[])]) (wD (.s (.r [2,3] [] [(2,3,[118])]) (.s (.r [1,2] [] [(2,4,[118])]) (wD (.s (wD (.b (.l aDt (wD (.s (.b (.s (.r [4] [] [(4,5,[])]) (.s (wD (.d ct0x2 .n)) .n))) .n))))) .n)))))))))⟩
def ct1x1:Cut:=⟨[wA 0 .bool],[]⟩
def ii1:Ins:=⟨⟨6,[],[],[],[.bool],false⟩,(wD (.s (wE [(1,6,[]),(0,6,[])]) (.s (.r [2,6,7,13,18,19] [] [(24,5,[]),(19,5,[]),(18,7,[]),(13,7,[]),(7,5,[]),(6,7,[]),(2,7,[])]) (.d ct1x1 .n))))⟩
def aFW:Cut:=⟨[wB 4 (.sl (zS 4)),wA 5 i6,wA 0 (.int .u32),wB 3 (zS 15)],[]⟩
def aDs:Cut:=⟨[wA 0 (.int .u32),wB 6 (zS 16),wA 7 i6,wB 3 (zS 15)],[]⟩
def ct2x3:Cut:=⟨[wA 7 i6,wA 0 (.int .u32),wB 6 (zS 16),wB 3 (zS 15)],[]⟩
def ii2:Ins:=⟨⟨7,[(.val (.int .u32),false)],[],[],[zS 15],true⟩,(.s (.r [0] [] []) (.s (.r [1] [] [(0,8,[])]) (.s (.r [1] [] [(0,9,[])]) (.s (wD (.b (.l aFW (wD (.s (.b (.r [0,15] [] [])) .n))))) (.s (.r [1] [] [(0,10,[])]) (.s (wD (.b (.l aDs (wD (.s (.b (wD (.s (wE [(5,11,[])]) (.s (.s (.r [13] [] []) .n) (.d ⟨[],[]⟩ (.r [0,4] [] [])))))) (.d ct2x3 .n)))))) (.s (.r [0,1] [] []) .n)))))))⟩
def aDr:Cut:=⟨[wA 10 i6,wA 1 (zS 15),wA 3 i6,wC 0 0,wA 11 i6,wB 9 (zS 3)],[wA 0 (.rc 0)]⟩
def ct3x2:Cut:=⟨[wB 9 (zS 3),wC 12 112,wA 11 i6,wA 10 i6,wA 1 (zS 15),wA 3 i6,wC 0 0],[wA 0 (.rc 0),wA 112 (.rc 3)]⟩
def ii3:Ins:=⟨⟨8,[(.lc 0 0 [],false),(.val (zS 15),false),(.val i6,false),(.val i6,false)],[(.val (.rc 0),[])],[[]],[zS 3],true⟩,(.s (.r [0] [] []) (.s (.r [0] [] []) (.s (wE [(3,12,[0])]) (.s (wD (.b (.l aDr (wD (.s (.b (.s (.r [3] [] [(3,4,[0])]) (.s (.s (wE [(1,12,[0])]) (.b (wD (.c (.r [3] [] [(3,7,[]),(1,13,[0])]) (wD (.c (.r [6] [] [(6,7,[]),(4,15,[]),(3,14,[0]),(1,13,[0])]) (wD (.c (.r [4] [] [(4,7,[]),(2,13,[0]),(0,16,[])]) .n)))))))) (.d ct3x2 (.r [0,4] [] []))))) .n))))) (.s (.r [0,1] [] []) .n)))))⟩
def ct4x1:Cut:=⟨[wA 14 .bool,wA 13 i6,wC 0 0,wA 1 (zS 15),wA 2 i6,wC 7 107,wC 6 106],[wA 0 (.rc 0),wA 107 (.rc 3),(106,.val (.rc 3),[(9,true),(10,true)])]⟩
def ii4:Ins:=⟨⟨9,[(.lc 0 0 [],false),(.val (zS 15),false),(.val i6,false)],[(.val (.rc 0),[])],[[]],[.rc 3],false⟩,(wD (.s (.r [3] [] [(3,17,[0])]) (.s (.s (wE [(1,12,[0])]) (.b (wD (.d ct4x1 (.c (.s (.r [2] [] [(2,7,[])]) .n) (wD (.c (.s (.r [2,5,7,9] [] [(9,7,[]),(7,7,[]),(5,17,[0])]) .n) (wD (.c (.s (.r [3,5] [] [(5,7,[]),(3,7,[]),(1,13,[0])]) .n) (wD (.c (.s (.r [2,5,7] [] [(7,7,[]),(5,17,[0])]) .n) (wD (.c (.s (.r [3,6,8,10] [] [(10,7,[]),(8,7,[]),(6,17,[0]),(1,13,[0])]) .n) .n))))))))))))) .n)))⟩
def ct5x1:Cut:=⟨[wA 0 (zS 3),wC 3 103],[wA 103 (.rc 3)]⟩
def ct5x2:Cut:=⟨[wA 69 .bool,wA 0 (zS 3),wC 3 103],[wA 103 (.rc 3)]⟩
def ct5x3:Cut:=⟨[wA 0 (zS 3),wC 3 103],[wA 103 (.rc 3)]⟩
def ct5x4:Cut:=⟨[wA 78 .bool,wA 0 (zS 3),wC 3 103],[wA 103 (.rc 3)]⟩
def ct5x5:Cut:=⟨[wA 0 (zS 3),wC 3 103],[wA 103 (.rc 3)]⟩
def ii5:Ins:=⟨⟨10,[(.val (zS 3),false),(.val (.rc 3),false)],[],[],[i6],false⟩,(wD (.s (wD (.c (.s (wE [(4,19,[]),(2,18,[])]) .n) .n)) (.s (.s (wE [(1,20,[])]) (.c (.s (.r [5] [] [(5,5,[])]) .n) .n)) (.d ct5x1 (.s (.s (.r [2] [] [(2,21,[])]) .n) (.s (.s (.r [3] [] [(3,21,[]),(2,22,[])]) .n) (.s (.s (wE [(1,20,[])]) (.c (wD (.s (.s (wE [(2,23,[])]) (.s (.r [2] [] [(2,21,[])]) (.c .n (.s (.r [3] [] [(3,21,[]),(2,22,[])]) .n)))) (.s (.s (wE [(2,24,[])]) .n) (wD (.d ct5x2 .n))))) .n)) (.d ct5x3 (.s (wD (.d ct5x4 (.c (.s (wE [(2,25,[])]) (wD (.c (.s (.r [5] [] [(5,26,[])]) .n) .n))) .n))) (.d ct5x5 (.s (.r [0,2] [] [(2,26,[])]) .n)))))))))))⟩
def ii6:Ins:=⟨⟨22,[(.val .str,false)],[],[],[.rc 3],false⟩,(wD (.s (wE [(2,27,[]),(1,11,[])]) .n))⟩
def ii7:Ins:=⟨⟨23,[(.val .str,false),(.val (zS 3),true)],[],[],[.rc 3],false⟩,(wD (.s (.r [1,2] [] [(2,28,[])]) .n))⟩
def aFE:Cut:=⟨[wA 2 (zS 2),wA 3 i6,wB 1 (zS 15)],[]⟩
def ii8:Ins:=⟨⟨24,[],[],[],[zS 15],true⟩,(.s (.r [0] [] []) (.s (.r [0] [] []) (.s (.r [1] [] [(0,29,[])]) (.s (wD (.b (.l aFE (wD (.s (.b (.r [0,1,6,9] [] [(6,30,[])])) .n))))) (.s (.r [0,7] [] [(2,32,[]),(1,31,[])]) .n)))))⟩
def ii9:Ins:=⟨⟨25,[],[],[],[.sl (zS 4)],true⟩,(.s (.r [0] [] []) (.s (wE [(2,6,[]),(1,6,[]),(0,6,[])]) (.s (.r [2,5] [] [(5,7,[]),(2,7,[])]) (.s (.r [2] [] [(2,7,[])]) (.s (wE [(2,33,[])]) (.s (.r [5,6,12,15,17,18,24,28,30,34,36,38,41,42,48,51,54,56,59,60,66,69,72,74,77,78,84,88,90,93,94,99,102,105,106,111,117,121,124,126,130,134,138,141,145,147,149,153,155,156,164,169,171,172,175] [] [(172,34,[]),(171,7,[]),(169,35,[]),(167,36,[]),(164,35,[]),(162,36,[]),(156,34,[]),(155,7,[]),(153,7,[]),(151,36,[]),(149,7,[]),(147,35,[]),(145,7,[]),(143,38,[]),(141,7,[]),(138,7,[]),(135,37,[]),(134,7,[]),(130,7,[]),(126,35,[]),(124,35,[]),(121,7,[]),(117,7,[]),(111,34,[]),(106,34,[]),(105,7,[]),(103,36,[]),(102,35,[]),(99,7,[]),(94,34,[]),(93,7,[]),(91,36,[]),(90,7,[]),(88,35,[]),(84,7,[]),(78,34,[]),(77,7,[]),(75,16,[]),(74,7,[]),(72,35,[]),(69,35,[]),(66,7,[]),(60,34,[]),(59,7,[]),(57,36,[]),(56,7,[]),(54,35,[]),(51,35,[]),(48,7,[]),(42,34,[]),(41,7,[]),(39,36,[]),(38,7,[]),(36,35,[]),(34,7,[]),(30,7,[]),(28,7,[]),(24,7,[]),(18,34,[]),(17,7,[]),(15,7,[]),(12,7,[]),(6,34,[]),(5,7,[])]) .n))))))⟩
def ii10:Ins:=⟨⟨26,[],[],[],[zS 16],true⟩,(.s (.r [0] [] []) (.s (wE [(3,6,[]),(2,6,[]),(1,6,[]),(0,6,[])]) (.s (wE [(2,39,[])]) (.s (wE [(0,11,[])]) (.s (.r [3,5,8,13,15,18,22,26,29,31,36,41,43,45,50,54,56,62,64,69,71,73,77,80,83,85,87,91,93,97,100,102,106,109,111,115,118,120,124,127,130,132,135,137,141,143,152,155,158,160,162,167,170,174,177,180,182,186,188,191,193,196,198,200,205,209,214,216,221,223,226] [] [(223,7,[]),(221,35,[]),(218,16,[]),(216,7,[]),(214,7,[]),(210,38,[]),(209,7,[]),(205,7,[]),(200,7,[]),(198,7,[]),(196,7,[]),(193,7,[]),(191,7,[]),(188,7,[]),(186,7,[]),(182,7,[]),(180,7,[]),(177,7,[]),(174,7,[]),(170,41,[]),(167,7,[]),(162,7,[]),(160,7,[]),(158,7,[]),(155,7,[]),(152,41,[]),(146,40,[]),(143,7,[]),(141,7,[]),(137,7,[]),(135,7,[]),(132,7,[]),(130,7,[]),(127,7,[]),(124,7,[]),(120,7,[]),(118,7,[]),(115,7,[]),(111,7,[]),(109,7,[]),(106,7,[]),(102,7,[]),(100,7,[]),(98,16,[]),(97,7,[]),(93,7,[]),(91,7,[]),(87,7,[]),(85,7,[]),(83,7,[]),(80,7,[]),(77,7,[]),(73,7,[]),(71,7,[]),(69,7,[]),(64,7,[]),(62,7,[]),(56,7,[]),(54,7,[]),(50,7,[]),(45,7,[]),(43,7,[]),(41,7,[]),(36,7,[]),(31,7,[]),(29,7,[]),(26,7,[]),(24,36,[]),(22,7,[]),(18,7,[]),(15,7,[]),(13,7,[]),(8,7,[]),(5,7,[]),(3,7,[])]) .n)))))⟩
def ii11:Ins:=⟨⟨27,[(.val .str,false)],[],[],[.rc 1],false⟩,.n⟩
def aGb:Cut:=⟨[wA 18 .bool,wC 0 0,wA 1 i6],[wA 0 (.rc 0)]⟩
def ii12:Ins:=⟨⟨29,[(.lc 0 0 [],false),(.val i6,false)],[(.val (.rc 0),[])],[[]],[i6],false⟩,(wD (.s (wD (.d aGb .n)) .n))⟩
def ii13:Ins:=⟨⟨30,[(.lc 0 0 [],false)],[(.val (.rc 0),[])],[[]],[.rc 3],false⟩,(wD (.s (wE [(4,6,[]),(1,12,[0])]) .n))⟩
def aGa:Cut:=⟨[wA 17 .bool,wA 5 i6,wC 0 0,wA 1 i6,wC 4 104],[wA 0 (.rc 0),(104,.val (.rc 2),[(6,true)])]⟩
def aF9:Cut:=⟨[wA 5 i6,wC 0 0,wA 1 i6,wC 4 104],[wA 0 (.rc 0),(104,.val (.rc 2),[(6,true)])]⟩
def aF8:Cut:=⟨[wA 27 .bool,wA 20 i6,wC 0 0,wA 1 i6,wC 4 104],[wA 0 (.rc 0),(104,.val (.rc 2),[(6,true)])]⟩
def aF7:Cut:=⟨[wA 60 .bool,wC 0 0,wA 1 i6,wC 4 104],[wA 0 (.rc 0),(104,.val (.rc 2),[(6,true)])]⟩
def xO:Cut:=⟨[wA 7 i6,wC 0 0,wA 1 i6,wA 8 i6,wB 6 (zS 2),wC 4 104],[wA 0 (.rc 0),(104,.val (.rc 2),[(6,true)])]⟩
def uG:Ins:=⟨⟨32,[(.lc 0 0 [],false),(.val i6,false)],[(.val (.rc 0),[])],[[]],[.rc 2],false⟩,(wD (.s (wE [(1,12,[0])]) (.s (wD (.d aGa .n)) (.d aF9 (.s (wD (.b (wD (.c (.s (wE [(0,42,[])]) .n) (wD (.c (.s (wE [(0,43,[])]) .n) (wD (.d aF8 (.c (.s (wE [(3,44,[]),(1,12,[0])]) .n) (wD (.c (.s (wE [(0,45,[])]) .n) (wD (.c (.s (wE [(0,45,[])]) .n) (wD (.c (.s (wE [(5,46,[]),(4,11,[]),(1,12,[0])]) .n) (wD (.c (.s (wE [(3,47,[]),(1,12,[0])]) .n) (wD (.c (.s (wE [(0,44,[])]) .n) (wD (.c (.s (wE [(0,44,[])]) .n) (wD (.d aF7 (.c (.s (.r [0] [] []) (.s (wE [(1,12,[0])]) (.s (wD (.b (.l xO (wD (.s (.b (.r [0,7] [] [(4,14,[0])])) .n))))) (.s (.r [0,1] [] [(1,49,[])]) .n)))) .n)))))))))))))))))))))))) (.s (wE [(3,14,[0])]) (.s (wE [(5,48,[]),(4,14,[0])]) .n)))))))⟩
def ii15:Ins:=⟨⟨31,[(.val (.rc 2),false)],[],[],[.rc 3],false⟩,.n⟩
def ii16:Ins:=⟨⟨33,[(.val i6,false)],[],[],[.rc 3],false⟩,(wD (.s (wE [(2,15,[]),(1,44,[])]) .n))⟩
def aF6:Cut:=⟨[wA 22 .bool,wA 7 i6,wC 0 0,wA 1 (zS 15),wA 2 i6,wC 6 106],[wA 0 (.rc 0),(106,.val (.rc 3),[(9,true),(10,true)])]⟩
def aF5:Cut:=⟨[wA 7 i6,wC 0 0,wA 1 (zS 15),wA 2 i6,wC 6 106],[wA 0 (.rc 0),(106,.val (.rc 3),[(9,true),(10,true)])]⟩
def aF4:Cut:=⟨[wC 0 0,wA 1 (zS 15),wA 2 i6,wC 8 108,wC 6 106],[wA 0 (.rc 0),wA 108 (.rc 1),(106,.val (.rc 3),[(9,true),(10,true)])]⟩
def xN:Cut:=⟨[wA 11 i6,wC 0 0,wA 1 (zS 15),wA 2 i6,wA 14 i6,wC 8 108,wB 13 (zS 3),wC 6 106],[wA 0 (.rc 0),wA 108 (.rc 1),(106,.val (.rc 3),[(9,true),(10,true)])]⟩
def zC:Ins:=⟨⟨34,[(.lc 0 0 [],false),(.val (zS 15),false),(.val i6,false)],[(.val (.rc 0),[])],[[]],[.rc 3],false⟩,(wD (.s (wE [(1,12,[0])]) (.s (wD (.d aF6 .n)) (.d aF5 (.s (.b (wD (.c (.s (wE [(1,13,[0])]) .n) (wD (.c (.s (wE [(2,15,[]),(1,14,[0])]) .n) .n))))) (wD (.s (.s (.r [2,3] [] [(1,51,[]),(0,50,[])]) (.s (wE [(1,12,[0])]) (.c (wE [(7,52,[]),(4,12,[0])]) (wE [(7,11,[]),(4,12,[0])])))) (.d aF4 (.s (.r [2] [] [(2,53,[])]) (.s (.r [0] [] []) (.s (wD (.b (.l xN (wD (.s (.b (.r [0,5,8] [] [(5,17,[0])])) .n))))) (.s (.r [1,2] [] [(2,41,[])]) .n))))))))))))⟩
def aF3:Cut:=⟨[wA 2 .bool],[]⟩
def ii18:Ins:=⟨⟨36,[(.val (.rc 2),false)],[],[],[.bool],false⟩,(wD (wD (.d aF3 .n)))⟩
def ii19:Ins:=⟨⟨35,[(.val .bool,false)],[],[],[i6],false⟩,.n⟩
def aF2:Cut:=⟨[wA 6 .bool],[]⟩
def ii20:Ins:=⟨⟨37,[(.val (.rc 3),false),(.val .str,false),(.val i6,false)],[],[],[.bool],false⟩,(wD (wD (.d aF2 .n)))⟩
def xM:Cut:=⟨[wA 8 i6,wA 7 (zS 3),wC 3 103,wA 9 i6],[wA 103 (.rc 3)]⟩
def ii21:Ins:=⟨⟨38,[(.val (zS 3),false),(.val (.rc 3),false)],[],[],[.bool],false⟩,(wD (.s (wD (.b (.l xM (wD (wD (.s (.b (wD (.s (wE [(2,24,[])]) .n))) .n)))))) .n))⟩
def ii22:Ins:=⟨⟨39,[(.val (.rc 3),false)],[],[],[.rc 3],false⟩,(wD (.s (.s (wE [(1,54,[])]) .n) (.s (.r [2] [] [(2,55,[])]) .n)))⟩
def ii23:Ins:=⟨⟨40,[(.val (.rc 3),false),(.val (.rc 3),false)],[],[],[.rc 3],false⟩,(wD (.s (.r [3] [] [(3,55,[])]) .n))⟩
def aF1:Cut:=⟨[wA 4 .bool],[]⟩
def ii24:Ins:=⟨⟨41,[(.val (.rc 3),false),(.val (.rc 3),false)],[],[],[.bool],false⟩,(wD (.s (.r [24] [] [(24,57,[]),(17,56,[])]) (.d aF1 .n)))⟩
def ii25:Ins:=⟨⟨42,[(.val (.rc 1),false)],[],[],[i6,.bool],false⟩,(wD (wD (.s (wE [(1,58,[])]) .n)))⟩
def aF0:Cut:=⟨[wC 3 103,wA 0 (zS 3),wC 5 105],[wA 103 (.rc 3),wA 105 i6]⟩
def aFZ:Cut:=⟨[wA 18 .bool,wC 3 103,wA 0 (zS 3),wC 5 105],[wA 103 (.rc 3),wA 105 i6]⟩
def sR:Cut:=⟨[wA 72 i6,wA 71 (zS 3),wA 70 (.rc 3),wA 73 i6,wC 5 105],[wA 105 i6]⟩
def aFY:Cut:=⟨[wA 43 .bool,wA 6 i6,wC 3 103,wA 0 (zS 3),wC 5 105],[wA 103 (.rc 3),wA 105 i6]⟩
def aFX:Cut:=⟨[wA 73 i6,wA 72 i6,wA 71 (zS 3),wA 70 (.rc 3),wC 5 105],[wA 105 i6]⟩
def xJ:Cut:=⟨[wA 47 i6,wA 48 i6,(8,.rw 145,[]),wC 3 103,wA 0 (zS 3),wC 5 105],[(145,.row i6,[]),wA 103 (.rc 3),wA 105 i6]⟩
def rC:Ins:=⟨⟨43,[(.val (zS 3),false),(.val (.rc 3),false)],[],[],[i6],false⟩,(wD (wD (.s (.b (wD (.c (wE [(2,59,[])]) (.s (wE [(8,20,[])]) (.d aFZ (.c (.s (wE [(2,60,[])]) (wD (.d aFY (.c (.s (.r [2] [] []) (.s (wD (.b (.l xJ .n))) (.r [2,3] [(3,57)] [(3,62,[])]))) .n)))) .n)))))) (.d aF0 (.s (wD (.b (.l sR (wD (wD (wD (.s (wE [(0,61,[])]) (.s (.c (wE [(0,22,[])]) .n) (.d aFX .n))))))))) .n)))))⟩
def ii27:Ins:=⟨⟨53,[(.val (.rc 1),false)],[],[],[.rc 3],false⟩,.n⟩
def ii28:Ins:=⟨⟨54,[(.val .str,false),(.val (zS 3),true)],[],[],[.rc 3],false⟩,(wD (.s (.r [2,3] [] [(3,41,[]),(1,31,[])]) .n))⟩
def ii29:Ins:=⟨⟨55,[],[],[],[zS 2],false⟩,(.s (.r [0] [] []) (.s (.r [2,7] [] [(2,65,[]),(1,64,[]),(0,63,[])]) (.s (.r [0,1] [] []) .n)))⟩
def ct30x1:Cut:=⟨[wA 8 (zS 2),wA 10 i6,wA 5 (zS 2),wA 0 (zS 15),wC 7 107,wC 4 104],[(107,.val (.rc 4),[(2,true),(24,true),(25,true),(35,true),(36,true)]),(104,.val (.rc 15),[(4,true),(7,true),(18,true),(19,true),(20,true),(21,true),(22,true),(23,true),(26,true),(27,true),(28,true),(29,true)])]⟩
def ct30x2:Cut:=⟨[wA 5 (zS 2),wA 0 (zS 15),wB 11 (zS 4),wC 7 107,wC 4 104],[(107,.val (.rc 4),[(2,true),(35,true),(36,true)]),(104,.val (.rc 15),[(4,true),(7,true),(18,true),(19,true),(20,true),(21,true),(22,true),(23,true),(26,true),(27,true),(28,true),(29,true)])]⟩
def ct30x3:Cut:=⟨[wC 7 107,wC 4 104],[(107,.val (.rc 4),[(2,true)]),(104,.val (.rc 15),[(4,true),(7,true),(18,true),(19,true),(20,true),(21,true),(22,true),(23,true),(26,true),(27,true),(28,true),(29,true)])]⟩
def ii30:Ins:=⟨⟨56,[(.val (zS 15),false),(.val (.rc 2),false)],[],[],[.rc 15],false⟩,(wD (.s (.r [5] [] [(1,66,[])]) (.s (wE [(5,15,[]),(4,43,[])]) (.s (.r [7] [] [(3,66,[])]) (.s (wD (.b (.l ct30x1 (wD (.s (.b (.r [1] [] [])) .n))))) (.s (.r [2] [] []) (.s (.r [8] [] [(8,67,[])]) (.s (.s (.r [1] [] [(1,68,[])]) (wD (.c (.r [3] [] [(3,67,[])]) .n))) (.d ct30x2 (.s (.s (.r [0,1] [] [(1,68,[])]) (wD (.c (.r [0,1,3] [] [(3,67,[])]) .n))) (.d ct30x3 .n)))))))))))⟩
def ii31:Ins:=⟨⟨57,[(.val .str,false)],[],[],[.rc 1],false⟩,.n⟩
def ct32x1:Cut:=⟨[wA 2 (zS 2),wA 3 i6,wB 1 (zS 1)],[]⟩
def ct32x2:Cut:=⟨[wB 6 (.sl .str),wA 7 i6,wB 1 (zS 1)],[]⟩
def ii32:Ins:=⟨⟨58,[],[],[],[zS 1],true⟩,(.s (.r [0] [] []) (.s (.r [1] [] [(0,69,[])]) (.s (.r [1] [] [(0,29,[])]) (.s (wD (.b (.l ct32x1 (wD (.s (.b (.s (.r [8] [] [(4,66,[])]) (.r [0,7] [] []))) .n))))) (.s (.r [1] [] []) (.s (wD (.b (.l ct32x2 (wD (.s (.b (.r [0,8] [] [(5,31,[])])) .n))))) (.s (.r [0,1] [] []) .n)))))))⟩
def ii33:Ins:=⟨⟨59,[(.val (.rc 3),false),(.val (.rc 3),false)],[],[],[.rc 3],false⟩,(wD (.s (.r [5,10,12] [] [(12,7,[]),(10,7,[]),(8,36,[]),(7,37,[]),(5,7,[]),(3,37,[]),(2,36,[])]) .n))⟩
def ct34x1:Cut:=⟨[wB 1 (.sl .str),wA 10 i6,wC 9 109,wC 8 108],[(109,.val (.rc 4),[(2,true)]),(108,.val (.rc 4),[(2,true),(13,true),(14,true),(24,true),(25,true),(35,true),(36,true)])]⟩
def ii34:Ins:=⟨⟨60,[(.val .str,false),(.val (.sl .str),true),(.val (.rc 3),false),(.val (.rc 3),false)],[],[],[.rc 4],false⟩,(wD (.s (wE [(2,37,[]),(1,11,[])]) (.s (wD (.b (.l ct34x1 (wD (.s (.b (.r [1] [] [(6,11,[])])) .n))))) .n)))⟩
def ii35:Ins:=⟨⟨61,[(.val .str,false),(.val (zS 3),true)],[],[],[.rc 3],false⟩,(wD (.s (.r [2,3] [] [(3,41,[]),(1,11,[])]) .n))⟩
def ii36:Ins:=⟨⟨62,[],[],[],[.rc 3],false⟩,(wD (.s (wE [(1,15,[]),(0,42,[])]) .n))⟩
def ii37:Ins:=⟨⟨63,[],[],[],[.rc 3],false⟩,(wD (.s (wE [(1,15,[]),(0,43,[])]) .n))⟩
def ii38:Ins:=⟨⟨64,[(.val (.rc 3),false),(.val (.rc 3),false)],[],[],[.rc 3],false⟩,(wD (.s (.r [4] [] [(4,7,[]),(2,36,[])]) .n))⟩
def ii39:Ins:=⟨⟨65,[(.val (.rc 3),false),(.val (.rc 3),false)],[],[],[.rc 3],false⟩,(wD (.s (.r [3] [] [(3,7,[])]) .n))⟩
def ii40:Ins:=⟨⟨66,[(.val (.rc 1),false)],[],[],[.rc 3],false⟩,(wD (.s (wE [(5,27,[]),(4,31,[]),(3,27,[]),(2,31,[]),(1,27,[]),(0,31,[])]) (.s (.r [4,9] [] [(9,41,[]),(4,41,[])]) (.s (.r [5,7] [] [(7,28,[]),(5,41,[])]) (.s (.r [7,9] [] [(9,28,[]),(7,41,[]),(2,70,[])]) (.s (.r [2,7] [] [(12,70,[]),(11,70,[]),(10,70,[]),(7,41,[]),(2,28,[])]) .n))))))⟩
def ii41:Ins:=⟨⟨67,[(.val (.rc 1),false),(.val (zS 3),true)],[],[],[.rc 3],false⟩,.n⟩
def ii42:Ins:=⟨⟨50,[],[],[],[.rc 2],false⟩,(wD (.s (wE [(1,46,[]),(0,31,[])]) .n))⟩
def ii43:Ins:=⟨⟨72,[],[],[],[.rc 2],false⟩,(wD (.s (wE [(1,46,[]),(0,31,[])]) .n))⟩
def ii44:Ins:=⟨⟨80,[(.val i6,false)],[],[],[.rc 2],false⟩,(wD (.s (wE [(2,45,[]),(1,71,[])]) .n))⟩
def ii45:Ins:=⟨⟨81,[(.val .str,false),(.val .str,false)],[],[],[.rc 2],false⟩,(wD (.s (wE [(2,72,[])]) .n))⟩
def ii46:Ins:=⟨⟨82,[(.val (.rc 1),false)],[],[],[.rc 2],false⟩,.n⟩
def ii47:Ins:=⟨⟨83,[(.val .str,false)],[],[],[.rc 2],false⟩,.n⟩
def ii48:Ins:=⟨⟨85,[(.val (.rc 2),false),(.val (.rc 2),false)],[],[],[.rc 2],false⟩,.n⟩
def ct49x1:Cut:=⟨[wA 0 (zS 2),wA 4 i6,wC 3 103,wC 2 102],[wA 103 (.rc 2),(102,.val (.rc 2),[(6,true)])]⟩
def ii49:Ins:=⟨⟨84,[(.val (zS 2),false)],[],[],[.rc 2],false⟩,(wD (.s (wE [(0,42,[])]) (.s (wD (.b (.l ct49x1 (wD (.s (.b (wE [(5,48,[])])) .n))))) .n)))⟩
def ii50:Ins:=⟨⟨86,[],[],[],[(.sl .str)],true⟩,(.s (.r [0] [] []) (.s (.r [1] [] []) .n))⟩
def ii51:Ins:=⟨⟨87,[],[],[],[(.sl .str)],true⟩,(.s (.r [0] [] []) (.s (.r [1] [] []) .n))⟩
def ii52:Ins:=⟨⟨88,[(.val .str,false)],[],[],[.rc 1],false⟩,.n⟩
def ii53:Ins:=⟨⟨89,[(.val (zS 15),false),(.val (.rc 1),false)],[],[],[i6,.bool],false⟩,(wD (.s (wE [(1,73,[])]) (wD (.s (.r [0,2] [] [(2,74,[])]) .n))))⟩
def aFV:Cut:=⟨[wA 6 .bool],[]⟩
def ii54:Ins:=⟨⟨90,[(.val (.rc 3),false),(.val .str,false),(.val i6,false)],[],[],[.bool],false⟩,(wD (wD (.d aFV .n)))⟩
def ii55:Ins:=⟨⟨91,[(.val .str,false),(.val (zS 3),true)],[],[],[.rc 3],false⟩,(wD (.s (.r [2,3] [] [(3,75,[])]) .n))⟩
def sQ:Cut:=⟨[wC 2 102,wC 3 103],[wA 102 (.rc 2),wA 103 (.rc 2)]⟩
def aFU:Cut:=⟨[wA 48 .bool,wC 2 102,wC 3 103],[wA 102 (.rc 2),wA 103 (.rc 2)]⟩
def xI:Cut:=⟨[wA 55 i6,wA 56 i6,wA 5 i6,wC 2 102,wC 3 103],[wA 102 (.rc 2),wA 103 (.rc 2)]⟩
def aAd:Ins:=⟨⟨92,[(.val (.rc 2),false),(.val (.rc 2),false)],[],[],[.bool],false⟩,(wD (.b (.l sQ (.b (.s (wD (.d aFU .n)) (wD (wD (.s (wD (.b (.l xI (wD (wD (.s (.b (wD (.s (wE [(10,56,[])]) .n))) .n)))))) .n))))))))⟩
def xH:Cut:=⟨[wA 16 i6,wA 15 (zS 3),wA 1 (zS 3),(2,.cl 41 [],[]),wA 17 i6],[]⟩
def ii57:Ins:=⟨⟨93,[(.val (zS 3),false),(.val (zS 3),false),(.cl 41 [],false)],[],[],[.bool],false⟩,(wD (wD (.s (wD (.b (.l xH (wD (wD (.s (.b (wD (wD (.s (wE [(3,24,[])]) .n)))) .n)))))) .n)))⟩
def ii58:Ins:=⟨⟨94,[(.val (.rc 1),false)],[],[],[i6,.bool],false⟩,.n⟩
def aFT:Cut:=⟨[wC 1 101,wA 3 .bool],[wA 101 (.rc 2)]⟩
def sP:Cut:=⟨[wC 1 101],[wA 101 (.rc 2)]⟩
def aFS:Cut:=⟨[wA 22 .bool,wC 1 101,wA 3 .bool],[wA 101 (.rc 2)]⟩
def aFR:Cut:=⟨[wA 57 .bool,wC 1 101],[wA 101 (.rc 2)]⟩
def vC:Ins:=⟨⟨95,[(.val (.rc 2),false)],[],[],[i6],false⟩,(wD (.s (wD (.b (wD (.c (wD (.d aFT (.s (.b (wD (.c .n (wD (.d aFS .n))))) .n))) (wD (.c (.s (.b (.s (wE [(1,18,[])]) .n)) .n) (wD (.c .n (wD (.c (.s (.b (.l sP (.s (wD (.d aFR .n)) .n))) (.s (.s (wE [(1,18,[])]) .n) .n)) .n)))))))))) .n))⟩
def aFQ:Cut:=⟨[wA 11 .bool,wA 8 .str],[]⟩
def aFP:Cut:=⟨[wA 20 .bool],[]⟩
def ii60:Ins:=⟨⟨96,[(.val (.rc 1),false)],[],[],[i6,.bool],false⟩,(wD (wD (.s (wD (.b (wD (.c .n (wD (.d aFQ (.c .n (wD (.d aFP .n))))))))) .n)))⟩
def ii61:Ins:=⟨⟨128,[(.val (.rc 3),false),(.val (.rc 3),false)],[],[],[i6,.rc 3,.bool],false⟩,(wD (.s (.s (wE [(2,24,[])]) (.c (.s (wE [(1,76,[])]) .n) .n)) (.s (.s (wE [(2,77,[])]) (wD (.c (.s (wE [(2,76,[])]) .n) .n))) (.s (.s (wE [(1,20,[])]) .n) (.s (.s (wE [(5,24,[])]) .n) (.s (wE [(5,77,[])]) .n))))))⟩
def ct62x1:Cut:=⟨[wA 6 .bool,wA 5 i6,wC 2 102,wA 1 (.sl i6)],[wA 102 (.rc 1)]⟩
def ct62x2:Cut:=⟨[wA 22 .bool,wA 5 i6,wC 2 102,wA 1 (.sl i6)],[wA 102 (.rc 1)]⟩
def ii62:Ins:=⟨⟨97,[(.val (.rc 1),false),(.val (.sl i6),false)],[],[],[i6],false⟩,(wD (.s (wE [(1,60,[])]) (.s (.s (wE [(1,78,[])]) .n) (.d ct62x1 (.s (wD (.d ct62x2 .n)) (.s (.r [2] [] []) (.s (.r [2,3,4] [] [(4,79,[124])]) .n)))))))⟩
def ii63:Ins:=⟨⟨106,[],[],[],[zS 5],true⟩,(.s (.r [0] [] []) (.s (.r [2] [] []) .n))⟩
def ii64:Ins:=⟨⟨107,[],[],[],[.str],false⟩,.n⟩
def sO:Cut:=⟨[wC 10 129,wB 11 (zS 2),wC 7 107],[wA 129 (.rc 20),wA 107 (.rc 18)]⟩
def aFO:Cut:=⟨[wA 74 .bool,wA 12 i6,wB 11 (zS 2),wC 10 129,wC 7 107],[wA 129 (.rc 20),wA 107 (.rc 18)]⟩
def aDV:Ins:=⟨⟨105,[(.val (zS 5),true),(.val .str,false),(.val .str,false)],[],[],[zS 2,.rc 18],false⟩,(.s (.r [0] [] []) (.s (.r [6] [] [(1,80,[])]) (.s (wD (.c (.s (.r [1] [] []) .n) .n)) (wD (.s (.r [0] [] []) (.s (.b (.l sO (wD (.b (wD (.s (wD (wD (.d aFO (.c (.s (.r [2] [] [(1,81,[])]) .n) .n)))) (.s (wE [(1,82,[129])]) (.s (wD (.c (.s (.r [1] [] []) .n) .n)) (.s (.s (wE [(1,83,[])]) (.c (.s (.r [2] [] [(1,81,[])]) .n) .n)) (.r [0,4] [] [])))))))))) (.s (.r [0,2] [] []) .n)))))))⟩
def ct66x1:Cut:=⟨[wC 1 101,wB 4 (zS 2)],[wA 101 (.rc 2)]⟩
def ii66:Ins:=⟨⟨108,[(.val (.rc 2),false)],[],[],[zS 2,.bool],false⟩,(.s (.r [1] [] []) (.s (.r [0] [] []) (.s (.b (.l ct66x1 (.s (.s (wE [(1,84,[])]) .n) (.b (.s (.r [0,7] [] []) .n))))) (.s (.s (wE [(1,85,[])]) (.c (.s (.r [0] [] []) .n) .n)) (.s (.r [0,1] [] []) .n)))))⟩
def ii67:Ins:=⟨⟨109,[(.val (zS 15),false),(.val (zS 4),false),(.val (.rc 2),false)],[],[],[.rc 3,i6],false⟩,(wD (wD (.s (wE [(2,86,[114])]) (wD (.s (.s (wE [(1,87,[])]) .n) .n)))))⟩
def ct68x1:Cut:=⟨[wA 0 (zS 2),wA 1 .str,wA 6 i6,wC 4 104],[(104,.val (.rc 2),[(6,true)])]⟩
def ct68x2:Cut:=⟨[wA 38 .bool,wA 7 (zS 2),wA 6 i6,wA 0 (zS 2),wA 1 .str,wC 4 104],[(104,.val (.rc 2),[(6,true)])]⟩
def ii68:Ins:=⟨⟨110,[(.val (zS 2),false),(.val .str,false)],[],[],[.rc 2,.bool],false⟩,(wD (.s (wD (.b (.l ct68x1 (wD (.s (.b (.s (.r [8] [] [(4,66,[])]) (.s (wE [(12,31,[])]) (.d ct68x2 .n)))) .n))))) .n))⟩
def ct69x1:Cut:=⟨[wB 1 (zS 22),wA 3 i6,wB 2 (zS 1)],[]⟩
def ii69:Ins:=⟨⟨111,[],[],[],[zS 1],true⟩,(.s (.r [0] [] []) (.s (.r [1] [] [(0,88,[])]) (.s (.r [0] [] []) (.s (wD (.b (.l ct69x1 (wD (.s (.b (.r [0,9] [] [(6,31,[])])) .n))))) (.s (.r [0,1] [] []) .n)))))⟩
def ii70:Ins:=⟨⟨112,[(.val (.rc 3),false),(.val (.rc 3),false)],[],[],[.rc 3],false⟩,(wD (.s (.r [4] [] [(4,28,[]),(2,89,[])]) .n))⟩
def ii71:Ins:=⟨⟨122,[(.val i6,false)],[],[],[.str],false⟩,(wD (.s (wE [(1,90,[])]) .n))⟩
def ii72:Ins:=⟨⟨123,[(.val .str,false),(.val .str,false)],[],[],[.str,.str],false⟩,(wD (.s (.r [6] [] [(1,91,[])]) (wD (.s (.r [6] [] [(1,91,[])]) (.s (.r [8] [] [(3,91,[]),(2,92,[])]) (.s (.r [0,2,6] [] [(2,93,[])]) (.s (.r [0,1,2,6] [] [(2,93,[])]) (.s (.r [3,4,5,6] [] [(6,94,[]),(4,94,[])]) .n))))))))⟩
def xG:Cut:=⟨[wC 1 101,wB 4 (zS 22),wA 5 i6],[wA 101 (.rc 1)]⟩
def ii73:Ins:=⟨⟨118,[(.val (.rc 1),false)],[],[],[i6,.bool],false⟩,(wD (wD (.s (.r [1] [] [(0,88,[])]) (.s (wD (.b (.l xG .n))) .n))))⟩
def ii74:Ins:=⟨⟨78,[(.val (zS 15),false),(.val (.rc 1),false)],[],[],[.rc 4,.bool],false⟩,(wD (.s (.r [2] [] [(2,95,[])]) (wD (.s (wE [(4,96,[])]) .n))))⟩
def ii75:Ins:=⟨⟨124,[(.val (.rc 1),false),(.val (zS 3),true)],[],[],[.rc 3],false⟩,.n⟩
def ii76:Ins:=⟨⟨149,[(.val (.rc 3),false)],[],[],[.rc 3],false⟩,(wD (.s (.r [2] [] [(2,55,[])]) .n))⟩
def aFN:Cut:=⟨[wA 20 .bool,wC 3 103,wC 2 102,wC 5 105],[wA 103 (.rc 3),wA 102 (.rc 3),(105,.val (.rc 3),[(9,true),(10,true)])]⟩
def aFM:Cut:=⟨[wA 42 .bool,wA 7 i6,wC 3 103,wC 2 102,wC 5 105],[wA 103 (.rc 3),wA 102 (.rc 3),(105,.val (.rc 3),[(9,true),(10,true)])]⟩
def aFL:Cut:=⟨[wA 72 .bool,wC 9 109,wC 11 111,wC 10 110,wC 3 103,wC 2 102,wC 5 105],[wA 109 (.rc 3),wA 111 (.rc 3),wA 110 (.rc 3),wA 103 (.rc 3),wA 102 (.rc 3),(105,.val (.rc 3),[(9,true),(10,true)])]⟩
def aFK:Cut:=⟨[wA 91 .bool,wC 3 103,wC 10 110,wC 9 109,wC 2 102,wC 5 105],[wA 103 (.rc 3),wA 110 (.rc 3),wA 109 (.rc 3),wA 102 (.rc 3),(105,.val (.rc 3),[(9,true),(10,true)])]⟩
def aFJ:Cut:=⟨[wC 2 102,wC 5 105],[wA 102 (.rc 3),(105,.val (.rc 3),[(9,true),(10,true)])]⟩
def aFI:Cut:=⟨[wA 81 .bool,wC 2 102,wC 5 105],[wA 102 (.rc 3),(105,.val (.rc 3),[(9,true),(10,true)])]⟩
def aFH:Cut:=⟨[wA 102 .bool,wC 10 110,wC 9 109,wC 2 102,wC 5 105],[wA 110 (.rc 3),wA 109 (.rc 3),wA 102 (.rc 3),(105,.val (.rc 3),[(9,true),(10,true)])]⟩
def pL:Ins:=⟨⟨150,[(.val (.rc 3),false),(.val (.rc 3),false)],[],[],[i6,.rc 3,.bool],false⟩,(wD (.s (wD (.d aFN .n)) (.s (.s (wE [(2,25,[])]) (.s (wE [(13,24,[])]) (.d aFM .n))) (wD (wD (.s (wE [(1,98,[]),(0,97,[])]) (.s (wD (.b (wD (.c (.s (.s (wE [(6,24,[]),(2,24,[])]) (.d aFL .n)) (.s (wE [(6,24,[]),(2,24,[])]) (.d aFI .n))) (wD (.c (.s (.s (wE [(5,99,[]),(2,24,[])]) (.d aFK (.c (.s (wE [(2,59,[])]) .n) .n))) (.s (wE [(5,99,[]),(2,24,[])]) (.d aFH (.c (.s (wE [(5,23,[]),(2,59,[])]) .n) .n)))) .n)))))) (.d aFJ .n))))))))⟩
def ct78x1:Cut:=⟨[wA 2 .bool],[]⟩
def ii78:Ins:=⟨⟨125,[(.val (.rc 1),false)],[],[],[.bool],false⟩,(wD (wD (.d ct78x1 .n)))⟩
def ct79x1:Cut:=⟨[wA 0 .str,wA 1 (.sl i6),(2,.rw 0,[]),wA 3 i6,wA 10 i6,wA 9 i6],[(0,.row i6,[])]⟩
def ct79x2:Cut:=⟨[wA 10 i6,wA 0 .str,wA 1 (.sl i6),(2,.rw 0,[]),wA 3 i6,wA 9 i6],[(0,.row i6,[])]⟩
def ii79:Ins:=⟨⟨126,[(.val .str,false),(.val (.sl i6),false),(.rw 0,false),(.val i6,false)],[(.row i6,[])],[[]],[i6],false⟩,(wD (.s (wD (.c (.s (.r [1,2] [] [(2,100,[0])]) .n) .n)) (wD (.s (wD (.b (.l ct79x1 (wD (.s (.b (wD (.c (wD (.r [6] [] [(6,79,[0])])) .n))) (.d ct79x2 .n)))))) .n))))⟩
def xB:Cut:=⟨[wA 5 i6,wA 0 .str,wC 3 103,wB 4 (zS 19)],[wA 103 (.rc 18)]⟩
def ii80:Ins:=⟨⟨131,[(.val .str,false)],[],[],[zS 19,.rc 18],false⟩,(.s (.r [0] [] []) (.s (wD (.c (.s (.r [1] [] [(0,81,[])]) .n) .n)) (.s (.r [0] [] []) (wD (.b (.l xB (.b (.s (wE [(2,101,[])]) (.s (wD (.c (.s (.r [3] [] [(2,81,[])]) .n) .n)) (.s (wD (.c (.s (.r [0,7] [] []) .n) .n)) (.s (wE [(2,102,[])]) (.s (wD (.c (.s (.r [1] [] []) .n) .n)) (.s (.r [0,4] [] []) .n)))))))))))))⟩
def ii81:Ins:=⟨⟨132,[(.val i6,false),(.val i6,false)],[],[],[.rc 18],false⟩,.n⟩
def aFG:Cut:=⟨[wA 31 .bool,wA 24 i6,wC 6 106,wC 7 107,wC 0 0,wA 1 i6,wC 4 104,wC 5 105],[wA 0 (.rc 20),wA 106 (.rc 19),(107,.val (.rc 2),[(6,true)]),(104,.val (.rc 2),[(6,true)]),wA 105 (.rc 18)]⟩
def aFF:Cut:=⟨[wC 0 0,wA 8 .str,wC 7 107,wC 6 106,wC 4 104,wC 5 105],[wA 0 (.rc 20),(107,.val (.rc 2),[(6,true)]),wA 106 (.rc 19),(104,.val (.rc 2),[(6,true)]),wA 105 (.rc 18)]⟩
def ii82:Ins:=⟨⟨133,[(.lc 0 0 [],false),(.val i6,false)],[(.val (.rc 20),[])],[[]],[.rc 2,.rc 18],false⟩,(wD (wD (wD (.s (wD (.b (wD (.c (.s (wE [(3,81,[])]) .n) (wD (.d aFG (.c (.s (wE [(3,81,[])]) .n) (wD (.c .n (wD (.c (wD (.s (wE [(2,47,[])]) .n)) (wD (.c (wD (wD (wD (.d aFF (.s (.r [7] [] [(7,104,[])]) (.s (wD (.c (.s (wE [(4,81,[])]) .n) .n)) (.s (wE [(1,46,[])]) .n))))))) .n))))))))))))) (.s (wD (.c (.s (wE [(3,81,[])]) .n) .n)) (wD (.s (wD (.c (.s (wE [(3,82,[0])]) (wD (.s (.r [4] [] [(4,49,[]),(1,46,[]),(0,31,[])]) .n))) .n)) (.s (wE [(3,103,[0])]) .n))))))))⟩
def ii83:Ins:=⟨⟨134,[(.val (.rc 2),false)],[],[],[i6],false⟩,(wD (.s (wE [(1,105,[])]) .n))⟩
def ct84x1:Cut:=⟨[wA 2 .bool],[]⟩
def ii84:Ins:=⟨⟨135,[(.val (.rc 2),false)],[],[],[.bool],false⟩,(wD (wD (.d ct84x1 .n)))⟩
def ii85:Ins:=⟨⟨136,[(.val (.rc 2),false)],[],[],[.bool],false⟩,(wD (.s (wE [(2,106,[]),(1,42,[])]) .n))⟩
def ct86x1:Cut:=⟨[wA 30 .bool,wA 29 i6,wC 4 104,wA 2 (zS 9),wC 0 0,wC 6 106],[wA 0 (.rc 21),wA 104 (.rc 2),(106,.val (.rc 3),[(9,true),(10,true)])]⟩
def ct86x2:Cut:=⟨[wA 73 .bool,wA 10 (zS 2),wC 4 104,wA 2 (zS 9),wC 0 0,wC 6 106],[wA 0 (.rc 21),wA 104 (.rc 2),(106,.val (.rc 3),[(9,true),(10,true)])]⟩
def ct86x3:Cut:=⟨[wA 127 .bool,wC 0 0,wC 14 114,wA 2 (zS 9),wC 6 106],[wA 0 (.rc 21),wA 114 (.rc 2),(106,.val (.rc 3),[(9,true),(10,true)])]⟩
def ct86x4:Cut:=⟨[wA 148 .bool,wC 4 104,wA 13 (zS 2),wA 2 (zS 9),wC 0 0,wC 12 112,wC 6 106],[wA 0 (.rc 21),wA 104 (.rc 2),wA 112 (.rc 1),(106,.val (.rc 3),[(9,true),(10,true)])]⟩
def ct86x5:Cut:=⟨[wA 13 (zS 2),wA 2 (zS 9),wA 24 i6,wC 0 0,wC 12 112,wB 23 (zS 3),wC 6 106],[wA 0 (.rc 21),wA 112 (.rc 1),(106,.val (.rc 3),[(9,true),(10,true)])]⟩
def ii86:Ins:=⟨⟨137,[(.lc 0 0 [],false),(.val (.rc 2),false),(.val (zS 9),false)],[(.val (.rc 21),[])],[[]],[.rc 3,i6],false⟩,(wD (.s (wD (.b (wD (.d ct86x1 (.c (.s (wE [(1,15,[])]) .n) (wD (.c (.s (.s (wE [(2,107,[])]) (.c (.s (wE [(1,15,[])]) .n) .n)) (.s (.s (.r [0,3] [] [(3,108,[])]) .n) (.s (wE [(2,27,[])]) .n))) .n))))))) (.s (.r [5] [] [(1,66,[])]) (.s (wD (.d ct86x2 .n)) (.s (.r [8] [] []) (.s (wD (.b (.s (wE [(0,31,[])]) (.c (wD (.s (wE [(3,15,[])]) .n)) (.s (wE [(0,31,[])]) (.c (.s (.r [1,2,3] [] [(3,109,[0])]) .n) (.s (wE [(0,31,[])]) (.c (.s (.r [1] [] [(1,110,[])]) (wD (.s (.r [7] [] [(3,66,[])]) (.s (.s (wE [(5,111,[0])]) (.d ct86x3 .n)) (.s (.r [2,3] [] [(3,86,[0])]) .n))))) .n)))))))) (.s (.s (.r [5] [] [(5,112,[])]) (.s (wE [(3,113,[])]) (.d ct86x4 (.c (.s (.s (wE [(1,111,[0])]) .n) (.s (.r [5] [] [(5,114,[])]) (wD (.s (.r [2,3] [] [(3,86,[0])]) .n)))) .n)))) (.s (.r [0] [] []) (.s (wD (.b (.l ct86x5 (wD (.s (.b (.s (.r [6] [] [(6,86,[0])]) (wD (.r [0,4] [] [])))) .n))))) (.s (wE [(2,115,[0])]) (wD (wD (.s (.r [1,2] [] [(2,41,[])]) .n)))))))))))))⟩
def ct87x1:Cut:=⟨[wA 2 .bool],[]⟩
def ii87:Ins:=⟨⟨138,[(.val (.rc 3),false)],[],[],[.bool],false⟩,(wD (.s (wE [(10,118,[]),(5,117,[]),(1,116,[])]) (.d ct87x1 .n)))⟩
def ii88:Ins:=⟨⟨139,[],[],[],[zS 22],true⟩,(.s (.r [0] [] []) (.s (.r [26] [] []) .n))⟩
def ii89:Ins:=⟨⟨71,[],[],[],[.rc 3],false⟩,(wD (.s (wE [(1,15,[]),(0,42,[])]) .n))⟩
def ii90:Ins:=⟨⟨143,[(.val i6,false)],[],[],[.str],false⟩,(wD (.s (wE [(1,119,[])]) .n))⟩
def ct91x1:Cut:=⟨[wA 14 .bool,wA 0 .str],[]⟩
def ct91x2:Cut:=⟨[wA 5 i6,wA 0 .str,wA 4 .bool],[]⟩
def ct91x3:Cut:=⟨[wA 5 i6,wA 0 .str,wA 7 i6,wA 4 .bool,wB 6 (.sl i6)],[]⟩
def ii91:Ins:=⟨⟨144,[(.val .str,false)],[],[],[.bool,.sl i6],false⟩,(.s (.r [1] [] []) (.s (.s (wE [(1,120,[])]) (.d ct91x1 (.c (.s (.r [1] [] []) .n) .n))) (wD (wD (wD (.d ct91x2 (.s (.r [0] [] []) (.s (wD (.b (.l ct91x3 (wD (.s (.b (.r [0,8] [] [])) .n))))) (.s (.r [1,3] [] []) .n)))))))))⟩
def ct92x1:Cut:=⟨[wA 8 (.sl i6),wA 6 (.sl i6)],[]⟩
def ii92:Ins:=⟨⟨145,[(.val .str,false),(.val .str,false)],[],[],[.str],false⟩,(wD (.s (.r [6] [] [(1,91,[])]) (.s (.r [6] [] [(1,91,[])]) (.s (.b (.l ct92x1 (wD (.b (.s (.r [0,2,6,7] [] [(2,93,[])]) (.r [0,1,2,3] [] [])))))) (.s (.r [0,1] [] [(1,94,[])]) .n)))))⟩
def ct93x1:Cut:=⟨[wA 0 (.sl i6),wA 1 (.sl i6),wA 8 i6,(6,.rw 111,[]),wA 7 (.sl i6)],[(111,.row i6,[])]⟩
def ct93x2:Cut:=⟨[wA 8 i6,wA 0 (.sl i6),wA 1 (.sl i6),(6,.rw 111,[]),wA 7 (.sl i6)],[(111,.row i6,[])]⟩
def ii93:Ins:=⟨⟨146,[(.val (.sl i6),false),(.val (.sl i6),false)],[],[],[.sl i6,.sl i6],false⟩,(.s (.r [0,1] [] []) (.s (.r [3] [] []) (.s (.r [0] [] []) (.s (wD (.b (.l ct93x1 (wD (.s (.b (.s (.r [7,8] [] [(7,121,[])]) (.b (.l ct93x2 (.s (.s (.r [2] [] [(2,122,[])]) .n) (.b (.s (.r [0,2,3] [] [(2,123,[])]) .n))))))) .n))))) (.s (.r [0,1,2,3,4] [(1,40)] [(1,121,[])]) .n)))))⟩
def ct94x1:Cut:=⟨[wA 1 (.sl i6),wB 5 (.sl (.int .u8))],[]⟩
def ct94x2:Cut:=⟨[wA 1 (.sl i6),wA 6 i6,wB 5 (.sl (.int .u8))],[]⟩
def ii94:Ins:=⟨⟨147,[(.val .bool,false),(.val (.sl i6),false)],[],[],[.str],false⟩,(wD (.s (.r [0,1,2] [] [(1,121,[])]) (wD (.s (.r [0] [] []) (.s (wD (.c (.r [0,3] [] []) .n)) (.d ct94x1 (.s (wD (.b (.l ct94x2 (wD (.s (.b (.r [0,9] [] [])) .n))))) .n)))))))⟩
def sN:Cut:=⟨[wA 0 (zS 15),wC 3 103,wA 7 i6],[wA 103 (.rc 1)]⟩
def wZ:Cut:=⟨[wA 8 (zS 4),wA 9 i6,wA 7 i6,wA 0 (zS 15),wC 3 103],[wA 103 (.rc 1)]⟩
def aDn:Ins:=⟨⟨119,[(.val (zS 15),false),(.val (.rc 1),false)],[],[],[i6,i6,.bool],false⟩,(wD (.s (wD (.b (.l sN (wD (.s (.b (.s (.r [5] [] [(4,96,[])]) (wD (.b (.l wZ .n))))) .n))))) .n))⟩
def aFD:Cut:=⟨[wA 5 .bool,wC 1 101],[wA 101 (.rc 15)]⟩
def ii96:Ins:=⟨⟨120,[(.val (.rc 15),false)],[],[],[zS 4],false⟩,(.s (.r [1] [] []) (.s (wD (.b (wD (.d aFD (.c (.s (.r [1,2] [] []) .n) .n))))) (.s (.r [0] [] []) .n)))⟩
def ii97:Ins:=⟨⟨175,[(.val i6,false)],[],[],[.rc 2],false⟩,(wD (.s (wE [(2,125,[]),(1,124,[])]) .n))⟩
def ii98:Ins:=⟨⟨174,[(.val (.rc 2),false)],[],[],[.rc 3],false⟩,(wD (.s (wE [(1,126,[])]) .n))⟩
def aFC:Cut:=⟨[wA 2 .bool],[]⟩
def ii99:Ins:=⟨⟨176,[(.val (.rc 3),false)],[],[],[.bool],false⟩,(wD (.s (wE [(17,56,[]),(16,97,[]),(11,56,[]),(10,127,[]),(6,18,[])]) (.d aFC .n)))⟩
def ct100x1:Cut:=⟨[wA 8 .bool,wA 0 .str,wA 7 .str,(1,.rw 0,[])],[(0,.row i6,[])]⟩
def ct100x2:Cut:=⟨[wA 48 .bool,wA 0 .str,wA 7 .str,(1,.rw 0,[])],[(0,.row i6,[])]⟩
def ct100x3:Cut:=⟨[wA 90 .bool,wA 7 .str,(1,.rw 0,[])],[(0,.row i6,[])]⟩
def ct100x4:Cut:=⟨[wA 106 .bool],[(0,.row i6,[])]⟩
def ct100x5:Cut:=⟨[wA 125 .bool],[(0,.row i6,[])]⟩
def ii100:Ins:=⟨⟨148,[(.val .str,false),(.rw 0,false)],[(.row i6,[])],[[]],[i6],false⟩,(wD (.s (wD (.b (wD (.d ct100x1 (.c (.s (.r [1,2] [] [(2,128,[0])]) .n) (wD (.c .n (wD (.c .n (wD (.d ct100x2 (.c (.s (wE [(2,58,[])]) .n) (wD (.c .n (wD (.c .n (wD (.c .n (wD (.d ct100x3 (.c .n (wD (.c (.s (wD (.d ct100x4 .n)) .n) (wD (.c .n (wD (.c (.s (wD (.d ct100x5 .n)) .n) .n))))))))))))))))))))))))))) .n))⟩
def nZ:Cut:=⟨[wA 0 .str,wA 1 i6],[]⟩
def nY:Cut:=⟨[wA 0 .str,wA 1 i6],[]⟩
def qQ:Cut:=⟨[wA 6 i6,wA 0 .str,wA 1 i6],[]⟩
def aAK:Cut:=⟨[wA 33 .bool,wA 0 .str,wA 1 i6],[]⟩
def iX:Ins:=⟨⟨152,[(.val .str,false),(.val i6,false)],[],[],[i6,.bool],false⟩,(wD (.s (.b (.l nZ (wD (.b (.b (.s (wE [(3,129,[])]) (.c .n (wD (.c (.b (.l nY (.s (wD (.d aAK .n)) .n))) (.s (wE [(2,130,[])]) (.c (wD (wD (.b (.l qQ (wD (.b (.b (wD (.c .n (.s (wE [(2,130,[])]) (.c .n (.s (wE [(2,130,[])]) .n)))))))))))) .n))))))))))) .n))⟩
def aAJ:Cut:=⟨[wA 65 .bool,wC 7 107,wA 1 i6,wC 8 108,wC 4 104,wC 6 106],[wA 107 (.rc 19),wA 108 (.rc 18),wA 104 (.rc 19),wA 106 (.rc 18)]⟩
def aAI:Cut:=⟨[wC 7 107,wA 1 i6,wC 8 108,wC 4 104,wC 6 106],[wA 107 (.rc 19),wA 108 (.rc 18),wA 104 (.rc 19),wA 106 (.rc 18)]⟩
def aAH:Cut:=⟨[wC 7 107,wA 10 i6,wC 8 108,wC 4 104,wC 6 106],[wA 107 (.rc 19),wA 108 (.rc 18),wA 104 (.rc 19),wA 106 (.rc 18)]⟩
def aAG:Cut:=⟨[wA 163 .bool,wA 1 i6,wC 7 107,wA 10 i6,wC 8 108,wC 4 104,wC 6 106],[wA 107 (.rc 19),wA 108 (.rc 18),wA 104 (.rc 19),wA 106 (.rc 18)]⟩
def aAF:Cut:=⟨[wC 7 107,wA 1 i6,wC 8 108,wC 4 104,wC 6 106],[wA 107 (.rc 19),wA 108 (.rc 18),wA 104 (.rc 19),wA 106 (.rc 18)]⟩
def iW:Ins:=⟨⟨153,[(.val .str,false),(.val i6,false)],[],[],[.rc 19,i6,.rc 18],false⟩,(wD (wD (wD (.s (wD (.b (wD (.c .n (wD (.c .n (wD (.c .n (wD (.c (wD (.s (wE [(3,131,[])]) (.s (wD (.d aAJ (.c (wE [(2,81,[])]) .n))) (.d aAF .n)))) (wD (.c (wD (.s (wE [(3,131,[])]) (.s (wD (.c (wE [(1,132,[])]) .n)) (.d aAI .n)))) (.s (wE [(1,133,[])]) (.c (.s (wE [(3,81,[])]) .n) .n)))))))))))))) (.s (wE [(2,134,[])]) (wD (.s (.s (wE [(2,130,[])]) (.c (.s (wE [(4,135,[])]) .n) .n)) (.s (wE [(1,136,[])]) (.s (.b (wD (.c .n (wD (.c (.s (.s (wE [(1,137,[])]) (.c (.s (wE [(3,81,[])]) .n) .n)) (wD (.s (wE [(4,72,[]),(3,137,[]),(1,137,[])]) (.s (wE [(7,138,[]),(2,138,[])]) (.d aAG (.c (.s (wE [(3,81,[])]) .n) .n)))))) (wD (wD (wE [(1,132,[])])))))))) (.d aAH .n))))))))))⟩
def nX:Cut:=⟨[wA 1 i6,wC 0 0,wB 6 (zS 2),wC 7 107,wC 4 104,wC 5 105],[wA 0 (.rc 20),wA 107 (.rc 2),(104,.val (.rc 2),[(6,true)]),wA 105 (.rc 18)]⟩
def aAE:Cut:=⟨[wA 43 .bool,wB 6 (zS 2),wA 1 i6,wC 0 0,wC 7 107,wC 4 104,wC 5 105],[wA 0 (.rc 20),wA 107 (.rc 2),(104,.val (.rc 2),[(6,true)]),wA 105 (.rc 18)]⟩
def aAD:Cut:=⟨[wC 0 0,wB 6 (zS 2),wC 7 107,wC 4 104,wC 5 105],[wA 0 (.rc 20),wA 107 (.rc 2),(104,.val (.rc 2),[(6,true)]),wA 105 (.rc 18)]⟩
def qP:Cut:=⟨[wB 6 (zS 2),wA 13 i6,wC 7 107,wC 4 104,wC 5 105],[wA 0 (.rc 20),wA 107 (.rc 2),(104,.val (.rc 2),[(6,true)]),wA 105 (.rc 18)]⟩
def iV:Ins:=⟨⟨155,[(.lc 0 0 [],false),(.val i6,false)],[(.val (.rc 20),[])],[[]],[.rc 2,.rc 18],false⟩,(wD (.s (.r [0] [] []) (.s (wE [(0,42,[])]) (.s (.b (.l nX (wD (.b (.s (wD (.d aAE (.c (wD (.s (wE [(2,82,[0])]) (wD (wD (.s (wD (wD (.b (wD (.c .n (wD (.c (.s (wE [(3,81,[])]) .n) (.s (wE [(3,81,[])]) .n)))))))) .n))))) .n))) (.s (wE [(2,82,[0])]) (wD (.r [0,4] [] [])))))))) (.d aAD (wD (.s (wD (.b (.l qP (wD (.s (.b (wE [(5,48,[])])) .n))))) .n)))))))⟩
def aAC:Cut:=⟨[wA 27 .bool,wC 8 108,wA 1 .str,wA 2 .str,wC 6 106],[wA 108 (.rc 5),wA 106 (.rc 1)]⟩
def qO:Cut:=⟨[wC 8 108,wA 10 i6,wA 1 .str,wA 2 .str,wC 6 106],[wA 108 (.rc 5),wA 106 (.rc 1)]⟩
def pF:Ins:=⟨⟨154,[(.val (zS 5),false),(.val .str,false),(.val .str,false)],[],[],[.rc 1,i6],false⟩,(wD (.s (.r [0,2] [] [(2,139,[])]) (wD (.s (wD (.d aAC .n)) (.s (wD (.b (.l qO .n))) .n)))))⟩
def aAB:Cut:=⟨[wA 13 .bool,wC 2 102,wA 1 i6],[wA 102 (.rc 2)]⟩
def wP:Ins:=⟨⟨156,[(.val (.rc 2),false),(.val i6,false)],[],[],[i6],false⟩,(wD (.s (wD (.d aAB .n)) (.s (wE [(6,105,[])]) (wD (.s (wE [(8,105,[])]) .n)))))⟩
def ct106x1:Cut:=⟨[wA 47 .bool,wC 2 102,wC 3 103],[wA 102 (.rc 2),wA 103 (.rc 2)]⟩
def ct106x2:Cut:=⟨[wC 2 102,wC 3 103,wA 5 i6],[wA 102 (.rc 2),wA 103 (.rc 2)]⟩
def ii106:Ins:=⟨⟨14,[(.val (.rc 2),false),(.val (.rc 2),false)],[],[],[.bool],false⟩,(wD (.s (wD (.d ct106x1 .n)) (.s (wD (.b (.l ct106x2 (wD (.s (.b (.s (wE [(10,106,[])]) .n)) .n))))) .n)))⟩
def ct107x1:Cut:=⟨[wA 2 .bool],[]⟩
def ii107:Ins:=⟨⟨157,[(.val (.rc 1),false)],[],[],[.bool],false⟩,(wD (.s (wE [(9,31,[]),(4,31,[]),(1,140,[])]) (.d ct107x1 .n)))⟩
def ct108x1:Cut:=⟨[wC 3 103,wA 0 (zS 9),wA 6 i6,wC 4 104],[wA 103 (.rc 1),(104,.val (.rc 3),[(9,true),(10,true)])]⟩
def ii108:Ins:=⟨⟨141,[(.val (zS 9),false),(.val (.rc 1),false)],[],[],[.rc 3,.bool],false⟩,(wD (.s (wD (.b (.l ct108x1 .n))) .n))⟩
def ct109x1:Cut:=⟨[wA 9 (zS 2),wA 8 (zS 1),wA 12 i6,wC 0 0,wA 1 (zS 2),wB 11 (zS 9),wA 2 (zS 9),wC 6 106],[wA 0 (.rc 21),(106,.val (.rc 3),[(9,true),(10,true)])]⟩
def ii109:Ins:=⟨⟨158,[(.lc 0 0 [],false),(.val (zS 2),false),(.val (zS 9),false)],[(.val (.rc 21),[])],[[]],[.rc 3,i6],false⟩,(wD (wD (.s (.r [8,9] [] [(3,141,[])]) (wD (.s (.r [0] [] []) (.s (wD (.b (.l ct109x1 (wD (.s (.b (.s (.r [6] [] [(6,86,[0])]) (wD (.r [0,9] [] [])))) .n))))) (.s (.r [4,7] [] [(7,86,[0])]) .n)))))))⟩
def ct110x1:Cut:=⟨[wA 6 i6,wA 4 (zS 2),wA 0 (zS 2),wC 2 102],[(102,.val (.rc 2),[(6,true)])]⟩
def ct110x2:Cut:=⟨[wA 43 .bool,wA 6 i6,wA 4 (zS 2),wA 0 (zS 2),wC 2 102],[(102,.val (.rc 2),[(6,true)])]⟩
def ii110:Ins:=⟨⟨159,[(.val (zS 2),false)],[],[],[.rc 2,.bool],false⟩,(wD (wD (.s (.r [7] [] [(3,66,[])]) (wD (.s (wD (.b (.l ct110x1 (wD (.s (.b (.s (.r [8] [] [(4,66,[])]) (wD (.d ct110x2 .n)))) .n))))) (wD (.s (.r [4,7,12,14] [] [(14,142,[]),(12,142,[]),(7,49,[]),(4,49,[])]) .n)))))))⟩
def ii111:Ins:=⟨⟨160,[(.lc 0 0 [],false)],[(.val (.rc 21),[])],[[]],[.bool],false⟩,.n⟩
def nW:Cut:=⟨[wC 3 103,wA 0 (zS 15),wA 6 i6,wC 4 104],[wA 103 (.rc 1),(104,.val (.rc 6),[(2,true),(13,true),(14,true)])]⟩
def aAA:Cut:=⟨[wA 28 .bool,wA 6 i6,wC 3 103,wA 0 (zS 15),wC 4 104],[wA 103 (.rc 1),(104,.val (.rc 6),[(2,true),(13,true),(14,true)])]⟩
def oZ:Ins:=⟨⟨161,[(.val (zS 15),false),(.val (.rc 1),false)],[],[],[.rc 6,.bool],false⟩,(wD (.s (wD (.b (.l nW (wD (.s (.b (wD (.d aAA .n))) .n))))) .n))⟩
def ct113x1:Cut:=⟨[wA 8 .bool],[]⟩
def ii113:Ins:=⟨⟨162,[(.val (.rc 1),false)],[],[],[.bool],false⟩,(wD (wD (.s (wD (.b (wD (.d ct113x1 .n)))) .n)))⟩
def ct114x1:Cut:=⟨[wA 37 .bool,wA 7 (zS 2),wC 3 103,wA 0 (zS 15),wC 4 104],[wA 103 (.rc 2),(104,.val (.rc 2),[(6,true)])]⟩
def ct114x2:Cut:=⟨[wA 10 (zS 2),wA 14 i6,wA 0 (zS 15),wC 13 113,wC 4 104],[wA 113 (.rc 6),(104,.val (.rc 2),[(6,true)])]⟩
def ct114x3:Cut:=⟨[wA 88 .bool,wA 10 (zS 2),wA 14 i6,wA 0 (zS 15),wC 13 113,wC 4 104],[wA 113 (.rc 6),(104,.val (.rc 2),[(6,true)])]⟩
def ct114x4:Cut:=⟨[wA 0 (zS 15),wC 13 113,(15,.val (zS 2),[(0,false)]),wC 4 104],[wA 113 (.rc 6),(104,.val (.rc 2),[(6,true)])]⟩
def ii114:Ins:=⟨⟨163,[(.val (zS 15),false),(.val (.rc 2),false)],[],[],[.rc 2,.bool,i6],false⟩,(wD (.s (.r [5] [] [(1,66,[])]) (.s (wD (.d ct114x1 .n)) (.s (.r [8] [] []) (.s (.s (wE [(1,113,[])]) (.c (.s (.r [2,3] [] [(3,143,[])]) .n) .n)) (.s (.r [2] [] [(2,112,[])]) (wD (wD (wD (.d ct114x2 (.s (wD (.d ct114x3 .n)) (.s (.r [7] [] []) (.s (wD (.c (.r [0,4,7] [] [(4,49,[])]) .n)) (.d ct114x4 (.s (.r [0,5,6,7] [] []) .n)))))))))))))))⟩
def ct115x1:Cut:=⟨[wA 6 i6,wC 0 0,wC 3 103],[wA 0 (.rc 21),wA 103 (.rc 1)]⟩
def ii115:Ins:=⟨⟨164,[(.lc 0 0 [],false),(.val (.rc 1),false)],[(.val (.rc 21),[])],[[]],[i6,.bool],false⟩,(wD (.s (wD (.b (.l ct115x1 .n))) (.s (.r [5] [] [(5,53,[])]) .n)))⟩
def ii116:Ins:=⟨⟨165,[(.val (.rc 3),false)],[],[],[i6],false⟩,(wD (.s (wE [(1,144,[])]) .n))⟩
def ii117:Ins:=⟨⟨166,[(.val (.rc 3),false)],[],[],[i6],false⟩,(wD (.s (wE [(1,145,[])]) .n))⟩
def ct118x1:Cut:=⟨[wA 2 .bool],[]⟩
def ct118x2:Cut:=⟨[wA 2 .bool],[]⟩
def ct118x3:Cut:=⟨[wA 57 .bool,wC 1 101],[wA 101 (.rc 3)]⟩
def ct118x4:Cut:=⟨[wC 1 101,wA 4 i6],[wA 101 (.rc 3)]⟩
def ii118:Ins:=⟨⟨167,[(.val (.rc 3),false)],[],[],[.bool],false⟩,(wD (.s (wE [(3,106,[])]) (.s (wD (.b (wD (.c (.s (wE [(4,107,[])]) (.d ct118x1 .n)) (wD (.c (.s (wE [(7,146,[])]) (.d ct118x2 .n)) (wD (.c (.s (.s (wE [(5,140,[])]) (.d ct118x3 .n)) (.s (wD (.b (.l ct118x4 (wD (.s (.b (.s (wE [(5,118,[])]) .n)) .n))))) .n)) .n)))))))) .n)))⟩
def ii119:Ins:=⟨⟨168,[(.val i6,false)],[],[],[.str],false⟩,(wD (.s (wE [(1,147,[])]) .n))⟩
def ct120x1:Cut:=⟨[wA 14 .bool,wA 3 i6,wA 0 .str],[]⟩
def ct120x2:Cut:=⟨[wA 3 i6,wA 0 .str],[]⟩
def ct120x3:Cut:=⟨[wA 24 .bool,wA 3 i6,wA 0 .str],[]⟩
def ct120x4:Cut:=⟨[wA 0 .str,wA 4 i6],[]⟩
def ct120x5:Cut:=⟨[wA 41 .bool,wA 4 i6,wA 0 .str],[]⟩
def ii120:Ins:=⟨⟨169,[(.val .str,false)],[],[],[.bool],false⟩,(wD (wD (wD (.s (wD (.d ct120x1 .n)) (.d ct120x2 (.s (wD (.d ct120x3 .n)) (.s (wD (.b (.l ct120x4 (wD (.s (.b (wD (.d ct120x5 .n))) .n))))) .n)))))))⟩
def ct121x1:Cut:=⟨[wA 0 (.sl i6),wA 3 i6],[]⟩
def ct121x2:Cut:=⟨[wA 15 .bool,wA 0 (.sl i6),wA 3 i6],[]⟩
def ii121:Ins:=⟨⟨170,[(.val (.sl i6),false)],[],[],[.sl i6],false⟩,(.s (.r [0] [] []) (wD (.s (.b (.l ct121x1 (.s (wD (.d ct121x2 .n)) .n))) (.s (.r [3] [] []) .n))))⟩
def ct122x1:Cut:=⟨[wA 0 (.sl i6),wA 1 (.sl i6),wA 5 i6],[]⟩
def ii122:Ins:=⟨⟨171,[(.val (.sl i6),false),(.val (.sl i6),false)],[],[],[i6],false⟩,(wD (wD (.s (wD (.b (.l ct122x1 .n))) .n)))⟩
def ct123x1:Cut:=⟨[wA 0 (.sl i6),wA 6 i6,wA 1 (.sl i6),wA 7 i6,wB 5 (.sl i6)],[]⟩
def ct123x2:Cut:=⟨[wB 5 (.sl i6),wA 8 i6,wA 7 i6,wA 0 (.sl i6),wA 1 (.sl i6)],[]⟩
def ct123x3:Cut:=⟨[wB 5 (.sl i6),wA 8 i6,wA 7 i6,wA 0 (.sl i6),wA 6 i6,wA 1 (.sl i6)],[]⟩
def ii123:Ins:=⟨⟨172,[(.val (.sl i6),false),(.val (.sl i6),false)],[],[],[.sl i6],false⟩,(.s (.r [0] [] []) (.s (.r [0] [] []) (wD (.s (wD (.b (.l ct123x1 (wD (.s (.b (wD (wD (.d ct123x2 (wD (wD (.d ct123x3 (.r [0,4] [] [])))))))) .n))))) (.s (.r [0,1,2] [] [(1,121,[])]) .n)))))⟩
def ii124:Ins:=⟨⟨205,[(.val i6,false)],[],[],[.str],false⟩,(wD (.s (wE [(1,90,[])]) .n))⟩
def ii125:Ins:=⟨⟨204,[(.val .str,false)],[],[],[.rc 2],false⟩,.n⟩
def ii126:Ins:=⟨⟨203,[(.val (.rc 2),false)],[],[],[.rc 3],false⟩,.n⟩
def ii127:Ins:=⟨⟨206,[],[],[],[.rc 2],false⟩,(wD (.s (wE [(1,148,[])]) .n))⟩
def ct128x1:Cut:=⟨[wA 26 .bool],[(0,.row i6,[])]⟩
def ct128x2:Cut:=⟨[wA 59 .bool,wA 5 i6,wA 7 i6],[(0,.row i6,[])]⟩
def ct128x3:Cut:=⟨[wA 72 .bool,wA 8 i6],[(0,.row i6,[])]⟩
def ii128:Ins:=⟨⟨173,[(.val .str,false),(.rw 0,false)],[(.row i6,[])],[[]],[i6],false⟩,(wD (.s (wE [(3,149,[])]) (.s (wD (.b (wD (.c (.s (wE [(3,149,[])]) (.s (.b (.s (wE [(3,150,[]),(1,150,[])]) (.c .n (.s (wE [(3,150,[]),(1,150,[])]) (.d ct128x1 .n))))) .n)) (wD (.c (.s (wE [(5,151,[]),(4,149,[])]) .n) (wD (.c (.s (wE [(3,149,[])]) (.s (wD (.d ct128x2 .n)) (.s (wE [(3,150,[]),(1,150,[])]) (.s (wD (.d ct128x3 (.c (.s (wE [(1,152,[])]) .n) .n))) (.s (wE [(3,153,[]),(1,152,[])]) .n))))) (wD (.c (.s (wD (.c (.s (wE [(3,152,[]),(1,150,[])]) .n) .n)) (.s (wE [(3,153,[]),(1,150,[])]) .n)) (wD (.c (wD (.s (wE [(5,153,[]),(4,150,[]),(2,152,[]),(1,150,[])]) .n)) (wD (.c (.s (wE [(2,152,[]),(1,150,[])]) .n) .n)))))))))))))) .n)))⟩
def aAz:Cut:=⟨[wA 2 .bool],[]⟩
def aAg:Ins:=⟨⟨177,[(.val (.int .u8),false)],[],[],[.bool],false⟩,(wD (wD (.d aAz .n)))⟩
def aAy:Cut:=⟨[wA 8 .bool],[]⟩
def aAf:Ins:=⟨⟨178,[(.val .str,false),(.val i6,false),(.val (.int .u8),false),(.val (.int .u8),false)],[],[],[.bool],false⟩,(wD (wD (.d aAy .n)))⟩
def ct131x1:Cut:=⟨[wA 2 (.int .u8),wC 8 108,wB 9 (.sl (.int .u8)),wA 0 .str,wA 1 i6],[wA 108 (.rc 18)]⟩
def ct131x2:Cut:=⟨[wA 62 .bool,wB 9 (.sl (.int .u8)),wA 1 i6,wA 2 (.int .u8),wC 8 108,wA 0 .str],[wA 108 (.rc 18)]⟩
def ii131:Ins:=⟨⟨179,[(.val .str,false),(.val i6,false),(.val (.int .u8),false)],[],[],[.str,i6,.rc 18],false⟩,(wD (.s (.r [0] [] []) (.b (.l ct131x1 (.b (.b (wD (.c (.s (wE [(3,81,[])]) .n) (wD (.c .n (wD (.c (.s (.r [0,6] [] []) .n) (wD (.c (.s (wE [(3,81,[])]) .n) (wD (.d ct131x2 (.c (.s (wE [(2,81,[])]) .n) (.s (.r [0,7] [] []) .n))))))))))))))))))⟩
def aAx:Cut:=⟨[wA 13 .bool,wC 2 102,wC 4 104],[wA 102 (.rc 19),wA 104 (.rc 18)]⟩
def wM:Ins:=⟨⟨180,[(.val (.rc 19),false),(.val .bool,false)],[],[],[.rc 18],false⟩,(wD (.s (.b (wD (.c (.s (wE [(2,81,[])]) .n) (.s (wE [(13,154,[])]) (.d aAx (.c (.s (wE [(2,81,[])]) .n) .n)))))) .n))⟩
def aAw:Cut:=⟨[wA 2 .bool],[]⟩
def aAe:Ins:=⟨⟨181,[(.val (.int .u8),false)],[],[],[.bool],false⟩,(wD (wD (.d aAw .n)))⟩
def nV:Cut:=⟨[wA 0 .str,wA 1 i6],[]⟩
def aAv:Cut:=⟨[wA 14 .bool,wA 0 .str,wA 1 i6],[]⟩
def oY:Ins:=⟨⟨182,[(.val .str,false),(.val i6,false)],[],[],[i6],false⟩,(wD (.s (.b (.l nV (.s (.s (wE [(8,133,[])]) (.d aAv .n)) .n))) .n))⟩
def ct135x1:Cut:=⟨[wC 5 105,wA 13 i6,wC 14 114,wC 8 108,wC 10 110],[wA 105 (.rc 19),wA 114 (.rc 18),wA 108 (.rc 19),wA 110 (.rc 18)]⟩
def ii135:Ins:=⟨⟨183,[(.val .str,false),(.val (.rc 19),false),(.val .str,false),(.val i6,false)],[],[],[.rc 19,i6,.rc 18],false⟩,(wD (wD (wD (wD (.s (.b (wD (.c (.s (wE [(4,81,[])]) .n) (wD (.c (.s (wE [(3,131,[])]) (wD (.s (wD (.c (wE [(1,132,[])]) .n)) (.d ct135x1 .n)))) (.s (wE [(3,133,[])]) (.c (.s (wE [(3,81,[])]) .n) .n))))))) (.s (wE [(2,134,[])]) (wD (.s (wE [(3,132,[])]) .n))))))))⟩
def aAu:Cut:=⟨[wA 15 .bool,wA 5 i6,wA 0 .str],[]⟩
def aAt:Cut:=⟨[wA 5 i6,wA 0 .str],[]⟩
def nU:Cut:=⟨[wA 5 i6,wA 0 .str,wA 6 i6],[]⟩
def aAs:Cut:=⟨[wA 32 .bool,wA 5 i6,wA 0 .str,wA 6 i6],[]⟩
def aAr:Cut:=⟨[wA 53 .bool,wA 0 .str,wA 6 i6],[]⟩
def nT:Cut:=⟨[wA 7 i6,wA 0 .str,wA 6 i6],[]⟩
def aAq:Cut:=⟨[wA 71 .bool,wA 7 i6,wA 0 .str,wA 6 i6],[]⟩
def eM:Ins:=⟨⟨184,[(.val .str,false)],[],[],[.str,.str,.bool],false⟩,(wD (wD (.s (wD (.d aAu .n)) (.d aAt (wD (.s (.b (.l nU (.s (wD (.d aAs .n)) .n))) (wD (wD (.s (wD (.d aAr .n)) (.s (wD (.b (.l nT (wD (.s (.b (wD (.d aAq .n))) .n))))) .n))))))))))⟩
def ct137x1:Cut:=⟨[wA 3 .bool,wA 0 .str],[]⟩
def ct137x2:Cut:=⟨[wA 3 .bool,wA 0 .str,wA 4 i6],[]⟩
def ct137x3:Cut:=⟨[wA 3 .bool,wA 0 .str,wA 4 i6],[]⟩
def ct137x4:Cut:=⟨[wA 23 .bool,wA 3 .bool,wA 0 .str,wA 4 i6],[]⟩
def ii137:Ins:=⟨⟨185,[(.val .str,false)],[],[],[.str],false⟩,(wD (wD (.d ct137x1 (wD (wD (.d ct137x2 (.s (.b (.l ct137x3 (.s (wD (.d ct137x4 .n)) .n))) .n)))))))⟩
def ii138:Ins:=⟨⟨186,[(.val .str,false)],[],[],[i6],false⟩,(wD (.s (.r [6] [] [(1,91,[])]) .n))⟩
def qN:Cut:=⟨[wA 1 .str,wA 0 (zS 5),wA 6 i6,wC 4 104],[(104,.val (.rc 5),[(1,true)])]⟩
def uH:Ins:=⟨⟨187,[(.val (zS 5),false),(.val .str,false)],[],[],[.rc 5,.bool],false⟩,(wD (.s (wD (.b (.l qN .n))) .n))⟩
def ii140:Ins:=⟨⟨188,[(.val (.rc 1),false)],[],[],[.bool],false⟩,(wD (.s (wE [(1,155,[])]) .n))⟩
def ct141x1:Cut:=⟨[wA 5 (zS 2),wA 9 i6,wB 7 (zS 1),wB 8 (zS 2)],[]⟩
def ct141x2:Cut:=⟨[wA 48 .bool,wB 7 (zS 1),wB 8 (zS 2),wA 10 (zS 2),wA 9 i6,wA 5 (zS 2)],[]⟩
def ct141x3:Cut:=⟨[wA 12 i6,wB 7 (zS 1),wB 8 (zS 2)],[]⟩
def ct141x4:Cut:=⟨[wA 13 i6,wB 7 (zS 1),wB 8 (zS 2)],[]⟩
def ii141:Ins:=⟨⟨189,[(.val (.rc 2),false)],[],[],[zS 1,zS 2,i6],false⟩,(.s (.r [1,2] [] []) (.s (.r [5] [] [(1,66,[])]) (.s (wD (.c (.s (.r [0,1] [] []) .n) .n)) (.s (.r [0] [] []) (.s (.r [0] [] []) (.s (wD (.b (.l ct141x1 (wD (.s (.b (.s (.r [8] [] [(4,66,[])]) (.s (wD (.d ct141x2 (.c (.s (.r [0,1] [] []) .n) .n))) (.s (.r [0,7] [] []) (.r [0,6] [] []))))) .n))))) (.s (wD (.b (.l ct141x3 (wD (.s (.b (.s (wE [(4,107,[])]) (.c (.s (.r [0,1] [] []) .n) .n))) .n))))) (.s (wD (.b (.l ct141x4 (wD (.s (.b (.s (.r [7] [] [(7,156,[])]) (.c (.s (.r [0,1] [] []) .n) .n))) .n))))) (.s (.r [0,1,2,3] [] []) .n)))))))))⟩
def ii142:Ins:=⟨⟨190,[(.val .str,false),(.val (zS 2),false)],[],[],[.rc 2],false⟩,(wD (.s (.r [2,3] [] [(4,48,[]),(3,49,[]),(1,157,[])]) .n))⟩
def ct143x1:Cut:=⟨[wA 26 .bool,wA 11 .str,wA 6 i6,wA 0 .str,wA 1 (zS 2),wC 4 104],[(104,.val (.rc 2),[(6,true)])]⟩
def ct143x2:Cut:=⟨[wA 59 .bool,wA 11 .str,wA 6 i6,wA 0 .str,wA 1 (zS 2),wC 4 104],[(104,.val (.rc 2),[(6,true)])]⟩
def ct143x3:Cut:=⟨[wA 114 .bool,wA 7 (zS 2),wA 0 .str,wA 1 (zS 2),wC 4 104],[(104,.val (.rc 2),[(6,true)])]⟩
def ct143x4:Cut:=⟨[wC 4 104],[(104,.val (.rc 2),[(6,true)])]⟩
def ct143x5:Cut:=⟨[wA 180 .bool,wA 6 i6,wA 0 .str,wA 1 (zS 2),wC 4 104],[(104,.val (.rc 2),[(6,true)])]⟩
def ii143:Ins:=⟨⟨191,[(.val .str,false),(.val (zS 2),false)],[],[],[.rc 2,.bool],false⟩,(wD (wD (.s (wD (.b (wD (.c (.s (wD (.c (.s (wE [(0,42,[])]) .n) .n)) (.s (.r [6,8] [] [(8,142,[]),(6,158,[])]) .n)) (wD (.d ct143x1 (.c (.s (wD (.c (.s (wE [(0,42,[])]) .n) .n)) (wD (.s (wD (.c (.s (.r [6,8] [] [(8,142,[]),(6,158,[])]) .n) .n)) (.s (.r [6,8] [] [(8,142,[]),(6,158,[])]) .n)))) (wD (.d ct143x2 (.c (.s (wD (.c (.s (wE [(2,159,[])]) .n) .n)) (wD (.s (wD (.c (.s (.r [6,9] [] [(9,142,[]),(7,42,[]),(6,158,[])]) .n) .n)) (.s (.r [9,11] [] [(11,142,[]),(9,158,[])]) .n)))) (wD (.c (.s (wD (.c (.s (wE [(0,42,[])]) .n) .n)) (.s (.r [7] [] [(3,66,[])]) (.s (wD (.d ct143x3 .n)) (.s (.r [9,11] [] [(11,142,[]),(9,158,[])]) .n)))) (wD (.c (.s (.r [1,2] [] [(2,160,[])]) .n) (wD (.c (.s (.r [1,2] [] [(2,160,[])]) .n) (wD (.c (.s (wD (.c (.s (.r [4] [] [(4,142,[])]) .n) .n)) (wD (.c (.s (.r [7,9] [] [(9,142,[]),(7,142,[])]) .n) .n))) (wD (.c (.s (wD (.c (.s (.r [4] [] [(4,142,[])]) .n) .n)) (wD (.c (.s (.r [7,9] [] [(9,142,[]),(7,142,[])]) .n) .n))) (wD (.d ct143x5 (.c (wD (.s (wD (.c (.s (.r [7,9] [] [(9,142,[]),(7,142,[])]) .n) .n)) (.s (wD (.c (.s (.r [7] [] [(7,142,[])]) .n) .n)) (.s (.r [7,9] [] [(9,142,[]),(7,142,[])]) .n)))) .n))))))))))))))))))))))) (.d ct143x4 .n))))⟩
def ct144x1:Cut:=⟨[wA 6 (zS 3),wA 1 i6,wA 7 i6,wA 5 i6],[]⟩
def ct144x2:Cut:=⟨[wA 26 .bool,wA 7 i6,wA 6 (zS 3),wA 1 i6,wA 5 i6],[]⟩
def ii144:Ins:=⟨⟨194,[(.val (.rc 3),false),(.val i6,false)],[],[],[i6],false⟩,(wD (.s (wD (.c (.s (wE [(3,83,[])]) .n) .n)) (wD (.s (.r [2] [] [(1,161,[])]) (.s (wD (.b (.l ct144x1 (.s (wD (.d ct144x2 .n)) (.s (.b (wE [(8,144,[])])) .n))))) .n)))))⟩
def ct145x1:Cut:=⟨[wA 6 (zS 3),wA 1 i6,wA 7 i6,wA 5 i6],[]⟩
def ct145x2:Cut:=⟨[wA 17 .bool,wA 7 i6,wA 6 (zS 3),wA 1 i6,wA 5 i6],[]⟩
def ii145:Ins:=⟨⟨195,[(.val (.rc 3),false),(.val i6,false)],[],[],[i6],false⟩,(wD (wD (.s (.r [2] [] [(1,161,[])]) (.s (wD (.b (.l ct145x1 (.s (wD (.d ct145x2 .n)) (.s (.b (wE [(7,145,[])])) .n))))) .n))))⟩
def ct146x1:Cut:=⟨[wA 2 .bool],[]⟩
def ii146:Ins:=⟨⟨196,[(.val (.rc 2),false)],[],[],[.bool],false⟩,(wD (.s (wE [(5,162,[]),(1,83,[])]) (.d ct146x1 .n)))⟩
def ct147x1:Cut:=⟨[wA 17 .bool,wA 0 i6],[]⟩
def ii147:Ins:=⟨⟨197,[(.val i6,false),(.val i6,false)],[],[],[.str],false⟩,(wD (.s (wD (.c (.s (wD (.d ct147x1 (.c (.s (wE [(1,164,[])]) .n) .n))) (wD (wD (wD (.d ⟨[],[]⟩ (wD (.s (.r [4] [] []) .n))))))) .n)) (.s (.r [9] [] [(5,163,[])]) .n)))⟩
def ii148:Ins:=⟨⟨100,[(.val (.rc 1),false)],[],[],[.rc 2],false⟩,.n⟩
def ii149:Ins:=⟨⟨198,[(.val i6,false)],[],[],[i6],false⟩,.n⟩
def ct150x1:Cut:=⟨[wA 4 .bool,wA 3 i6],[]⟩
def ct150x2:Cut:=⟨[wA 7 .bool],[]⟩
def ii150:Ins:=⟨⟨199,[(.val i6,false)],[],[],[i6],false⟩,(wD (.s (wD (.b (wD (.d ct150x1 (.c .n (wD (.d ct150x2 .n))))))) .n))⟩
def ct151x1:Cut:=⟨[wA 14 .bool,(5,.cl 219 [],[]),wA 1 i6,wA 0 i6],[]⟩
def ii151:Ins:=⟨⟨200,[(.val i6,false),(.val i6,false)],[],[],[i6],false⟩,(wD (wD (.s (.b (wD (.c .n (wD (.c .n (.s (wE [(6,165,[]),(2,165,[])]) (.d ct151x1 (.c .n (.s (wE [(5,165,[]),(2,165,[])]) (.c (.s (.s (wE [(3,150,[]),(1,150,[])]) (.c (.s (wE [(2,153,[]),(1,150,[])]) .n) .n)) .n) (.s (wE [(3,150,[]),(1,150,[])]) (.c (.s (wE [(5,153,[]),(4,150,[]),(2,152,[]),(1,150,[])]) .n) .n)))))))))))) .n)))⟩
def ii152:Ins:=⟨⟨201,[(.val i6,false)],[],[],[i6],false⟩,.n⟩
def ii153:Ins:=⟨⟨202,[(.val i6,false)],[],[],[i6],false⟩,.n⟩
def ii154:Ins:=⟨⟨207,[(.val .str,false)],[],[],[.bool],false⟩,(wD (.s (wE [(1,166,[])]) .n))⟩
def ct155x1:Cut:=⟨[wA 2 .bool],[]⟩
def ii155:Ins:=⟨⟨208,[(.val (.rc 1),false)],[],[],[.bool],false⟩,(wD (.s (wE [(2,166,[])]) (.d ct155x1 .n)))⟩
def ct156x1:Cut:=⟨[wA 0 (zS 1),wC 3 103,wA 5 i6],[wA 103 (.rc 1)]⟩
def ii156:Ins:=⟨⟨115,[(.val (zS 1),false),(.val (.rc 1),false)],[],[],[.bool],false⟩,(wD (.s (wD (.b (.l ct156x1 .n))) .n))⟩
def ii157:Ins:=⟨⟨209,[(.val .str,false)],[],[],[.rc 2],false⟩,(wD (.s (wE [(2,46,[]),(1,31,[])]) .n))⟩
def ii158:Ins:=⟨⟨210,[(.val .str,false),(.val (zS 2),false)],[],[],[.rc 2],false⟩,(wD (.s (.r [1,2] [] [(2,142,[])]) .n))⟩
def ii159:Ins:=⟨⟨211,[(.val .bool,false)],[],[],[.rc 2],false⟩,(wD (.s (wD (.c (.s (wE [(0,43,[])]) .n) .n)) (.s (wE [(0,42,[])]) .n)))⟩
def ii160:Ins:=⟨⟨212,[(.val .str,false),(.val .str,false),(.val i6,false),(.val (zS 2),false)],[],[],[.rc 2],false⟩,(wD (.s (wD (.b (wD (.c (.s (wE [(1,44,[])]) .n) (wD (.c (.s (.r [7] [] [(7,142,[]),(2,44,[])]) .n) (wD (.c (.s (.r [8] [] [(8,142,[])]) .n) .n)))))))) (.s (.r [7,9] [] [(9,142,[]),(7,158,[])]) .n)))⟩
def ii161:Ins:=⟨⟨114,[(.val (.rc 3),false)],[],[],[zS 3],false⟩,(.s (.r [1] [] []) (.s (wD (.c (.s (.r [0] [] []) .n) .n)) (.s (.r [1,2] [] []) .n)))⟩
def ct162x1:Cut:=⟨[wA 2 .bool],[]⟩
def ct162x2:Cut:=⟨[wA 2 .bool],[]⟩
def ct162x3:Cut:=⟨[wA 2 .bool],[]⟩
def ct162x4:Cut:=⟨[wA 2 .bool],[]⟩
def ii162:Ins:=⟨⟨214,[(.val (.rc 2),false)],[],[],[.bool],false⟩,(wD (wD (.s (wD (.b (wD (.c (.s (wE [(4,72,[])]) (.s (wE [(31,138,[]),(26,138,[])]) (.d ct162x1 .n))) (wD (.c (.s (wE [(2,155,[])]) (.d ct162x2 .n)) (wD (.c (wD (.d ct162x3 .n)) (wD (.c (.s (wE [(34,162,[]),(27,162,[])]) (.d ct162x4 .n)) .n)))))))))) .n)))⟩
def ct163x1:Cut:=⟨[wA 28 .bool,wA 2 i6,wA 1 (.int .u64),wA 3 .bool,wA 4 .bool,wA 0 (.sl (.int .u8)),wA 11 .str,wB 10 (.sl (.int .u8))],[]⟩
def ct163x2:Cut:=⟨[wA 2 i6,wA 1 (.int .u64),wA 3 .bool,wA 4 .bool,wA 0 (.sl (.int .u8)),wA 11 .str,wB 10 (.sl (.int .u8))],[]⟩
def ii163:Ins:=⟨⟨218,[(.val (.sl (.int .u8)),false),(.val (.int .u64),false),(.val i6,false),(.val .bool,false),(.val .bool,false)],[],[],[(.sl (.int .u8)),.str],false⟩,(.s (.r [0] [] []) (.s (wD (.d ct163x1 .n)) (.d ct163x2 (wD (wD (wD (.d ⟨[],[]⟩ (.s (wD (.c (wD (wD (wD (.s (.b (.l ⟨[],[]⟩ .n)) .n)))) (wD (.s (.b (.l ⟨[],[]⟩ .n)) .n)))) (.d ⟨[],[]⟩ (wD (.d ⟨[],[]⟩ (.s (wD (.c (.s (.r [0,4] [] []) .n) .n)) .n))))))))))))⟩
def ii164:Ins:=⟨⟨215,[(.val i6,false)],[],[],[.str],false⟩,.n⟩
def ii165:Ins:=⟨⟨219,[(.val i6,false)],[],[],[.bool],false⟩,.n⟩
def aAp:Cut:=⟨[wA 22 .bool,wA 0 .str],[]⟩
def nS:Cut:=⟨[wA 0 .str,wA 3 i6],[]⟩
def aAo:Cut:=⟨[wA 49 .bool,wA 3 i6,wA 0 .str],[]⟩
def lE:Ins:=⟨⟨220,[(.val .str,false)],[],[],[.bool],false⟩,(wD (.s (wD (.d aAp .n)) (.s (wD (.b (.l nS (wD (.s (.b (wD (wD (.d aAo .n)))) .n))))) .n)))⟩
def insL:List (Nat×Ins):=[(0,ii0),(1,ii1),(2,ii2),(3,ii3),(4,ii4),(5,ii5),(6,ii6),(7,ii7),(8,ii8),(9,ii9),(10,ii10),(11,ii11),(12,ii12),(13,ii13),(14,uG),(15,ii15),(16,ii16),(17,zC),(18,ii18),(19,ii19),(20,ii20),(21,ii21),(22,ii22),(23,ii23),(24,ii24),(25,ii25),(26,rC),(27,ii27),(28,ii28),(29,ii29),(30,ii30),(31,ii31),(32,ii32),(33,ii33),(34,ii34),(35,ii35),(36,ii36),(37,ii37),(38,ii38),(39,ii39),(40,ii40),(41,ii41),(42,ii42),(43,ii43),(44,ii44),(45,ii45),(46,ii46),(47,ii47),(48,ii48),(49,ii49),(50,ii50),(51,ii51),(52,ii52),(53,ii53),(54,ii54),(55,ii55),(56,aAd),(57,ii57),(58,ii58),(59,vC),(60,ii60),(61,ii61),(62,ii62),(63,ii63),(64,ii64),(65,aDV),(66,ii66),(67,ii67),(68,ii68),(69,ii69),(70,ii70),(71,ii71),(72,ii72),(73,ii73),(74,ii74),(75,ii75),(76,ii76),(77,pL),(78,ii78),(79,ii79),(80,ii80),(81,ii81),(82,ii82),(83,ii83),(84,ii84),(85,ii85),(86,ii86),(87,ii87),(88,ii88),(89,ii89),(90,ii90),(91,ii91),(92,ii92),(93,ii93),(94,ii94),(95,aDn),(96,ii96),(97,ii97),(98,ii98),(99,ii99),(100,ii100),(101,iX),(102,iW),(103,iV),(104,pF),(105,wP),(106,ii106),(107,ii107),(108,ii108),(109,ii109),(110,ii110),(111,ii111),(112,oZ),(113,ii113),(114,ii114),(115,ii115),(116,ii116),(117,ii117),(118,ii118),(119,ii119),(120,ii120),(121,ii121),(122,ii122),(123,ii123),(124,ii124),(125,ii125),(126,ii126),(127,ii127),(128,ii128),(129,aAg),(130,aAf),(131,ii131),(132,wM),(133,aAe),(134,oY),(135,ii135),(136,eM),(137,ii137),(138,ii138),(139,uH),(140,ii140),(141,ii141),(142,ii142),(143,ii143),(144,ii144),(145,ii145),(146,ii146),(147,ii147),(148,ii148),(149,ii149),(150,ii150),(151,ii151),(152,ii152),(153,ii153),(154,ii154),(155,ii155),(156,ii156),(157,ii157),(158,ii158),(159,ii159),(160,ii160),(161,ii161),(162,ii162),(163,ii163),(164,ii164),(165,ii165),(166,lE)]
def orcI:Orc:=⟨197,fun a b=>bif decide (b=10)then(bif decide (a= -1)then some [45,49]else bif decide (a= -2)then some [45,50]else bif decide (a= -3)then some [45,51]else none)else none,6⟩
def tpI:TP U0.D:=tp0 orcI (sigL insL)
noncomputable def CTp(L n:Nat):TC0:=xR U0 tpI (tabL Go.Rf.cdP insL) L n
end Go.TV
