import Derived.Test.YtojjcdpfjabepaaGreatDoorKh
set_option linter.unusedVariables false
set_option linter.unusedSimpArgs false
set_option linter.constructorNameAsVariable false
namespace Go.PI
open Go.AI
section
variable{P:Program}{ν ν' ν'':Nu}{γ γ1 γ':Ga}{σ σ':St}{S:PS}{A:Slots}
def ovP:OV→PV
 | .s l=> .str l
 | .t=> .v (.bool true)
def orP(O:Orc)(f:FuncId)(args:List (PV×Bool)):Option OV:=
 bif Nat.beq f O.n then(match args with
 |[(.v (.int .i64 a),_),(.v (.int .i64 b),_)]=>(O.s a b).map .s
 |_=>none)else bif Nat.beq f O.m then(match args with
 |[]=>some .t
 |_=>none)else none
def gdP(O:Orc)(f:FuncId)(args:List (PV×Bool)):Bool:=
 bif Nat.beq f O.n then(match args with
 |[(.v (.int .i64 a),_),(.v (.int .i64 b),_)]=>true
 |_=>false)else bif Nat.beq f O.m then(match args with
 |[]=>true
 |_=>false)else true
variable(P) in
def aAP(pc:eH)(L:Nat)(c:PC)(rs:List ResultVar)(args:List (PV×Bool))(p:PSt):Option (PV×Bool×PSt):=match cM P pc L c (vZ args 0 .none) (st0 p)with
 |some (.exit _,_,_)=>none
 |some (_,S,p')=>match cP P S p' rs with
  |some vs=>some ((bF vs).1,(bF vs).2,settle p (bF vs).1 p')
  |none=>none
 |none=>none
variable(P) in
def jT(O:Orc)(G:PTab)(L:Nat):Nat→eH
 |0,_,_,_=>none
 |n+1,f,args,p=>match orP O f args with
  |some s=>some (ovP s,false,p)
  |none=>bif !gdP O f args|| !aCp P f args.length then none else match G f with
   |some (c,rs)=>aAP P (jT O G L n) L c rs args p
   |none=>none
theorem R.int_inv{x:Int}{k:IntKind}{u:Value}(h:R ν σ (.v (.int k x)) u):u= .int k x:=by cases h;rfl
theorem orA_of{O:Orc}{f:FuncId}{args:List (PV×Bool)}{us:Array Value}(r:RL ν σ (args.map (·.1)) us.toList)(h:gdP O f args=true):orA O f us=(orP O f args).map OV.v:=by
 unfold gdP at h;unfold orA orP;cases hf:Nat.beq f O.n with
 |false=>
  rw[hf,cdf]at h;simp only[cdf];cases hm:Nat.beq f O.m with
  |false=>rfl
  |true=>
   rw[hm,cdt]at h;simp only[cdt];split at h
   ·obtain⟨hl,_⟩:=r
    match hu:us.toList,hl with
    |[],_=>rfl
   ·cases h
 |true=>
  rw[hf,cdt]at h;simp only[cdt];split at h
  ·rename_i a o1 b o2;obtain⟨hl,hr⟩:=r
   match hu:us.toList,hl,hr with
   |[u,v],_,hr=>
    have e1:=R.int_inv (hr 0 _ u rfl rfl);have e2:=R.int_inv (hr 1 _ v rfl rfl);rw[e1,e2]
  ·cases h
theorem gdP_of{O:Orc}{f:FuncId}{args:List (PV×Bool)}{s:OV}(h:orP O f args=some s):gdP O f args=true:=by
 unfold orP at h;unfold gdP;cases hf:Nat.beq f O.n with
 |false=>
  rw[hf,cdf]at h;rw[cdf];cases hm:Nat.beq f O.m with
  |false=>rfl
  |true=>
   rw[hm,cdt]at h;rw[cdt];split at h
   ·rfl
   ·cases h
 |true=>
  rw[hf,cdt]at h;rw[cdt];split at h
  ·rfl
  ·cases h
def aEQ(P C:Program)(G:PTab):Prop:=
 ∀f c rs,G f=some (c,rs)→∃fn,C.funcs[f]?=some fn∧fn.body=some (bZ c)∧rs=fn.results.toList∧sL c∧bV P fn.ntmps (bZ c)=true
theorem aCN{pc:eH}{ac:FuncId→Array Value→St→Option (Value×St)}(ih:fN pc ac){L:Nat}{c:PC}{fn:Func}(h4:sL c)(h5:bV P fn.ntmps (bZ c)=true){args:List (PV×Bool)}{p p':PSt}{v:PV}{own:Bool}
    (h:aAP P pc L c fn.results.toList args p=some (v,own,p')) {ν:Nu} {γ:Ga} {σ:St} {us:Array Value} (M:Mem ν γ p σ) (r:RL ν σ (args.map (·.1)) us.toList)
    (ho: ∀(i:Nat) (x:PV) (w:Value),args[i]?=some (x,true)→us.toList[i]?=some w→Ow ν γ σ (.slot i) x w):
    ∃u σ' ν' γ',bT P fn (aS P ac L (bZ c) (gF us.toList 0 .nil) σ)=some (u,σ')∧R ν' σ' v u∧(own=true→Ow ν' γ' σ' .hand v u)∧Mem ν' γ' p' σ'∧Adv ν γ p σ ν' γ' p' σ'∧∀j,j<σ.next→σ.get j=none→σ'.get j=none:=by
 unfold aAP at h;have M0:Mem ν γ (st0 p) σ:=⟨M.le,M.lt,M.inj,M.live,M.get,M.free,M.ver⟩;have key: ∀fl S' p1,cM P pc L c (vZ args 0 .none) (st0 p)=some (fl,S',p1)→(∀k,fl≠ .exit k)→∀vs,cP P S' p1 fn.results.toList=some vs→
      v=(bF vs).1→own=(bF vs).2→p'=settle p (bF vs).1 p1→
      ∃u σ' ν' γ',bT P fn (aS P ac L (bZ c) (gF us.toList 0 .nil) σ)=some (u,σ')∧R ν' σ' v u∧(own=true→Ow ν' γ' σ' .hand v u)∧Mem ν' γ' p' σ'∧Adv ν γ p σ ν' γ' p' σ'∧∀j,j<σ.next→σ.get j=none→σ'.get j=none:=by
  intro fl S' p1 he hne vs hvs hv hown hp';obtain⟨A',σ1,ν1,γ1,k1,k2,k3,k4,k5⟩:=execP_ok ih L fn.ntmps c h4 h5 ν γ _ _ (gF us.toList 0 .nil) σ fl S' p1 M0 (FR.fill r ho) he;obtain⟨us',γ2,j1,j2,j3,j4⟩:=aFw k2 k3 hvs;obtain⟨ν3,m1,m2,m3,m4⟩:=aGm (own:=(bF vs).2) M (k2.g2 j4) (k4.trans (.g j4.out)) j2 j3;rw[k1];subst hv;subst hown;subst hp';refine⟨rU us',σ1,ν3,γ2,?_,m1,m2,m3,m4,k5⟩;cases fl with
  |normal=>simp only[bT,j1];rfl
  |ret=>simp only[bT,j1];rfl
  |exit k=>exact absurd rfl (hne k)
 split at h
 ·cases h
 ·rename_i fl S' p1 hne he;split at h
  ·rename_i vs hvs;simp only[ojE,pjE]at h;exact key fl S' p1 he (fun k e=>hne k e) vs hvs h.1.symm h.2.1.symm h.2.2.symm
  ·cases h
 ·cases h
theorem zZ{C:Program}{O:Orc}{G:PTab}(hw:O.w=none)(hG:aEQ P C G)(L:Nat): ∀n,fN (jT P O G L n) (rR P C O L n):=by
 intro n;induction n with
 |zero=>intro g args p v own p' h;simp only[jT]at h;cases h
 |succ n ih=>
  intro g args p v own p' h ν γ σ us M r ho;simp only[jT]at h;split at h
  ·rename_i s hs;simp only[ojE,pjE]at h;obtain⟨rfl,rfl,rfl⟩:=h;refine⟨s.v,σ,ν,γ,by simp only[rR,orA_of r (gdP_of hs),hs,omS],(match s with| .s l=>R.str ⟨l.toArray⟩| .t=>R.v _ rfl),fun h=>(by cases h),M,Adv.refl ν γ p σ,fun j _ h=>h⟩
  rename_i hno;cases hgd:gdP O g args with
  |false=>rw[hgd]at h;cases h
  |true=>
  rw[hgd]at h;cases har:aCp P g args.length with
  |false=>rw[har]at h;cases h
  |true=>
  rw[har]at h;simp only[bnT,Bool.or_self,cdf]at h;have hus:us.size=args.length:=by have:=r.1;simpa using this.symm
  have hna:orA O g us=none:=by rw[orA_of r hgd,hno];rfl
  have hnw:orW O g us σ=none:=by unfold orW;rw[hw]
  split at h
  ·rename_i c rs hg;obtain⟨fn,h1,h2,rfl,h4,h5⟩:=hG g c rs hg;simp only[rR,hna,hnw,hus,har,cdt,h1,h2];exact aCN ih h4 h5 h M r ho
  ·cases h
end
end Go.PI
