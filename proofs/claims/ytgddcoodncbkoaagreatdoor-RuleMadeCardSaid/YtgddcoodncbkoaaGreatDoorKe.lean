import Derived.Test.YtgddcoodncbkoaaGreatDoorKd
set_option linter.unusedVariables false
set_option linter.unusedSimpArgs false
set_option linter.constructorNameAsVariable false
set_option linter.defProp false
namespace Go.PI
open Go.AI
section
variable{P:Program}{J J' J'':Nu}{I I1 I':Ga}{H H':St}{S:PS}{A:Slots}
def bLn:OV->PV
 | .s l=> .str l
 | .t=> .v (.bool true)
def aOe(O:Gh)(f:FuncId)(args:List (PV×Bool)):Option OV:=
 bif Nat.beq f O.n then(match args with
 |[(.v (.int .i64 a),_),(.v (.int .i64 b),_)]=>(O.s a b).map .s
 |_=>none)else bif Nat.beq f O.m then(match args with
 |[]=>some .t
 |_=>none)else none
def aSn(O:Gh)(f:FuncId)(args:List (PV×Bool)):Bool:=
 bif Nat.beq f O.n then(match args with
 |[(.v (.int .i64 a),_),(.v (.int .i64 b),_)]=>true
 |_=>false)else bif Nat.beq f O.m then(match args with
 |[]=>true
 |_=>false)else true
variable(P) in
def DD(pc:hY)(L:Nat)(c:PC)(rs:List ResultVar)(args:List (PV×Bool))(p:PSt):Option (PV×Bool×PSt):=match fE P pc L c (Am args 0 .none) (a59 p)with
 |some (.exit _,_,_)=>none
 |some (_,S,p')=>match gT P S p' rs with
  |some vs=>some ((eN vs).1,(eN vs).2,settle p (eN vs).1 p')
  |none=>none
 |none=>none
variable(P) in
def pA(O:Gh)(G:aJm)(L:Nat):Nat->hY
 |0,_,_,_=>none
 |n+1,f,args,p=>match aOe O f args with
  |some s=>some (bLn s,false,p)
  |none=>bif !aSn O f args|| !BU P f args.length then none else match G f with
   |some (c,rs)=>DD P (pA O G L n) L c rs args p
   |none=>none
def R.int_inv{x:Int}{k:IntKind}{u:Value}(h:R J H (.v (.int k x)) u):u= .int k x:=by cases h;rfl
def aE5{O:Gh}{f:FuncId}{args:List (PV×Bool)}{us:Array Value}(r:RL J H (args.map (·.1)) us.toList)(h:aSn O f args=true):bDf O f us=(aOe O f args).map OV.v:=by
 unfold aSn at h;unfold bDf aOe;cases hf:Nat.beq f O.n with
 |false=>
  rw[hf,aJ]at h;simp only[aJ];cases hm:Nat.beq f O.m with
  |false=>rfl
  |true=>
   rw[hm,aI]at h;simp only[aI];split at h
   .obtain⟨hl,_⟩:=r
    match hu:us.toList,hl with
    |[],_=>rfl
   .cases h
 |true=>
  rw[hf,aI]at h;simp only[aI];split at h
  .rename_i a o1 b o2;obtain⟨hl,hr⟩:=r
   match hu:us.toList,hl,hr with
   |[u,v],_,hr=>
    have e1:=R.int_inv (hr 0 _ u rfl rfl);have e2:=R.int_inv (hr 1 _ v rfl rfl);rw[e1,e2]
  .cases h
def a3e{O:Gh}{f:FuncId}{args:List (PV×Bool)}{s:OV}(h:aOe O f args=some s):aSn O f args=true:=by
 unfold aOe at h;unfold aSn;cases hf:Nat.beq f O.n with
 |false=>
  rw[hf,aJ]at h;rw[aJ];cases hm:Nat.beq f O.m with
  |false=>rfl
  |true=>
   rw[hm,aI]at h;rw[aI];split at h
   .rfl
   .cases h
 |true=>
  rw[hf,aI]at h;rw[aI];split at h
  .rfl
  .cases h
def MN(P C:Program)(G:aJm):Prop:=
 ∀f c rs,G f=some (c,rs)->∃fn,C.funcs[f]?=some fn/\fn.body=some (eU c)/\rs=fn.results.toList/\qQ c/\fI P fn.ntmps (eU c)=true
def NY{pc:hY}{ac:FuncId->Array Value->St->Option (Value×St)}(ih:lL pc ac){L:Nat}{c:PC}{fn:Func}(h4:qQ c)(h5:fI P fn.ntmps (eU c)=true){args:List (PV×Bool)}{p p':PSt}{v:PV}{own:Bool}
    (h:DD P pc L c fn.results.toList args p=some (v,own,p')) {J:Nu} {I:Ga} {H:St} {us:Array Value} (M:Mem J I p H) (r:RL J H (args.map (·.1)) us.toList)
    (ho: ∀(i:Nat) (x:PV) (w:Value),args[i]?=some (x,true)->us.toList[i]?=some w->Ow J I H (.slot i) x w):
    ∃u H' J' I',fQ P fn (cV P ac L (eU c) (mW us.toList 0 .nil) H)=some (u,H')/\R J' H' v u/\(own=true->Ow J' I' H' .hand v u)/\Mem J' I' p' H'/\Adv J I p H J' I' p' H'/\∀j,j<H.next->H.get j=none->H'.get j=none:=by
 unfold DD at h;have M0:Mem J I (a59 p) H:=⟨M.le,M.lt,M.inj,M.live,M.get,M.free,M.ver⟩;have key: ∀fl S' p1,fE P pc L c (Am args 0 .none) (a59 p)=some (fl,S',p1)->(∀k,fl≠ .exit k)->∀vs,gT P S' p1 fn.results.toList=some vs->
      v=(eN vs).1->own=(eN vs).2->p'=settle p (eN vs).1 p1->
      ∃u H' J' I',fQ P fn (cV P ac L (eU c) (mW us.toList 0 .nil) H)=some (u,H')/\R J' H' v u/\(own=true->Ow J' I' H' .hand v u)/\Mem J' I' p' H'/\Adv J I p H J' I' p' H'/\∀j,j<H.next->H.get j=none->H'.get j=none:=by
  intro fl S' p1 he bp vs jv hv kg dw;obtain⟨A',H1,J1,I1,k1,k2,k3,k4,k5⟩:=aGp ih L fn.ntmps c h4 h5 J I _ _ (mW us.toList 0 .nil) H fl S' p1 M0 (FR.fill r ho) he;obtain⟨jg,I2,j1,j2,j3,j4⟩:=T9 k2 k3 jv;obtain⟨J3,m1,m2,m3,m4⟩:=aBF (own:=(eN vs).2) M (k2.g2 j4) (k4.trans (.g j4.out)) j2 j3;rw[k1];subst hv;subst kg;subst dw;refine⟨BV jg,H1,J3,I2,?_,m1,m2,m3,m4,k5⟩;cases fl with
  |normal=>simp only[fQ,j1];rfl
  |ret=>simp only[fQ,j1];rfl
  |exit k=>exact absurd rfl (bp k)
 split at h
 .cases h
 .rename_i fl S' p1 bp he;split at h
  .rename_i vs jv;simp only[aA,aB]at h;exact key fl S' p1 he (λk e=>bp k e) vs jv h.1.symm h.2.1.symm h.2.2.symm
  .cases h
 .cases h
def HO{C:Program}{O:Gh}{G:aJm}(hw:O.w=none)(hG:MN P C G)(L:Nat): ∀n,lL (pA P O G L n) (AK P C O L n):=by
 intro n;induction n with
 |zero=>intro g args p v own p' h;simp only[pA]at h;cases h
 |succ n ih=>
  intro g args p v own p' h J I H us M r ho;simp only[pA]at h;split at h
  .rename_i s hs;simp only[aA,aB]at h;obtain⟨rfl,rfl,rfl⟩:=h;refine⟨s.v,H,J,I,by simp only[AK,aE5 r (a3e hs),hs,aK],(match s with| .s l=>R.str ⟨l.toArray⟩| .t=>R.v _ rfl),λh=>(by cases h),M,Adv.refl J I p H,λj _ h=>h⟩
  rename_i dg;cases nq:aSn O g args with
  |false=>rw[nq]at h;cases h
  |true=>
  rw[nq]at h;cases kr:BU P g args.length with
  |false=>rw[kr]at h;cases h
  |true=>
  rw[kr]at h;simp only[bD,Bool.or_self,aJ]at h;have pd:us.size=args.length:=by have:=r.1;simpa using this.symm
  have me:bDf O g us=none:=by rw[aE5 r nq,dg];rfl
  have hnw:bII O g us H=none:=by unfold bII;rw[hw]
  split at h
  .rename_i c rs hg;obtain⟨fn,h1,h2,rfl,h4,h5⟩:=hG g c rs hg;simp only[AK,me,hnw,pd,kr,aI,h1,h2];exact NY ih h4 h5 h M r ho
  .cases h
end
end Go.PI
