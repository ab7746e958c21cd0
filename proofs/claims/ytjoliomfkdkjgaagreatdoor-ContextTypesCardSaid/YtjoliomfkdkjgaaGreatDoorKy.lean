import Derived.Test.YtjoliomfkdkjgaaGreatDoorKx
import Derived.Test.YtjoliomfkdkjgaaGreatDoorKv
set_option linter.unusedVariables false
set_option linter.unusedSimpArgs false
set_option linter.constructorNameAsVariable false
namespace Go.TV
open Go.AI Go.PI Go.Proofs
set_option maxRecDepth 20000
noncomputable def rd2(w:List UInt8)(x y u:G.T):Option Int:=
 if w=[60]then(if x=u∧y=zeT then some 20 else if x=zeT∧y=u then some 10 else none)
 else if w=[101,113,117,97,108]then(if x=u∧smp y=true then some (tof y.value)else if y=u∧smp x=true then some (tof x.value)else none)else none
noncomputable def aAM(a u:G.T):Option Int:=
 if a.kind=3∧a.name.package=[108,105,115,112]then
  (match a.args with
   |[x]=>(match aCx a.name.name with
    |some s=>if x=u then some s else none
    |none=>none)
   |[x,y]=>rd2 a.name.name x y u
   |_=>none)
 else none
noncomputable def abM(a u:G.T):Option Int:=
 if a=u then some 2015 else match aAM a u with
  |some s=>some s
  |none=>if isA a lB 1=true then(match a.args with
   |[x]=>if x=u then some 32 else(aAM x u).map fun s=>IntKind.i64.wrap ((BitVec.ofInt IntKind.i64.bits (2047:Int)&&& ~~~ BitVec.ofInt IntKind.i64.bits s).toNat:Int)
   |_=>none)else none
structure BaX(c:TC0)(B:Nat):Prop where
 z:c 88 [⟨.int .i64,(0:Int)⟩]=some [⟨.rc 2,zOj⟩]
 k:c 89 [⟨.rc 2,zOj⟩]=some [⟨.rc 3,zeT⟩]
 e: ∀x:G.T,tsz x≤B→∀y:G.T,c 60 [⟨.rc 3,x⟩,⟨.rc 3,y⟩]=some [⟨.bool,decide (x=y)⟩]
 s: ∀x:G.T,tsz x≤B→c 90 [⟨.rc 3,x⟩]=some [⟨.bool,smp x⟩]
 o: ∀o:G.O,osz o≤B→c 21 [⟨.rc 2,o⟩]=some [⟨.int .i64,tof o⟩]
 q: ∀x y:G.T,TeR (c 91 [⟨.rc 3,x⟩,⟨.rc 3,y⟩])
 r: ∀f:G.Y,IbO (c 87 [⟨.rc 1,f⟩]) (pK f)
theorem simX_ok{c:TC0}{L B:Nat}(h1: ∀o:G.O,c 59 [⟨.rc 2,o⟩]=some [⟨.bool,aA4 o⟩])(h2: ∀o:G.O,osz o≤B→∀p:G.O,c 85 [⟨.rc 2,o⟩,⟨.rc 2,p⟩]=some [⟨.bool,decide (o=p)⟩])
    (h3:c 118 []=some [⟨.rc 2,tOb⟩]) (h4:c 88 [⟨.int .i64,(0:Int)⟩]=some [⟨.rc 2,zOj⟩]) {x:G.T} (hx:osz x.value≤B):F90 c L x=some [⟨.bool,smp x⟩]:=by
 rw[F90,B90x0,smp];have k1: ∀b,J90x1 c L b=some [⟨.bool,b⟩]:=fun b=>rfl
 cases decide (x.kind=2)with
 |false=>rw[aC,k1,Bool.false_and]
 |true=>
  rw[aE,h1,bC,Bool.true_and];cases aA4 x.value with
  |true=>simp only[aE,k1,Bool.true_or]
  |false=>
   simp only[aC,Bool.false_or];rw[h3,aGQ];simp only[];rw[h2 x.value hx tOb,bC];cases decide (x.value=tOb)with
   |true=>simp only[aE,k1,Bool.true_or]
   |false=>
    simp only[aC,Bool.false_or];rw[h4,aGQ];simp only[];rw[h2 x.value hx zOj,bC,k1]
theorem len_of1{l:List G.T}(h: ¬(l.length:Int)=1): ∀x,l≠ [x]:=fun x e=>h (by rw[e];rfl)
theorem len_of2{l:List G.T}(h: ¬(l.length:Int)=2): ∀x y,l≠ [x,y]:=fun x y e=>h (by rw[e];rfl)
noncomputable def rdE(w:List UInt8)(u:G.T):List G.T→Option Int
 |[p,q]=>rd2 w p q u
 |_=>none
noncomputable def rdK(w:List UInt8)(u:G.T):Option Int→List G.T→Option Int
 |some s,[p]=>if p=u then some s else none
 |_,[p,q]=>rd2 w p q u
 |_,_=>none
theorem rdE_no{w:List UInt8}{u:G.T}: ∀{l:List G.T},(∀x y,l≠ [x,y])→rdE w u l=none
 |[],_=>rfl
 |[_],_=>rfl
 |[p,q],h=>(h p q rfl).elim
 |_::_::_::_,_=>rfl
theorem rdK_n{w:List UInt8}{u:G.T}: ∀l:List G.T,rdK w u none l=rdE w u l
 |[]=>rfl
 |[_]=>rfl
 |[_,_]=>rfl
 |_::_::_::_=>rfl
theorem rdK_s{w:List UInt8}{u:G.T}{i:Int}: ∀{l:List G.T},(∀x,l≠ [x])→rdK w u (some i) l=rdE w u l
 |[],_=>rfl
 |[p],h=>(h p rfl).elim
 |[_,_],_=>rfl
 |_::_::_::_,_=>rfl
noncomputable def rdB(b:Bool)(i:Int)(a u:G.T):Option Int:=if b=true then some i else rdE a.name.name u a.args
theorem basX_ok{c:TC0}{L B:Nat}(h:BaX c B){a u:G.T}(ha:tsz a≤B):ItO (F62 c L a u) (aAM a u):=by
 have k5: ∀x y,ItO (aJu c L x y) none:=fun x y=> .n
 have k6: ∀b x y,ItO (J62x6 c L b x y) (if b=true then some 10 else none):=fun b x y=>by
  rw[J62x6,B62x6];cases b with
  |true=>exact .s
  |false=>exact k5 _ _
 have k7: ∀b x y z w,osz y.value≤B→ItO (J62x7 c L b x y z w) (if b=true then some (tof y.value)else none):=fun b x y z w hy=>by
  rw[J62x7,B62x7];cases b with
  |false=>exact k5 _ _
  |true=>
   rw[aE,h.o y.value hy,jE];simp only[];obtain⟨t,e⟩:=h.q x y;rw[e,tL];exact .s
 have k4: ∀b x y z w v,tsz y≤B→tsz z≤B→ItO (J62x4 c L b x y z w v) (if b=true then some (tof y.value)else if y=x∧smp z=true then some (tof z.value)else none):=fun b x y z w v hy hz=>by
  have h1:=fB y;have h2:=fB z;rw[J62x4,B62x4];cases b with
  |true=>
   rw[aE,h.o y.value (by omega),jE]
   exact .s
  |false=>
   rw[aC,h.e y hy x,bC];by_cases e:y=x
   ·rw[decide_eq_true e];simp only[aE];rw[h.s z hz,bC];have:=k7 (smp z) y z w v (by omega)
    simpa [e]using this
   ·rw[decide_eq_false e];simp only[aC];have:=k7 false y z w v (by omega)
    simpa [e]using this
 have k3: ∀b x y z w v r,tsz x≤B→tsz z≤B→ItO (J62x3 c L b x y z w v r) (if b=true then some 20 else if x=y∧z=w then some 10 else none):=fun b x y z w v r hx hz=>by
  rw[J62x3,B62x3];cases b with
  |true=>exact .s
  |false=>
   rw[aC,h.e x hx y,bC];by_cases e:x=y
   ·rw[decide_eq_true e];simp only[aE];rw[h.e z hz w,bC];have:=k6 (decide (z=w)) v r;simpa [e]using this
   ·rw[decide_eq_false e];simp only[aC];have:=k6 false v r;simpa [e]using this
 have k2: ∀b i x y z,tsz y≤B→ItO (J62x2 c L b i x y z) (rdB b i y x):=fun b i x y z hy=>by
  rw[J62x2,B62x2,rdB];cases b with
  |true=>exact .s
  |false=>
   rw[aC];by_cases hl:(y.args.length:Int)=2
   ·rw[decide_eq_true hl];simp only[bnT,aC];obtain⟨p,q,e⟩:=len2 (l:=y.args) (by omega)
    have hs:=dV y;rw[e]at hs;simp only[dW]at hs;rw[e,show idx [p,q] (0:Int)=some p from rfl,show idx [p,q] (1:Int)=some q from rfl,dG,dG,h.z,aGQ]
    simp only[];rw[h.k,tL];simp only[rdE,rd2];by_cases n1:y.name.name=[60]
    ·rw[decide_eq_true n1,aE,h.e p (by omega) x,bC]
     by_cases e1:p=x
     ·rw[decide_eq_true e1];simp only[aE];rw[h.e q (by omega) zeT,bC]
      have:=k3 (decide (q=zeT)) p zeT q x y z (by omega) (by omega)
      simpa [n1,e1]using this
     ·rw[decide_eq_false e1];simp only[aC];have:=k3 false p zeT q x y z (by omega) (by omega)
      simpa [n1,e1]using this
    ·rw[decide_eq_false n1,aC];by_cases n2:y.name.name=[101,113,117,97,108]
     ·rw[decide_eq_true n2,aE,h.e p (by omega) x,bC]
      by_cases e1:p=x
      ·rw[decide_eq_true e1];simp only[aE];rw[h.s q (by omega),bC]
       have:=k4 (smp q) x q p y z (by omega) (by omega)
       simpa [n1,n2,e1]using this
      ·rw[decide_eq_false e1];simp only[aC];have:=k4 false x q p y z (by omega) (by omega)
       simpa [n1,n2,e1]using this
     ·rw[decide_eq_false n2,aC];have:=k5 y z;simpa [n1,n2]using this
   ·rw[decide_eq_false hl];simp only[Bool.not_false,aE];have hn:=len_of2 hl;simp only[Bool.false_eq_true,if_false];rw[rdE_no hn];exact .n
 have k1: ∀b x y z,tsz y≤B→ItO (aJv c L b x y z) (if b=true then none else rdK y.name.name x (pK y.name) y.args):=fun b x y z hy=>by
  rw[aJv,B62x1];cases b with
  |true=>exact .n
  |false=>
   rw[aC];obtain⟨i,q,e,g1,g2⟩:=h.r y.name;rw[e,eN];simp only[Bool.false_eq_true,if_false];cases q with
   |false=>
    simp only[aC];rw[g2 rfl,rdK_n];have:=k2 false i x y z hy;simpa [rdB]using this
   |true=>
    simp only[aE];rw[g1 rfl];by_cases hl:(y.args.length:Int)=1
    ·rw[decide_eq_true hl,aE];obtain⟨p,e⟩:=len1 (l:=y.args) (by omega)
     have hs:=dV y;rw[e]at hs;simp only[dW]at hs;rw[e,show idx [p] (0:Int)=some p from rfl,dG,h.e p (by omega) x,bC]
     have:=k2 (decide (p=x)) i x y z hy;simpa [rdB,rdK,rdE,e]using this
    ·rw[decide_eq_false hl,aC];have hn:=len_of1 hl;have:=k2 false i x y z hy;rw[rdK_s hn];simpa [rdB]using this
 have fin: ∀z,ItO (aJv c L (!decide (a.name.package=[108,105,115,112])) u a z) (if a.name.package=[108,105,115,112]then(match a.args with
      |[x]=>(match aCx a.name.name with
        |some s=>if x=u then some s else none
        |none=>none)
      |[x,y]=>rd2 a.name.name x y u
      |_=>none)else none):=fun z=>by
  have:=k1 (!decide (a.name.package=[108,105,115,112])) u a z ha;by_cases hp:a.name.package=[108,105,115,112]
  ·rw[decide_eq_true hp]at this⊢;rw[if_pos hp];simp only[bnT,Bool.false_eq_true,if_false,pK,if_pos hp]at this;refine cast (congrArg _ ?_) this
   match a.args with
   |[]=>cases aCx a.name.name<;>rfl
   |[x]=>cases aCx a.name.name<;>rfl
   |[x,y]=>cases aCx a.name.name<;>rfl
   |_::_::_::_=>cases aCx a.name.name<;>rfl
  ·rw[decide_eq_false hp]at this⊢;rw[if_neg hp];simpa using this
 rw[F62,B62x0,aAM];by_cases hk:a.kind=3
 ·rw[decide_eq_true hk];simp only[bnT,aC,hk,true_and];exact fin _
 ·rw[decide_eq_false hk];simp only[Bool.not_false,aE,hk,false_and,if_false];have:=k1 true u a (G.T.mk (0:Int) (G.Y.mk ([]:List UInt8) ([]:List UInt8)) (G.O.mk (0:Int) ([]:List UInt8) ([]:List UInt8) (G.Y.mk ([]:List UInt8) ([]:List UInt8)) ([]:List UInt8) ([]:List G.O)) ([]:List G.T)) ha;simpa using this
theorem aboX_ok{c:TC0}{L B:Nat}(h: ∀x:G.T,tsz x≤B→∀y:G.T,c 60 [⟨.rc 3,x⟩,⟨.rc 3,y⟩]=some [⟨.bool,decide (x=y)⟩])(h2: ∀x:G.T,tsz x≤B→∀y:G.T,ItO (c 62 [⟨.rc 3,x⟩,⟨.rc 3,y⟩]) (aAM x y))(h3: ∀x:G.T,TeR (c 61 [⟨.rc 3,x⟩]))
    (h4: ∀x:G.T,c 22 [⟨.rc 3,x⟩,⟨.str,lB⟩,⟨.int .i64,(1:Int)⟩]=some [⟨.bool,isA x lB 1⟩]) {a u:G.T} (ha:tsz a≤B):ItO (F24 c L a u) (abM a u):=by
 simp only[lB]at h4;rw[F24,B24x0,h a ha u,bC,abM];by_cases e0:a=u
 ·rw[decide_eq_true e0,if_pos e0];simp only[aE];obtain⟨t,e⟩:=h3 u;rw[e,tL];exact .s
 rw[decide_eq_false e0,if_neg e0];simp only[aC];obtain⟨i,t,b,e,g1,g2⟩:=h2 a ha u;rw[e,aAY];cases b with
 |true=>
  rw[g1 rfl];simp only[aE];obtain⟨t,e⟩:=h3 t;rw[e,tL];exact .s
 |false=>
  rw[g2 rfl];simp only[aC];rw[h4 a,bC];cases hn:isA a [110,111,116] 1 with
  |false=>
   have hn':isA a lB 1=false:=hn;simp only[Bool.not_false,aE,hn',Bool.false_eq_true,if_false];exact .n
  |true=>
   have hn':isA a lB 1=true:=hn;obtain⟨p,hp⟩:=len1 (gT (k:=1) hn');have hs:=dV a;rw[hp]at hs;simp only[dW]at hs;simp only[bnT,aC,hn',if_true];rw[hp,show idx [p] (0:Int)=some p from rfl,dG,h p (by omega) u,bC]
   by_cases e1:p=u
   ·rw[decide_eq_true e1];simp only[aE,if_pos e1];exact .s
   ·rw[decide_eq_false e1];simp only[aC,if_neg e1];rw[dG];obtain⟨i,t,b,e,g1,g2⟩:=h2 p (by omega) u
    rw[e,aAY];cases b with
    |true=>rw[g1 rfl];exact .s
    |false=>rw[g2 rfl];exact .n
end Go.TV
namespace Go.TV
open Go.AI Go.PI Go.Proofs
set_option maxRecDepth 20000
def nuB(o:G.O):Bool:=decide (o.kind=1)&&decide (o.num=[48])&&decide (o.den=[49])
def syB(o:G.O)(w:List UInt8):Bool:=decide (o.kind=2)&&decide (o.sym=⟨[108,105,115,112],w⟩)
def zeB(t:G.T):Bool:=decide (t.kind=2)&&nuB t.value
def smB(t:G.T):Bool:=decide (t.kind=2)&&(syB t.value [110,105,108]||syB t.value [116]||nuB t.value)
theorem nuB_eq{o:G.O}(h:osz o<1000000000):nuB o=decide (o=zOj):=by
 by_cases e:o=zOj
 ·subst e;rw[decide_eq_true rfl];rfl
 ·rw[decide_eq_false e];cases hb:nuB o with
  |false=>rfl
  |true=>
   have h1:=aGL h;cases o with|mk k n d s t l=>
   simp only[nuB,bjE,djE]at hb;obtain⟨⟨h2,h3⟩,h4⟩:=hb;have h2:k=1:=h2;have h3:n=[48]:=h3;have h4:d=[49]:=h4;subst h2;subst h3;subst h4;change okO 1 [48] [49] s t l=true at h1;simp[okO]at h1;obtain⟨⟨rfl,rfl⟩,rfl⟩:=h1;exact(e rfl).elim
theorem syB_eq{o:G.O}{w:List UInt8}(h:osz o<1000000000):syB o w=decide (o=⟨2,[],[],⟨[108,105,115,112],w⟩,[],[]⟩):=by
 by_cases e:o=⟨2,[],[],⟨[108,105,115,112],w⟩,[],[]⟩
 ·subst e;rw[decide_eq_true rfl,syB];show(decide ((2:Int)=2)&&decide ((⟨[108,105,115,112],w⟩:G.Y)=⟨[108,105,115,112],w⟩))=true;simp
 ·rw[decide_eq_false e];cases hb:syB o w with
  |false=>rfl
  |true=>
   have h1:=aGL h;cases o with|mk k n d s t l=>
   simp only[syB,bjE,djE]at hb;obtain⟨h2,h3⟩:=hb;have h2:k=2:=h2;have h3:s=⟨[108,105,115,112],w⟩:=h3;subst h2;subst h3;change okO 2 n d ⟨[108,105,115,112],w⟩ t l=true at h1;simp[okO]at h1;obtain⟨⟨⟨rfl,rfl⟩,rfl⟩,rfl⟩:=h1;exact(e rfl).elim
theorem zeB_eq{t:G.T}(h:tsz t<1000000000):zeB t=decide (t=zeT):=by
 have hv:=fB t;rw[zeB,nuB_eq (by omega)]
 by_cases e:t=zeT
 ·subst e;show(decide ((2:Int)=2)&&decide (zOj=zOj))=_;simp
 ·rw[decide_eq_false e];cases hb:decide (t.kind=2)&&decide (t.value=zOj)with
  |false=>rfl
  |true=>
   have h1:=aAW h;cases t with|mk k n v l=>
   simp only[bjE,djE]at hb;obtain⟨h2,h3⟩:=hb;have h2:k=2:=h2;have h3:v=zOj:=h3;subst h2;subst h3;change okTm 2 n zOj l=true at h1;simp[okTm]at h1;obtain⟨⟨rfl,rfl⟩,_⟩:=h1;exact(e rfl).elim
theorem smB_eq{t:G.T}(h:tsz t<1000000000):smB t=smp t:=by
 have hv:=fB t;rw[smB,smp,nuB_eq (by omega),syB_eq (w:=[116]) (by omega)];rfl
noncomputable def rds(a u:G.T):List Int:=
 (match pK a.name,a.args with|some s,[x]=>if x=u then [s]else []|_,_=>[])++
 (match a.args with
  |[x,y]=>(if isA a [60] 2=true then(if zeB y=true∧x=u then [20]else [])++(if zeB x=true∧y=u then [10]else [])else [])++
   (if isA a [101,113,117,97,108] 2=true then(if smB y=true∧x=u then [tof y.value]else [])++(if smB x=true∧y=u then [tof x.value]else [])else [])
  |_=>[])
inductive RdR(u:G.T):List Int→Option Int→Prop
 |n:RdR u [] none
 |s (i:Int):RdR u [i] (some i)
 |t (i:Int):RdR u [i,i] (some i)
 |z:u=zeT→RdR u [20,10] (some 20)
theorem rds_ok{a u:G.T}(hk:a.kind=3)(ha:tsz a<1000000000):RdR u (rds a u) (aAM a u):=by
 cases a with|mk k n v l=>
 cases n with|mk p w=>
 have hk:k=3:=hk;subst hk;simp only[rds,aAM,pK,G.T.kind,G.T.name,G.T.args,G.Y.package,G.Y.name,true_and];by_cases hp:p=[108,105,115,112]
 ·subst hp;simp only[if_true]
  match l with
  |[]=>cases aCx w<;>exact .n
  |[x]=>
   cases aCx w with
   |none=>exact .n
   |some s=>
    by_cases hx:x=u
    ·simp only[hx,if_true,apN];exact .s _
    ·simp only[hx,if_false,apN];exact .n
  |[x,y]=>
   simp only[tsz,dW]at ha;have hl:isA ⟨3,⟨[108,105,115,112],w⟩,v,[x,y]⟩ [60] 2=decide (w=[60]):=by
    by_cases e:w=[60]
    ·subst e;rfl
    ·simp[isA,G.T.kind,G.T.name,G.T.args,e,bM]
   have he:isA ⟨3,⟨[108,105,115,112],w⟩,v,[x,y]⟩ [101,113,117,97,108] 2=decide (w=[101,113,117,97,108]):=by
    by_cases e:w=[101,113,117,97,108]
    ·subst e;rfl
    ·simp[isA,G.T.kind,G.T.name,G.T.args,e,bM]
   simp only[hl,he,zeB_eq (t:=x) (by omega),zeB_eq (t:=y) (by omega),smB_eq (t:=x) (by omega),smB_eq (t:=y) (by omega),rd2,djE]
   have h0':(match aCx w,[x,y]with|some s,[x]=>if x=u then [s]else []|_,_=>[])=([]:List Int):=by cases aCx w<;>rfl
   rw[h0',nlA];by_cases e1:w=[60]
   ·have e2: ¬w=[101,113,117,97,108]:=by rw[e1];decide
    simp only[e1,if_true];rw[if_neg (show¬([60]:List UInt8)=[101,113,117,97,108] by decide),apN]
    by_cases x1:x=u
    ·by_cases y1:y=zeT
     ·by_cases x2:x=zeT
      ·by_cases y2:y=u
       ·rw[if_pos ⟨y1,x1⟩,if_pos ⟨x2,y2⟩,if_pos ⟨x1,y1⟩];exact .z (by rw[←x1,x2])
       ·exact(y2 (by rw[y1,←x2,x1])).elim
      ·simp only[x1,y1,x2,and_self,if_true,false_and,if_false,apN];have: ¬u=zeT:=by rw[←x1];exact x2
       simp only[this,false_and,if_false,apN];exact .s _
     ·by_cases x2:x=zeT
      ·by_cases y2:y=u
       ·exact(y1 (by rw[y2,←x1,x2])).elim
       ·have: ¬(x=u∧y=zeT):=fun h=>y1 h.2
        rw[if_neg (fun h=>y1 h.1),if_neg (fun h=>y2 h.2),if_neg this,if_neg (fun h=>y2 h.2)];exact .n
      ·rw[if_neg (fun h=>y1 h.1),if_neg (fun h=>x2 h.1),if_neg (fun h=>y1 h.2),if_neg (fun h=>x2 h.1)];exact .n
    ·rw[if_neg (fun h=>x1 h.2),if_neg (fun h:x=u∧y=zeT=>x1 h.1)]
     by_cases x2:x=zeT∧y=u
     ·rw[if_pos x2,if_pos x2];exact .s _
     ·rw[if_neg x2,if_neg x2];exact .n
   ·rw[if_neg e1,if_neg e1,nlA];by_cases e2:w=[101,113,117,97,108]
    ·rw[if_pos e2,if_pos e2];by_cases c1:x=u∧smp y=true
     ·rw[if_pos c1,if_pos ⟨c1.2,c1.1⟩];by_cases c2:y=u∧smp x=true
      ·rw[if_pos ⟨c2.2,c2.1⟩];have:x=y:=by rw[c1.1,c2.1]
       rw[this];exact .t _
      ·rw[if_neg (fun h=>c2 ⟨h.2,h.1⟩)];exact .s _
     ·rw[if_neg c1,if_neg (fun h=>c1 ⟨h.2,h.1⟩)]
      by_cases c2:y=u∧smp x=true
      ·rw[if_pos c2,if_pos ⟨c2.2,c2.1⟩];exact .s _
      ·rw[if_neg c2,if_neg (fun h=>c2 ⟨h.2,h.1⟩)];exact .n
    ·rw[if_neg e2,if_neg e2];exact .n
  |_::_::_::_=>cases aCx w<;>exact .n
 ·simp only[hp,if_false];have hi: ∀s,isA ⟨3,⟨p,w⟩,v,l⟩ s 2=false:=fun s=>by simp[isA,bM,hp,G.T.kind,G.T.name,G.T.args]
  match l with
  |[]=>exact .n
  |[_]=>exact .n
  |[x,y]=>simp only[hi,Bool.false_eq_true,if_false,apN];exact .n
  |_::_::_::_=>exact .n
theorem uY{a u:G.T}(h:tsz u≥tsz a):rds a u=[]:=by
 have hs:=dV a;have hlt: ∀x∈a.args,¬x=u:=fun x hx e=>by
  have:=cY hx;subst e;omega
 unfold rds;generalize a.args=l at hlt
 match l,hlt with
 |[],_=>cases pK a.name<;>rfl
 |[x],hlt=>cases pK a.name<;>simp[hlt x (mhE ..)]
 |[x,y],hlt=>
  have h1:=hlt x (mhE ..);have h2:=hlt y (mtE _ (mhE ..));cases pK a.name<;>simp[h1,h2]
 |_::_::_::_,_=>cases pK a.name<;>rfl
end Go.TV
namespace Go.TV
open Go.AI Go.PI Go.Proofs
set_option maxRecDepth 20000
def band(b i:Int):Int:=IntKind.i64.wrap ((BitVec.ofInt IntKind.i64.bits b&&&BitVec.ofInt IntKind.i64.bits i).toNat:Int)
def wN(x:BitVec 64):Int:=IntKind.i64.wrap (x.toNat:Int)
def oN(s:Int):BitVec 64:=BitVec.ofInt 64 s
theorem wrap_nat{k:Nat}(h:k<18446744073709551616):IntKind.i64.wrap (k:Int)=if k<9223372036854775808 then(k:Int)else(k:Int)-18446744073709551616:=by
 unfold IntKind.wrap;simp[IntKind.bits,IntKind.signed];split<;>split<;>omega
theorem oN_wN(x:BitVec 64):oN (wN x)=x:=by
 apply BitVec.eq_of_toNat_eq;have h:=x.isLt;rw[oN,wN,wrap_nat h,BitVec.toNat_ofInt];split<;>omega
theorem lW(b i:Int):oN (band b i)=oN b&&&oN i:=oN_wN _
def andn(s i:Int):Int:=IntKind.i64.wrap ((BitVec.ofInt IntKind.i64.bits s&&& ~~~ BitVec.ofInt IntKind.i64.bits i).toNat:Int)
end Go.TV
namespace Go.TV
open Go.AI Go.PI Go.Proofs
set_option maxRecDepth 20000
theorem aBV(s i:Int):oN (andn s i)=oN s&&& ~~~ oN i:=oN_wN _
theorem jZ{b x y:Int}(h:oN x=oN y):band b x=band b y:=by
 show wN (oN b&&&oN x)=wN (oN b&&&oN y);rw[h]
theorem wM(b x y:Int):band (band b x) y=band b (band x y):=by
 show wN (oN (band b x)&&&oN y)=wN (oN b&&&oN (band x y));rw[lW,lW,BitVec.and_assoc]
theorem uF(b x y:Int):band (band b x) y=band (band b y) x:=by
 rw[wM,wM];exact jZ (by rw[lW,lW,BitVec.and_comm])
structure InT(u:G.T)(b:Int):Prop where
 a:band b 2047=b
 z:u=zeT→band b 1=b
theorem InT.band{u:G.T}{b:Int}(h:InT u b)(i:Int):InT u (band b i):=⟨by rw[uF,h.a],fun e=>by rw[uF,h.z e]⟩
theorem aID{u:G.T}{b i:Int}(h:InT u b):Go.TV.band b (Go.TV.band 2047 i)=Go.TV.band b i:=by rw[←wM,h.a]
noncomputable def litS(a u:G.T):Int:=(rds a u).foldl band (if a=u then 2015 else 2047)
noncomputable def aEK(a u:G.T):Bool:=decide (a=u)|| !(rds a u).isEmpty
noncomputable def woS(a u:G.T):Int:=(rds a u).foldl andn (if a=u then 32 else 2047)
noncomputable def stR(u:G.T)(b:Int)(a:G.T):Int:=
 bif isA a lB 1 then(match a.args with|[x]=>band (bif aEK a u then band b (litS a u)else b) (woS x u)|_=>0)else bif aEK a u then band b (litS a u)else b
noncomputable def stP(u:G.T)(b:Int)(a:G.T):Int:=match abM a u with
 |some s=>band b s
 |none=>b
theorem uZ{a u:G.T}(hk: ¬a.kind=3)(h:tsz a<1000000000):rds a u=[]∧aAM a u=none:=by
 have h1:=aAW h;cases a with|mk k n v l=>
 have hk: ¬k=3:=hk;change okTm k n v l=true at h1;have hl:l=[]:=by
  simp[okTm,hk]at h1;rcases h1 with h1|h1
  ·exact h1.2
  ·exact h1.1.2
 subst hl;refine⟨?_,?_⟩
 ·unfold rds;show(match pK n,([]:List G.T)with|some s,[x]=>if x=u then [s]else []|_,_=>[])++ []=([]:List Int)
  cases pK n<;>rfl
 ·unfold aAM;rw[if_neg (fun e=>hk e.1)]
theorem rdsn{a u:G.T}(h:isA a lB 1=true):rds a u=[]∧aAM a u=none:=by
 obtain⟨x,hx⟩:=len1 (gT (k:=1) h);have hn:a.name=⟨bM,lB⟩:=by simp only[isA,bjE,djE]at h;exact h.1.2
 cases a with|mk k n v l=>
 have hx:l=[x]:=hx;have hn:n=⟨bM,lB⟩:=hn;subst hx;subst hn;refine⟨rfl,?_⟩;unfold aAM;split
 ·rfl
 ·rfl
theorem wo_eq{x u:G.T}{b:Int}(hb:InT u b)(hx:tsz x<1000000000):band b (woS x u)=if x=u then band b 32 else match aAM x u with
    |some s=>band b (andn 2047 s)
    |none=>b:=by
 unfold woS;by_cases e:x=u
 ·rw[if_pos e,if_pos e,uY (by rw[e];exact nlR _)];rfl
 ·rw[if_neg e,if_neg e];by_cases hk:x.kind=3
  ·have:=rds_ok (u:=u) hk hx;generalize rds x u=l,aAM x u=o at this;cases this with
   |n=>exact hb.a
   |s i=>rfl
   |t i=>exact jZ (by simp only[List.foldl,aBV,BitVec.and_assoc,BitVec.and_self])
   |z hz=>
    have h1:=hb.z hz;show band b (andn (andn 2047 20) 10)=band b (andn 2047 20);rw[←h1,wM,wM];exact jZ (by rw[lW,lW,aBV,aBV];decide)
  ·obtain⟨h1,h2⟩:=uZ (u:=u) hk hx;rw[h1,h2];exact hb.a
theorem step_eq{a u:G.T}{b:Int}(hb:InT u b)(ha:tsz a<1000000000):stR u b a=stP u b a:=by
 have hs:=dV a;unfold stR stP abM;by_cases e:a=u
 ·have h1:rds a u=[]:=uY (by rw[e];exact nlR _)
  have h2:aEK a u=true:=by rw[aEK,decide_eq_true e];rfl
  have h3:litS a u=2015:=by rw[litS,h1,if_pos e];rfl
  rw[if_pos e,h2,h3,cdt];cases hn:isA a lB 1 with
  |false=>rfl
  |true=>
   obtain⟨x,hx⟩:=len1 (gT (k:=1) hn);rw[hx]at hs;simp only[dW]at hs;rw[hx,cdt];show band (band b 2015) (woS x u)=band b 2015;have hxu: ¬x=u:=fun h=>by rw[h,←e]at hs;omega
   have h4:woS x u=2047:=by rw[woS,uY (by rw[←e];omega),if_neg hxu];rfl
   rw[h4,(hb.band 2015).a]
 ·rw[if_neg e];cases hn:isA a lB 1 with
  |true=>
   obtain⟨x,hx⟩:=len1 (gT (k:=1) hn);rw[hx]at hs;simp only[dW]at hs;obtain⟨h1,h2⟩:=rdsn (u:=u) hn;have h3:aEK a u=false:=by rw[aEK,decide_eq_false e,h1];rfl
   rw[hx,cdt,h3,cdf,h2];show band b (woS x u)=_;rw[wo_eq hb (by omega)]
   simp only[if_true];by_cases hxu:x=u
   ·rw[if_pos hxu,if_pos hxu]
   ·rw[if_neg hxu,if_neg hxu];cases aAM x u with
    |none=>rfl
    |some s=>rfl
  |false=>
   rw[cdf];simp only[Bool.false_eq_true,if_false];by_cases hk:a.kind=3
   ·have:=rds_ok (u:=u) hk ha;unfold aEK litS;rw[decide_eq_false e,if_neg e];generalize rds a u=l,aAM a u=o at this;cases this with
    |n=>rfl
    |s i=>exact aID hb
    |t i=>
     show band b (band (band 2047 i) i)=band b i;rw[←wM,aID hb,wM];exact jZ (by rw[lW,BitVec.and_self])
    |z hz=>
     show band b (band (band 2047 20) 10)=band b 20;have e1:=wM b 1 (band (band 2047 20) 10);have e2:=wM b 1 20;rw[hb.z hz]at e1 e2;rw[e1,e2];exact jZ (by decide)
   ·obtain⟨h1,h2⟩:=uZ (u:=u) hk ha;have h3:aEK a u=false:=by rw[aEK,decide_eq_false e,h1];rfl
    rw[h3,h2];rfl
theorem InT.step{u a:G.T}{b:Int}(h:InT u b):InT u (stP u b a):=by
 unfold stP;split
 ·exact h.band _
 ·exact h
end Go.TV
namespace Go.TV
open Go.AI Go.PI Go.Proofs
theorem EqO_loop{c:TC0}{L:Nat}{a b:G.O}(hl:a.pair.length=b.pair.length)(hb:a.pair.length<1000000000): ∀(l r:List G.O) (k m:Nat),a.pair.drop k=l→b.pair.drop k=r→l.length<m→
    (∀x,x∈l→∀y,c 96 (oo x y)=some (bb (decide (x=y))))→aBY c L m (k:Int) a b=some (bb (decide (l=r))):=by
 intro l;induction l with
 |nil=>
  intro r k m h1 h2 h3 _;obtain⟨m,rfl⟩: ∃m',m=m'+1:=⟨m-1,by simp at h3;omega⟩
  have e1:=bI h1;have e2:r=[]:=by rw[←h2];exact List.drop_eq_nil_of_le (by omega)
  have e3:decide ((k:Int)<(a.pair.length:Int))=false:=by simp;omega
  rw[aBY,B96x2,e3,e2];simp only[aC,decide_true];rfl
 |cons x l ih=>
  intro r k m h1 h2 h3 hc;obtain⟨m,rfl⟩: ∃m',m=m'+1:=⟨m-1,by simp at h3;omega⟩
  obtain⟨a1,a2,a3⟩:=bG h1;cases r with
  |nil=>have:=bI h2;omega
  |cons y r=>
   obtain⟨b1,b2,b3⟩:=bG h2;have e3:decide ((k:Int)<(a.pair.length:Int))=true:=by simp;omega
   have hxy:c 96 [yR 2 x,yR 2 y]=some [yB (decide (x=y))]:=hc x (mhE ..) y;rw[aBY,B96x2,e3,aE,aR,aR,a1,b1,dG,dG,hxy,bC,dX (by omega)]
   by_cases e:x=y
   ·subst e;simp only[decide_true,bnT,aC];rw[ih r (k+1) m a3 b3 (by simp at h3;omega) fun z hz=>hc z (mtE _ hz)]
    simp
   ·simp only[e,decide_false,Bool.not_false,aE];simp[e,bb]
theorem Equal_ok: ∀(a:G.O),wfO a→∀(b:G.O) (L n:Nat),osz a≤L→osz a≤n→CTp L n 96 (oo a b)=some (bb (decide (a=b))):=by
 intro a;induction a using aGP with
 |h k nu d s t l ih=>
  intro hw b L n hL hn;simp only[wfO,osz]at hw hL hn;have hlen:=aAT l;obtain⟨n,rfl⟩: ∃n',n=n'+1:=⟨n-1,by omega⟩
  cases b with|mk k' nu' d' s' t' l'=>
  show CTp L (n+1) 96 [yR 2 _,yR 2 _]=_;rw[c96];simp only[F96,B96x0,J96x1,B96x1,G.O.kind,G.O.num,G.O.den,G.O.sym,G.O.text,G.O.pair,G.O.mk.injEq];by_cases e1:k=k'
  ·by_cases e2:nu=nu'
   ·by_cases e3:d=d'
    ·by_cases e4:s=s'
     ·by_cases e5:t=t'
      ·by_cases e6:(l.length:Int)=(l'.length:Int)
       ·simp only[e1,e2,e3,e4,e5,e6,decide_true,bnT,aC,true_and];have:=EqO_loop (c:=CTp L n) (L:=L) (a:=⟨k,nu,d,s,t,l⟩) (b:=⟨k',nu',d',s',t',l'⟩) (by show l.length=l'.length;omega) (by show l.length<_;omega) l l' 0 L rfl rfl (by omega) fun x hx y=>ih x hx (by have:=fL hx;simp only[wfO];omega) y L n (by have:=fL hx;omega) (by have:=fL hx;omega)
        subst e1 e2 e3 e4 e5;exact this
       ·have e7: ¬l=l':=fun h=>e6 (by rw[h])
        simp[e1,e2,e3,e4,e5,e6,e7,cnd,bb]
      ·simp[e1,e2,e3,e4,e5,cnd,bb]
     ·simp[e1,e2,e3,e4,cnd,bb]
    ·simp[e1,e2,e3,cnd,bb]
   ·simp[e1,e2,cnd,bb]
  ·simp[e1,cnd,bb]
end Go.TV
namespace Go.TV
open Go.AI Go.PI Go.Proofs
theorem EqA_loop{c:TC0}{L:Nat}{a b:List G.T}(hl:a.length=b.length)(hb:a.length<1000000000): ∀(l r:List G.T) (k m:Nat),a.drop k=l→b.drop k=r→l.length<m→
    (∀x,x∈l→∀y,c 70 (tt2 x y)=some (bb (decide (x=y))))→aBX c L m a b (k:Int)=some (bb (decide (l=r))):=by
 intro l;induction l with
 |nil=>
  intro r k m h1 h2 h3 _;obtain⟨m,rfl⟩: ∃m',m=m'+1:=⟨m-1,by simp at h3;omega⟩
  have e1:=bI h1;have e2:r=[]:=by rw[←h2];exact List.drop_eq_nil_of_le (by omega)
  have e3:decide ((k:Int)<(a.length:Int))=false:=by simp;omega
  rw[aBX,B97x1,e3,e2];simp only[aC,decide_true];rfl
 |cons x l ih=>
  intro r k m h1 h2 h3 hc;obtain⟨m,rfl⟩: ∃m',m=m'+1:=⟨m-1,by simp at h3;omega⟩
  obtain⟨a1,a2,a3⟩:=bG h1;cases r with
  |nil=>have:=bI h2;omega
  |cons y r=>
   obtain⟨b1,b2,b3⟩:=bG h2;have e3:decide ((k:Int)<(a.length:Int))=true:=by simp;omega
   have hxy:c 70 [yR 3 x,yR 3 y]=some [yB (decide (x=y))]:=hc x (mhE ..) y;rw[aBX,B97x1,e3,aE,aR,aR,a1,b1,dG,dG,hxy,bC,dX (by omega)]
   by_cases e:x=y
   ·subst e;simp only[decide_true,bnT,aC];rw[ih r (k+1) m a3 b3 (by simp at h3;omega) fun z hz=>hc z (mtE _ hz)]
    simp
   ·simp only[e,decide_false,Bool.not_false,aE];simp[e,bb]
theorem EqAll_of{a b:List G.T}{L n:Nat}(hw:a.length<1000000000)(hL:a.length<L)(hx: ∀x,x∈a→∀y,CTp L n 70 (tt2 x y)=some (bb (decide (x=y)))):
    CTp L (n+1) 97 (ll2 a b)=some (bb (decide (a=b))):=by
 show CTp L (n+1) 97 [yS 3 _,yS 3 _]=_;rw[c97];simp only[F97,B97x0];by_cases e6:(a.length:Int)=(b.length:Int)
 ·simp only[e6,decide_true,bnT,aC];exact EqA_loop (c:=CTp L n) (L:=L) (by omega) hw a b 0 L rfl rfl hL hx
 ·have e7: ¬a=b:=fun h=>e6 (by rw[h])
  simp[e6,e7,cnd,bb]
theorem EqT_ok: ∀(a:G.T),wfT a→∀(b:G.T) (L n:Nat),tsz a≤L→tsz a≤n→CTp L n 70 (tt2 a b)=some (bb (decide (a=b))):=by
 intro a;induction a using qJ with
 |h k nm v l ih=>
  intro hw b L n hL hn;simp only[wfT,tsz]at hw hL hn;have hlen:=lE l;obtain⟨n,rfl⟩: ∃n',n=n'+2:=⟨n-2,by omega⟩
  cases b with|mk k' nm' v' l'=>
  show CTp L (n+1+1) 70 [yR 3 _,yR 3 _]=_;rw[c70];have hv:CTp L (n+1) 96 [yR 2 v,yR 2 v']=some [yB (decide (v=v'))]:=Equal_ok v (by simp only[wfO];omega) v' L (n+1) (by omega) (by omega)
  have hl:CTp L (n+1) 97 [yS 3 l,yS 3 l']=some [yB (decide (l=l'))]:=EqAll_of (by omega) (by omega) fun x hx y=>ih x hx (by have:=cY hx;simp only[wfT];omega) y L n (by have:=cY hx;omega) (by have:=cY hx;omega)
  simp only[F70,B70x0,J70x1,B70x1,G.T.kind,G.T.name,G.T.value,G.T.args,G.T.mk.injEq,hv,hl,bC];by_cases e1:k=k'
  ·by_cases e2:nm=nm'
   ·by_cases e3:v=v'
    ·simp[e1,e2,e3,cnd,bb]
    ·simp[e1,e2,e3,cnd,bb]
   ·simp[e1,e2,cnd,bb]
  ·simp[e1,cnd,bb]
end Go.TV
namespace Go.TV
open Go.AI Go.PI Go.Proofs
theorem Lisp_ok{s:List UInt8}{L n:Nat}:CTp L (n+1) 35 [yT s]=some [yR 1 (⟨bM,s⟩:G.Y)]:=by
 rw[c35];rfl
theorem Is_ok{t:G.T}{s:List UInt8}{k:Int}{L n:Nat}:CTp L (n+2) 29 (tsi t s k)=some (bb (isA t s k)):=by
 show CTp L (n+1+1) 29 [yR 3 _,yT _,yI _]=_;rw[c29,F29,B29x0,Lisp_ok,obL_y];simp only[J29x1,B29x1,isA];by_cases e1:t.kind=3
 ·by_cases e2:t.name=⟨bM,s⟩
  ·simp[e1,e2,cnd,bb]
  ·simp[e1,e2,cnd,bb]
 ·simp[e1,cnd,bb]
end Go.TV
namespace Go.TV
open Go.AI Go.PI Go.Proofs
set_option maxRecDepth 20000
theorem nuR_ok{o:G.O}{L n:Nat}:CTp L (n+1) 72 [⟨.rc 2,o⟩,⟨.str,([48]:List UInt8)⟩]=some [⟨.bool,nuB o⟩]:=by
 rw[c72,F72,B72x0,nuB];cases decide (o.kind=1)with
 |false=>rfl
 |true=>
  cases decide (o.num=[48])with
  |false=>rfl
  |true=>rw[aE,aE,Bool.true_and,Bool.true_and];rfl
theorem syR_ok{o:G.O}{w:List UInt8}{L n:Nat}:CTp L (n+1) 73 [⟨.rc 2,o⟩,⟨.str,w⟩]=some [⟨.bool,syB o w⟩]:=by
 rw[c73,F73,B73x0,syB];cases decide (o.kind=2)with
 |false=>rfl
 |true=>rw[aE,Bool.true_and];rfl
theorem aAF(s:G.Y)(w:List UInt8):decide (s=⟨[108,105,115,112],w⟩)=(decide (s.package=[108,105,115,112])&&decide (s.name=w)):=by
 cases s with|mk p q=>
 by_cases h1:p=[108,105,115,112]
 ·by_cases h2:q=w
  ·simp[h1,h2,G.Y.package,G.Y.name]
  ·simp[h1,h2,G.Y.package,G.Y.name]
 ·simp[h1,G.Y.package,G.Y.name]
theorem OfR_loop{c:TC0}{L:Nat}: ∀(m:Nat) (o:G.O),osz o<m→aB3 c L m o=some [⟨.int .i64,if aA4 (gQ (osz o) o)=true then(512:Int)else 1024⟩]:=by
 intro m;induction m with
 |zero=>intro o h;omega
 |succ m ih=>
  intro o h;have stop:gQ (osz o) o=o→aJs c L (aB3 c L m) false o=some [⟨.int .i64,if aA4 (gQ (osz o) o)=true then(512:Int)else 1024⟩]:=fun e=>by
   rw[aJs,B67x6,aC,e,aA4,aAF];have k7: ∀b,J67x7 c L b=some [⟨.int .i64,if b=true then(512:Int)else 1024⟩]:=fun b=>by cases b<;>rfl
   cases decide (o.kind=2)with
   |false=>rw[aC,k7,Bool.false_and]
   |true=>
    cases decide (o.sym.package=[108,105,115,112])with
    |false=>rw[aE,aC,k7,Bool.true_and,Bool.false_and]
    |true=>rw[aE,aE,k7,Bool.true_and,Bool.true_and]
  obtain⟨q,hq⟩: ∃q,osz o=q+1:=⟨osz o-1,by cases o;simp only[osz];omega⟩
  rw[aB3,B67x3];by_cases hk:o.kind=4
  ·rw[decide_eq_true hk,aE];by_cases h2:(o.pair.length:Int)=2
   ·rw[decide_eq_true h2,aJs,B67x6,aE];cases o with|mk k nu de sy tx l=>
    match l,h2 with
    |[x,y],_=>
     simp only[osz,pZ]at h hq;have hy:=ih y (by omega)
     have hk':k=4:=hk;have e:gQ (osz ⟨k,nu,de,sy,tx,[x,y]⟩) ⟨k,nu,de,sy,tx,[x,y]⟩=gQ (osz y) y:=by
      have e0:osz ⟨k,nu,de,sy,tx,[x,y]⟩=q+1:=by simp only[osz,pZ];omega
      rw[e0];simp only[gQ,hk',if_true];exact aC9 _ _ y (nlR _) (by omega)
     rw[e,←hy];rfl
   ·rw[decide_eq_false h2];refine stop ?_;rw[hq];simp only[gQ,hk,if_true];split
    ·rename_i x y e;rw[e]at h2;exact(h2 rfl).elim
    ·rfl
  ·rw[decide_eq_false hk,aC];exact stop (by rw[hq];simp only[gQ,hk,if_false])
theorem OfR_ok{o:G.O}{L n:Nat}(h:osz o<L)(hw:osz o<1000000000)(h0: ¬o.kind=0):CTp L (n+1) 67 [⟨.rc 2,o⟩]=some [⟨.int .i64,tof o⟩]:=by
 rw[c67,F67,B67x0,tof];by_cases k1:o.kind=1
 ·have key: ∀b:Bool,J67x1 (CTp L n) L b o=some [⟨.int .i64,if o.num=[48]then 1 else if o.den=[49]then(if b=true then 4 else 2)else if b=true then 16 else 8⟩]:=fun b=>by
   rw[J67x1,B67x1];by_cases n0:o.num=[48]
   ·rw[decide_eq_true n0,aE,if_pos n0]
   ·rw[decide_eq_false n0,aC,if_neg n0];by_cases d1:o.den=[49]
    ·rw[decide_eq_true d1,aE,if_pos d1,J67x4,B67x4,decide_eq_true d1];cases b<;>rfl
    ·rw[decide_eq_false d1,aC,if_neg d1,J67x4,B67x4,decide_eq_false d1];cases b<;>rfl
  rw[decide_eq_true k1,aE,if_pos k1];cases hn:o.num with
  |nil=>
   have:=key false;rw[hn]at this;exact this
  |cons x l=>
   have:=key (decide ((x.toNat:Int)=45));rw[hn]at this;rw[show decide ((0:Int)<((x::l:List UInt8).length:Int))=true from by simp,aE,show idx (x::l) (0:Int)=some x from rfl,dG]
   exact this
 ·rw[decide_eq_false k1,aC,if_neg k1];by_cases k2:o.kind=2
  ·rw[decide_eq_true k2,aE,if_pos k2];have key: ∀b:Bool,J67x2 (CTp L n) L b o=some [⟨.int .i64,if b=true then 32 else if o.sym=⟨[108,105,115,112],[116]⟩then 64 else 128⟩]:=fun b=>by
    rw[J67x2,B67x2];cases b with
    |true=>rfl
    |false=>
     have hd:=aAF o.sym [116];rw[aC];have k5: ∀b,aJt (CTp L n) L b=some [⟨.int .i64,if b=true then(64:Int)else 128⟩]:=fun b=>by cases b<;>rfl
     have h9:cnd (decide (o.sym.package=[108,105,115,112])) (aJt (CTp L n) L (decide (o.sym.name=[116]))) (aJt (CTp L n) L false)=some [⟨.int .i64,if(decide (o.sym.package=[108,105,115,112])&&decide (o.sym.name=[116]))=true then(64:Int)else 128⟩]:=by
      cases decide (o.sym.package=[108,105,115,112])with
      |false=>rw[aC,k5,Bool.false_and]
      |true=>rw[aE,k5,Bool.true_and]
     rw[h9,←hd];simp only[djE,Bool.false_eq_true,if_false]
   rw[aA4,decide_eq_true k2,Bool.true_and,aAF];cases decide (o.sym.package=[108,105,115,112])with
   |false=>rw[aC,key,Bool.false_and]
   |true=>rw[aE,key,Bool.true_and]
  ·rw[decide_eq_false k2,aC,if_neg k2];by_cases k3:o.kind=3
   ·rw[decide_eq_true k3,if_pos k3];rfl
   ·rw[decide_eq_false k3,aC,if_neg k3];have k4:o.kind=4:=by
     have:=aGL hw;simp[okO,h0,k1,k2,k3]at this;exact this.1.1.1.1.1
    rw[if_pos k4];exact OfR_loop L o h
theorem rcgR_ok{f:G.Y}{L n:Nat}(h0: ¬f.name=[110,111,116]):IbO (CTp L (n+1) 71 [⟨.rc 1,f⟩]) (pK f):=by
 rw[c71,F71,B71x0,pK];by_cases hp:f.package=[108,105,115,112]
 ·rw[decide_eq_true hp,if_pos hp,aCx];simp only[bnT,aC];have go: ∀{w v:List UInt8} {i:Int} {x:Rt} {o:Option Int},IbO x o→IbO (cnd (decide (w=v)) (some [⟨.int .i64,i⟩,⟨.bool,true⟩]) x) (if w=v then some i else o):=by
   intro w v i x o h;by_cases e:w=v
   ·rw[decide_eq_true e,if_pos e,aE];exact .s
   ·rw[decide_eq_false e,if_neg e,aC];exact h
  refine go (go (go (go (go ?_))));rw[decide_eq_false h0,aC];exact .n
 ·rw[decide_eq_false hp,if_neg hp];exact .n
theorem rcgR_any{f:G.Y}{L n:Nat}:IbR (CTp L (n+1) 71 [⟨.rc 1,f⟩]):=by
 rw[c71,F71,B71x0]
 repeat refine cnd_p (fun _=>⟨_,_,rfl⟩) fun _=>?_
 exact⟨_,_,rfl⟩
structure RfX(c:TC0)(B:Nat):Prop where
 e: ∀x:G.T,tsz x≤B→∀y:G.T,c 70 [⟨.rc 3,x⟩,⟨.rc 3,y⟩]=some [⟨.bool,decide (x=y)⟩]
 i: ∀(x:G.T) (s:List UInt8) (k:Int),c 29 [⟨.rc 3,x⟩,⟨.str,s⟩,⟨.int .i64,k⟩]=some [⟨.bool,isA x s k⟩]
 n: ∀o:G.O,c 72 [⟨.rc 2,o⟩,⟨.str,([48]:List UInt8)⟩]=some [⟨.bool,nuB o⟩]
 s: ∀(o:G.O) (w:List UInt8),c 73 [⟨.rc 2,o⟩,⟨.str,w⟩]=some [⟨.bool,syB o w⟩]
 o: ∀o:G.O,osz o≤B→¬o.kind=0→c 67 [⟨.rc 2,o⟩]=some [⟨.int .i64,tof o⟩]
 r: ∀f:G.Y,¬f.name=[110,111,116]→IbO (c 71 [⟨.rc 1,f⟩]) (pK f)
 r2: ∀f:G.Y,IbR (c 71 [⟨.rc 1,f⟩])
theorem vO{y:G.T}(h:tsz y<1000000000)(hk:y.kind=2): ¬y.value.kind=0:=by
 have h1:=aAW h;intro e;simp[okTm,hk,e]at h1
def reX(s:Int)(q:Bool)(l:List Int):Rt:=some [⟨.int .i64,(l).foldl band s⟩,⟨.bool,q|| !(l).isEmpty⟩]
theorem reX_a(s:Int)(q:Bool)(i:Int)(l:List Int):reX (band s i) true l=reX s q ([i]++l):=by
 simp[reX]
section
variable{c:TC0}{B L:Nat}(h:RfX c B)(hB:B<1000000000)
include h hB
theorem X10{f:Int→Int→Bool→G.T→G.T→Rt}{y a u:G.T}{k s:Int}{q:Bool}{l:List Int}(hy:tsz y≤B)(b:Bool)(hb:b=true→smB y=true)(hf: ∀s q,f (IntKind.i64.wrap (k+1)) s q a u=reX s q l):
    aAp c (L+3) f b k s q y a u=reX s q ((if b=true then [tof y.value]else [])++l):=by
 rw[aAp,aJW];cases b with
 |false=>rw[aC,aD9,aEd,hf];rfl
 |true=>
  have hv:=fB y;have hk:y.kind=2:=by have:=hb rfl;simp only[smB,bjE,djE]at this;exact this.1
  rw[aE,h.o y.value (by omega) (vO (by omega) hk),jE]
  simp only[];rw[aD9,aEd,hf,if_pos trivial];exact reX_a s q (tof y.value) l
theorem Xrd{m:Nat}{x y v w a u:G.T}{k s:Int}{q:Bool}{l:List Int}(hk:k=0∨k=1)(hv:idx a.args k=some v)(hw:idx a.args (IntKind.i64.wrap (1-k))=some w)(hvs:tsz v≤B)(hws:tsz w≤B)
    (hf: ∀s q,rW c (L+3) m (IntKind.i64.wrap (k+1)) s q a u=reX s q l):rW c (L+3) (m+1) k s q a u=reX s q ((if smB w=true∧v=u then [tof w.value]else [])++l):=by
 have fin: ∀b:Bool,(b=true↔(smB w=true∧v=u))→aAp c (L+3) (rW c (L+3) m) b k s q w a u=reX s q ((if smB w=true∧v=u then [tof w.value]else [])++l):=fun b hb=>by
  rw[X10 h hB hws b (fun e=>(hb.1 e).1) hf]
  cases b with
  |true=>rw[if_pos rfl,if_pos (hb.1 rfl)]
  |false=>rw[if_neg (by decide),if_neg (fun e=>by have:=hb.2 e;cases this)]
 have hlt:decide (k<(2:Int))=true:=by simp;omega
 rw[rW,B28x7,hlt,aE,hv,dG,hw,dG];by_cases hw2:w.kind=2
 ·rw[decide_eq_true hw2,aE,h.s,bC];have e0:smB w=(syB w.value [110,105,108]||syB w.value [116]||nuB w.value):=by rw[smB,decide_eq_true hw2,Bool.true_and]
  cases e1:syB w.value [110,105,108]with
  |true=>
   simp only[aE];rw[h.e v hvs u,bC];exact fin _ (by rw[e0,e1];simp)
  |false=>
   simp only[aC];rw[h.s,bC];cases e2:syB w.value [116]with
   |true=>
    simp only[aE];rw[h.e v hvs u,bC];exact fin _ (by rw[e0,e1,e2];simp)
   |false=>
    simp only[aC];rw[h.n,bC];cases e3:nuB w.value with
    |true=>
     simp only[aE];rw[h.e v hvs u,bC];exact fin _ (by rw[e0,e1,e2,e3];simp)
    |false=>
     simp only[aC];exact fin _ (by rw[e0,e1,e2,e3];simp)
 ·rw[decide_eq_false hw2,aC];exact fin _ (by rw[smB,decide_eq_false hw2];simp)
noncomputable def eqX(a u:G.T):List Int:=match a.args with
 |[x,y]=>if isA a [101,113,117,97,108] 2=true then(if smB y=true∧x=u then [tof y.value]else [])++(if smB x=true∧y=u then [tof x.value]else [])else []
 |_=>[]
noncomputable def ltX(a u:G.T):List Int:=match a.args with
 |[x,y]=>if isA a [60] 2=true then(if zeB y=true∧x=u then [20]else [])++(if zeB x=true∧y=u then [10]else [])else []
 |_=>[]
noncomputable def rcX(a u:G.T):List Int:=match pK a.name,a.args with
 |some s,[x]=>if x=u then [s]else []
 |_,_=>[]
theorem X5{a u:G.T}(ha:tsz a≤B)(s:Int)(q:Bool):aJB c (L+3) s q a u=reX s q (eqX a u):=by
 rw[aJB,B28x5,h.i,bC];have k8: ∀s q,aJA c (L+3) s q=reX s q []:=fun s q=>by simp[reX,aJA,B28x8]
 cases he:isA a [101,113,117,97,108] 2 with
 |false=>
  have:eqX a u=[]:=by unfold eqX;split<;>simp[he]
  rw[aC,this];exact k8 _ _
 |true=>
  obtain⟨x,y,hp⟩:=len2 (gT (k:=2) he);have hs:=dV a;rw[hp]at hs;simp only[dW]at hs;have h2: ∀s q,rW c (L+3) (L+1) (IntKind.i64.wrap (1+1)) s q a u=reX s q []:=fun s q=>by
   rw[rW,B28x7,show decide (IntKind.i64.wrap (1+1)<(2:Int))=false from rfl,aC];exact k8 _ _
  have h1: ∀s q,rW c (L+3) (L+2) (IntKind.i64.wrap (0+1)) s q a u=reX s q ((if smB x=true∧y=u then [tof x.value]else [])++ []):=fun s q=>
   Xrd h hB (v:=y) (w:=x) (x:=x) (y:=y) (.inr rfl) (by rw[hp];rfl) (by rw[hp];rfl) (by omega) (by omega) h2
  have h0:=Xrd h hB (m:=L+2) (s:=s) (q:=q) (k:=0) (v:=x) (w:=y) (x:=x) (y:=y) (.inl rfl) (by rw[hp];rfl) (by rw[hp];rfl) (by omega) (by omega) h1
  rw[aE,show eqX a u=(if smB y=true∧x=u then [tof y.value]else [])++((if smB x=true∧y=u then [tof x.value]else [])++ []) from by unfold eqX;rw[hp];simp only[he,if_true,apN]]
  exact h0
theorem X9{a u:G.T}(ha:tsz a≤B)(b:Bool)(s:Int)(q:Bool):J28x9 c (L+3) b s q a u=reX s q ((if b=true then [10]else [])++eqX a u):=by
 rw[J28x9,B28x9];cases b with
 |true=>rw[aE,X5 h hB ha];exact reX_a s q 10 _
 |false=>rw[aC,X5 h hB ha];rfl
theorem X6{x y a u:G.T}(ha:tsz a≤B)(hy:tsz y≤B)(s:Int)(q:Bool):J28x6 c (L+3) s q x y a u=reX s q ((if zeB x=true∧y=u then [10]else [])++eqX a u):=by
 rw[J28x6,B28x6,zeB];cases decide (x.kind=2)with
 |false=>rw[aC,X9 h hB ha,Bool.false_and,if_neg (by simp),if_neg (by simp)]
 |true=>
  rw[aE,h.n,bC,Bool.true_and];cases nuB x.value with
  |false=>simp only[aC];rw[X9 h hB ha,if_neg (by simp),if_neg (by simp)]
  |true=>
   simp only[aE];rw[h.e y hy u,bC,X9 h hB ha];by_cases e:y=u
   ·rw[decide_eq_true e,if_pos rfl,if_pos ⟨trivial,e⟩]
   ·rw[decide_eq_false e,if_neg (by simp),if_neg (fun k=>e k.2)]
theorem X4{x y a u:G.T}(ha:tsz a≤B)(hy:tsz y≤B)(b:Bool)(s:Int)(q:Bool):aJC c (L+3) b s q x y a u=reX s q ((if b=true then [20]else [])++((if zeB x=true∧y=u then [10]else [])++eqX a u)):=by
 rw[aJC,B28x4];cases b with
 |true=>rw[aE,X6 h hB ha hy];exact reX_a s q 20 _
 |false=>rw[aC,X6 h hB ha hy];rfl
theorem X3{a u:G.T}(ha:tsz a≤B)(s:Int)(q:Bool):J28x3 c (L+3) s q a u=reX s q (ltX a u++eqX a u):=by
 rw[J28x3,B28x3,h.i,bC];cases he:isA a [60] 2 with
 |false=>
  have:ltX a u=[]:=by unfold ltX;split<;>simp[he]
  rw[aC,this,X5 h hB ha];rfl
 |true=>
  obtain⟨x,y,hp⟩:=len2 (gT (k:=2) he);have hs:=dV a;rw[hp]at hs;simp only[dW]at hs;have e0:ltX a u=(if zeB y=true∧x=u then [20]else [])++(if zeB x=true∧y=u then [10]else []):=by unfold ltX;rw[hp];simp only[he,if_true]
  rw[aE,hp,show idx [x,y] (0:Int)=some x from rfl,show idx [x,y] (1:Int)=some y from rfl,dG,dG,e0,apA]
  have fin: ∀b:Bool,(b=true↔(zeB y=true∧x=u))→aJC c (L+3) b s q x y a u=reX s q ((if zeB y=true∧x=u then [20]else [])++((if zeB x=true∧y=u then [10]else [])++eqX a u)):=fun b hb=>by
   rw[X4 h hB ha (by omega)]
   cases b with
   |true=>rw[if_pos rfl,if_pos (hb.1 rfl)]
   |false=>
    have hn: ¬(zeB y=true∧x=u):=fun e=>by have:=hb.2 e;cases this
    rw[if_neg (by decide: ¬(false=true)),if_neg hn]
  by_cases hk:y.kind=2
  ·rw[decide_eq_true hk,aE,h.n,bC];have e1:zeB y=nuB y.value:=by rw[zeB,decide_eq_true hk,Bool.true_and]
   cases e2:nuB y.value with
   |true=>
    simp only[aE];rw[h.e x (by omega) u,bC]
    exact fin _ (by rw[e1,e2];simp)
   |false=>simp only[aC];exact fin _ (by rw[e1,e2];simp)
  ·rw[decide_eq_false hk,aC];exact fin _ (by rw[zeB,decide_eq_false hk];simp)
theorem X1{a u:G.T}(ha:tsz a≤B)(hk:a.kind=3)(s:Int)(q:Bool):aFh c (L+3) s q a u=reX s q (rcX a u++(ltX a u++eqX a u)):=by
 have k2: ∀b i,aJD c (L+3) b i s q a u=reX s q ((if b=true then [i]else [])++(ltX a u++eqX a u)):=fun b i=>by
  rw[aJD,B28x2];cases b with
  |true=>rw[aE,X3 h hB ha];exact reX_a s q i _
  |false=>rw[aC,X3 h hB ha];rfl
 rw[aFh,B28x1,decide_eq_true hk];simp only[bnT,aC];have none_:pK a.name=none→aJD c (L+3) false 0 s q a u=reX s q (rcX a u++(ltX a u++eqX a u)):=fun e=>by
  have:rcX a u=[]:=by unfold rcX;rw[e]
  rw[k2,this];rfl
 by_cases hn:a.name.name=[110,111,116]
 ·have h0:pK a.name=none:=by
   unfold pK;split
   ·rw[hn];rfl
   ·rfl
  have e0:rcX a u=[]:=by unfold rcX;rw[h0]
  obtain⟨i,b,e⟩:=h.r2 a.name;rw[e,eN,decide_eq_true hn];cases b with
  |true=>simp only[aE,bnT,aC];rw[k2,e0];rfl
  |false=>simp only[aC];rw[k2,e0];rfl
 ·obtain⟨i,b,e,g1,g2⟩:=h.r a.name hn;rw[e,eN,decide_eq_false hn];cases b with
  |false=>
   have e0:rcX a u=[]:=by unfold rcX;rw[g2 rfl]
   simp only[aC];rw[k2,e0];rfl
  |true=>
   simp only[aE,Bool.not_false];by_cases hl:(a.args.length:Int)=1
   ·obtain⟨x,hx⟩:=len1 (l:=a.args) (by omega)
    have hs:=dV a;rw[hx]at hs;simp only[dW]at hs;rw[decide_eq_true hl,aE,hx,show idx [x] (0:Int)=some x from rfl,dG,h.e x (by omega) u,bC,k2]
    have e0:rcX a u=if x=u then [i]else []:=by unfold rcX;rw[g1 rfl,hx]
    rw[e0];by_cases e:x=u
    ·rw[decide_eq_true e,if_pos rfl,if_pos e]
    ·rw[decide_eq_false e,if_neg (by decide),if_neg e]
   ·have e0:rcX a u=[]:=by
     unfold rcX;rw[g1 rfl]
     match hh:a.args with
     |[]=>rfl
     |[x]=>rw[hh]at hl;exact(hl rfl).elim
     |_::_::_=>rfl
    rw[decide_eq_false hl,aC,k2,e0];rfl
end
theorem rds_X(a u:G.T):rcX a u++(ltX a u++eqX a u)=rds a u:=by
 unfold rds rcX ltX eqX;congr 1
 match a.args with
 |[]=>rfl
 |[_]=>rfl
 |[_,_]=>rfl
 |_::_::_::_=>rfl
def reY(s:Int)(l:List Int):Rt:=some [⟨.int .i64,(l).foldl andn s⟩]
theorem reY_a(s i:Int)(l:List Int):reY (andn s i) l=reY s ([i]++l):=rfl
section
variable{c:TC0}{B L:Nat}(h:RfX c B)(hB:B<1000000000)
include h hB
theorem Y10{f:Int→Int→G.T→G.T→Rt}{y a u:G.T}{k s:Int}{l:List Int}(hy:tsz y≤B)(b:Bool)(hb:b=true→smB y=true)(hf: ∀s,f (IntKind.i64.wrap (k+1)) s a u=reY s l):
    aAo c (L+3) f b k s y a u=reY s ((if b=true then [tof y.value]else [])++l):=by
 rw[aAo,aJV];cases b with
 |false=>rw[aC,aD8,aEc,hf];rfl
 |true=>
  have hv:=fB y;have hk:y.kind=2:=by have:=hb rfl;simp only[smB,bjE,djE]at this;exact this.1
  rw[aE,h.o y.value (by omega) (vO (by omega) hk),jE]
  simp only[];rw[aD8,aEc,hf,if_pos trivial];exact reY_a s (tof y.value) l
theorem Yrd{m:Nat}{x y v w a u:G.T}{k s:Int}{l:List Int}(hk:k=0∨k=1)(hv:idx a.args k=some v)(hw:idx a.args (IntKind.i64.wrap (1-k))=some w)(hvs:tsz v≤B)(hws:tsz w≤B)
    (hf: ∀s,rV c (L+3) m (IntKind.i64.wrap (k+1)) s a u=reY s l):rV c (L+3) (m+1) k s a u=reY s ((if smB w=true∧v=u then [tof w.value]else [])++l):=by
 have fin: ∀b:Bool,(b=true↔(smB w=true∧v=u))→aAo c (L+3) (rV c (L+3) m) b k s w a u=reY s ((if smB w=true∧v=u then [tof w.value]else [])++l):=fun b hb=>by
  rw[Y10 h hB hws b (fun e=>(hb.1 e).1) hf]
  cases b with
  |true=>rw[if_pos rfl,if_pos (hb.1 rfl)]
  |false=>rw[if_neg (by decide),if_neg (fun e=>by have:=hb.2 e;cases this)]
 have hlt:decide (k<(2:Int))=true:=by simp;omega
 rw[rV,B30x7,hlt,aE,hv,dG,hw,dG];by_cases hw2:w.kind=2
 ·rw[decide_eq_true hw2,aE,h.s,bC];have e0:smB w=(syB w.value [110,105,108]||syB w.value [116]||nuB w.value):=by rw[smB,decide_eq_true hw2,Bool.true_and]
  cases e1:syB w.value [110,105,108]with
  |true=>
   simp only[aE];rw[h.e v hvs u,bC];exact fin _ (by rw[e0,e1];simp)
  |false=>
   simp only[aC];rw[h.s,bC];cases e2:syB w.value [116]with
   |true=>
    simp only[aE];rw[h.e v hvs u,bC];exact fin _ (by rw[e0,e1,e2];simp)
   |false=>
    simp only[aC];rw[h.n,bC];cases e3:nuB w.value with
    |true=>
     simp only[aE];rw[h.e v hvs u,bC];exact fin _ (by rw[e0,e1,e2,e3];simp)
    |false=>
     simp only[aC];exact fin _ (by rw[e0,e1,e2,e3];simp)
 ·rw[decide_eq_false hw2,aC];exact fin _ (by rw[smB,decide_eq_false hw2];simp)
noncomputable def eqY(a u:G.T):List Int:=match a.args with
 |[x,y]=>if isA a [101,113,117,97,108] 2=true then(if smB y=true∧x=u then [tof y.value]else [])++(if smB x=true∧y=u then [tof x.value]else [])else []
 |_=>[]
noncomputable def ltY(a u:G.T):List Int:=match a.args with
 |[x,y]=>if isA a [60] 2=true then(if zeB y=true∧x=u then [20]else [])++(if zeB x=true∧y=u then [10]else [])else []
 |_=>[]
noncomputable def rcY(a u:G.T):List Int:=match pK a.name,a.args with
 |some s,[x]=>if x=u then [s]else []
 |_,_=>[]
theorem Y5{a u:G.T}(ha:tsz a≤B)(s:Int):aJx c (L+3) s a u=reY s (eqY a u):=by
 rw[aJx,B30x5,h.i,bC];have k8: ∀s,aJw c (L+3) s=reY s []:=fun s  =>by simp[reY,aJw,B30x8]
 cases he:isA a [101,113,117,97,108] 2 with
 |false=>
  have:eqY a u=[]:=by unfold eqY;split<;>simp[he]
  rw[aC,this];exact k8 _
 |true=>
  obtain⟨x,y,hp⟩:=len2 (gT (k:=2) he);have hs:=dV a;rw[hp]at hs;simp only[dW]at hs;have h2: ∀s,rV c (L+3) (L+1) (IntKind.i64.wrap (1+1)) s a u=reY s []:=fun s  =>by
   rw[rV,B30x7,show decide (IntKind.i64.wrap (1+1)<(2:Int))=false from rfl,aC];exact k8 _
  have h1: ∀s,rV c (L+3) (L+2) (IntKind.i64.wrap (0+1)) s a u=reY s ((if smB x=true∧y=u then [tof x.value]else [])++ []):=fun s  =>
   Yrd h hB (v:=y) (w:=x) (x:=x) (y:=y) (.inr rfl) (by rw[hp];rfl) (by rw[hp];rfl) (by omega) (by omega) h2
  have h0:=Yrd h hB (m:=L+2) (s:=s) (k:=0) (v:=x) (w:=y) (x:=x) (y:=y) (.inl rfl) (by rw[hp];rfl) (by rw[hp];rfl) (by omega) (by omega) h1
  rw[aE,show eqY a u=(if smB y=true∧x=u then [tof y.value]else [])++((if smB x=true∧y=u then [tof x.value]else [])++ []) from by unfold eqY;rw[hp];simp only[he,if_true,apN]]
  exact h0
theorem Y9{a u:G.T}(ha:tsz a≤B)(b:Bool)(s:Int):J30x9 c (L+3) b s a u=reY s ((if b=true then [10]else [])++eqY a u):=by
 rw[J30x9,B30x9];cases b with
 |true=>rw[aE,Y5 h hB ha];exact reY_a s 10 _
 |false=>rw[aC,Y5 h hB ha];rfl
theorem Y6{x y a u:G.T}(ha:tsz a≤B)(hy:tsz y≤B)(s:Int):J30x6 c (L+3) s x y a u=reY s ((if zeB x=true∧y=u then [10]else [])++eqY a u):=by
 rw[J30x6,B30x6,zeB];cases decide (x.kind=2)with
 |false=>rw[aC,Y9 h hB ha,Bool.false_and,if_neg (by simp),if_neg (by simp)]
 |true=>
  rw[aE,h.n,bC,Bool.true_and];cases nuB x.value with
  |false=>simp only[aC];rw[Y9 h hB ha,if_neg (by simp),if_neg (by simp)]
  |true=>
   simp only[aE];rw[h.e y hy u,bC,Y9 h hB ha];by_cases e:y=u
   ·rw[decide_eq_true e,if_pos rfl,if_pos ⟨trivial,e⟩]
   ·rw[decide_eq_false e,if_neg (by simp),if_neg (fun k=>e k.2)]
theorem Y4{x y a u:G.T}(ha:tsz a≤B)(hy:tsz y≤B)(b:Bool)(s:Int):aJy c (L+3) b s x y a u=reY s ((if b=true then [20]else [])++((if zeB x=true∧y=u then [10]else [])++eqY a u)):=by
 rw[aJy,B30x4];cases b with
 |true=>rw[aE,Y6 h hB ha hy];exact reY_a s 20 _
 |false=>rw[aC,Y6 h hB ha hy];rfl
theorem Y3{a u:G.T}(ha:tsz a≤B)(s:Int):J30x3 c (L+3) s a u=reY s (ltY a u++eqY a u):=by
 rw[J30x3,B30x3,h.i,bC];cases he:isA a [60] 2 with
 |false=>
  have:ltY a u=[]:=by unfold ltY;split<;>simp[he]
  rw[aC,this,Y5 h hB ha];rfl
 |true=>
  obtain⟨x,y,hp⟩:=len2 (gT (k:=2) he);have hs:=dV a;rw[hp]at hs;simp only[dW]at hs;have e0:ltY a u=(if zeB y=true∧x=u then [20]else [])++(if zeB x=true∧y=u then [10]else []):=by unfold ltY;rw[hp];simp only[he,if_true]
  rw[aE,hp,show idx [x,y] (0:Int)=some x from rfl,show idx [x,y] (1:Int)=some y from rfl,dG,dG,e0,apA]
  have fin: ∀b:Bool,(b=true↔(zeB y=true∧x=u))→aJy c (L+3) b s x y a u=reY s ((if zeB y=true∧x=u then [20]else [])++((if zeB x=true∧y=u then [10]else [])++eqY a u)):=fun b hb=>by
   rw[Y4 h hB ha (by omega)]
   cases b with
   |true=>rw[if_pos rfl,if_pos (hb.1 rfl)]
   |false=>
    have hn: ¬(zeB y=true∧x=u):=fun e=>by have:=hb.2 e;cases this
    rw[if_neg (by decide: ¬(false=true)),if_neg hn]
  by_cases hk:y.kind=2
  ·rw[decide_eq_true hk,aE,h.n,bC];have e1:zeB y=nuB y.value:=by rw[zeB,decide_eq_true hk,Bool.true_and]
   cases e2:nuB y.value with
   |true=>
    simp only[aE];rw[h.e x (by omega) u,bC]
    exact fin _ (by rw[e1,e2];simp)
   |false=>simp only[aC];exact fin _ (by rw[e1,e2];simp)
  ·rw[decide_eq_false hk,aC];exact fin _ (by rw[zeB,decide_eq_false hk];simp)
theorem Y1{a u:G.T}(ha:tsz a≤B)(hk:a.kind=3)(s:Int):aFg c (L+3) s a u=reY s (rcY a u++(ltY a u++eqY a u)):=by
 have k2: ∀b i,aJz c (L+3) b i s a u=reY s ((if b=true then [i]else [])++(ltY a u++eqY a u)):=fun b i=>by
  rw[aJz,B30x2];cases b with
  |true=>rw[aE,Y3 h hB ha];exact reY_a s i _
  |false=>rw[aC,Y3 h hB ha];rfl
 rw[aFg,B30x1,decide_eq_true hk];simp only[bnT,aC];have none_:pK a.name=none→aJz c (L+3) false 0 s a u=reY s (rcY a u++(ltY a u++eqY a u)):=fun e=>by
  have:rcY a u=[]:=by unfold rcY;rw[e]
  rw[k2,this];rfl
 by_cases hn:a.name.name=[110,111,116]
 ·have h0:pK a.name=none:=by
   unfold pK;split
   ·rw[hn];rfl
   ·rfl
  have e0:rcY a u=[]:=by unfold rcY;rw[h0]
  obtain⟨i,b,e⟩:=h.r2 a.name;rw[e,eN,decide_eq_true hn];cases b with
  |true=>simp only[aE,bnT,aC];rw[k2,e0];rfl
  |false=>simp only[aC];rw[k2,e0];rfl
 ·obtain⟨i,b,e,g1,g2⟩:=h.r a.name hn;rw[e,eN,decide_eq_false hn];cases b with
  |false=>
   have e0:rcY a u=[]:=by unfold rcY;rw[g2 rfl]
   simp only[aC];rw[k2,e0];rfl
  |true=>
   simp only[aE,Bool.not_false];by_cases hl:(a.args.length:Int)=1
   ·obtain⟨x,hx⟩:=len1 (l:=a.args) (by omega)
    have hs:=dV a;rw[hx]at hs;simp only[dW]at hs;rw[decide_eq_true hl,aE,hx,show idx [x] (0:Int)=some x from rfl,dG,h.e x (by omega) u,bC,k2]
    have e0:rcY a u=if x=u then [i]else []:=by unfold rcY;rw[g1 rfl,hx]
    rw[e0];by_cases e:x=u
    ·rw[decide_eq_true e,if_pos rfl,if_pos e]
    ·rw[decide_eq_false e,if_neg (by decide),if_neg e]
   ·have e0:rcY a u=[]:=by
     unfold rcY;rw[g1 rfl]
     match hh:a.args with
     |[]=>rfl
     |[x]=>rw[hh]at hl;exact(hl rfl).elim
     |_::_::_=>rfl
    rw[decide_eq_false hl,aC,k2,e0];rfl
end
theorem rds_Y(a u:G.T):rcY a u++(ltY a u++eqY a u)=rds a u:=by
 unfold rds rcY ltY eqY;congr 1
 match a.args with
 |[]=>rfl
 |[_]=>rfl
 |[_,_]=>rfl
 |_::_::_::_=>rfl
end Go.TV
namespace Go.TV
open Go.AI Go.PI Go.Proofs
theorem obL_lr{β:Type}{b:List G.R}{K:List G.R×Unit→Option β}:obL (D:=U0.D) [.sl (.rc 19)] (some [yS 19 b]) K=K (b,()):=rfl
def rowsL:List G.R:=match B94x0 (fun _ _=>none)with
 |some l=>(match dM (D:=U0.D) [.sl (.rc 19)] l with|some r=>r.1|none=>[])
 |none=>[]
theorem rows_ok{L n:Nat}:CTp L (n+1) 94 []=some [yS 19 rowsL]:=by
 rw[c94];rfl
theorem rows_len:rowsL.length<1000:=by decide+kernel
def kA(s:List UInt8):List G.R→Option Int
 |[]=>none
 |r::l=>if r.name=s then some r.arity else kA s l
def arity(s:G.Y):Option Int:=if s.package=bM then kA s.name rowsL else none
def oI(o:Option Int):TVs:=match o with
 |some k=>[yI k,yB true]
 |none=>[yI (0:Int),yB false]
theorem Ar_loop{c:TC0}{L:Nat}{t:G.Y}{a:List G.R}(hb:a.length<1000000000): ∀(l:List G.R) (k m:Nat),a.drop k=l→l.length<m→
    aB2 c L m a (k:Int) t=some (oI (kA t.name l)):=by
 intro l;induction l with
 |nil=>
  intro k m h1 h3;obtain⟨m,rfl⟩: ∃m',m=m'+1:=⟨m-1,by simp at h3;omega⟩
  have e1:=bI h1;have e3:decide ((k:Int)<(a.length:Int))=false:=by simp;omega
  rw[aB2,B68x1,e3,aC];rfl
 |cons x l ih=>
  intro k m h1 h3;obtain⟨m,rfl⟩: ∃m',m=m'+1:=⟨m-1,by simp at h3;omega⟩
  obtain⟨a1,a2,a3⟩:=bG h1;have e3:decide ((k:Int)<(a.length:Int))=true:=by simp;omega
  rw[aB2,B68x1,e3,aE,aR,a1,dG,dX (by omega),kA]
  by_cases e:x.name=t.name
  ·simp only[e,decide_true,aE,dG,if_true,oI]
  ·simp only[e,decide_false,aC,if_false];exact ih (k+1) m a3 (by simp at h3;omega)
theorem aEi(s:G.Y)(L n:Nat)(hL:1000≤L):CTp L (n+2) 68 [yR 1 s]=some (oI (arity s)):=by
 have hl:=rows_len;rw[c68,F68,B68x0];by_cases e:s.package=bM
 ·have e':decide (s.package=([108,105,115,112]:List UInt8))=true:=decide_eq_true e;have ea:arity s=kA s.name rowsL:=by simp[arity,e]
  rw[e',ea,rows_ok,obL_lr];exact Ar_loop (a:=rowsL) (by omega) rowsL 0 L rfl (by omega)
 ·have e':decide (s.package=([108,105,115,112]:List UInt8))=false:=decide_eq_false e;have ea:arity s=none:=by simp[arity,e]
  rw[e',ea];rfl
end Go.TV
