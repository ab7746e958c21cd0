import Derived.Test.YtgddcoodncbkoaaGreatDoorKe
import Derived.Test.YtgddcoodncbkoaaGreatDoorKf
import Derived.IntWalk
set_option linter.unusedVariables false
set_option linter.unusedSimpArgs false
set_option linter.constructorNameAsVariable false
set_option linter.defProp false
namespace Go.PI
open Go.AI
section
variable{P:Program}{J J':Nu}{I I1 I':Ga}{H H':St}{S:PS}{A:Slots}
def lK{z:Nat}: ∀(n:Nat) (l:List PV),l.length=n*z->fL (mQ z n l)=l/\(mQ z n l).length=n/\∀e∈mQ z n l,e.cells.length=z/\(l.all PV.pur=true->e.cells.all PV.pur=true):=by
 intro n;induction n with
 |zero=>intro l h;simp at h;subst h;exact⟨rfl,rfl,λe he=>by simp[mQ]at he⟩
 |succ n ih=>
  intro l h;rw[Nat.succ_mul]at h;obtain⟨h1,h2,h3⟩:=ih (l.drop z) (by simp;omega)
  refine⟨?_,by simp[mQ,h2],λe he=>?_⟩
  ·simp only[mQ,fL,fmC,PV.cells];have:List.flatMap PV.cells (mQ z n (l.drop z))=l.drop z:=h1;rw[this,List.take_append_drop]
  ·simp only[mQ,List.mem_cons]at he;rcases he with rfl|he
   ·refine⟨by simp[PV.cells];omega,λhp=>?_⟩
    simp only[PV.cells,List.all_eq_true]at hp⊢;exact λx hx=>hp x (List.mem_of_mem_take hx)
   ·refine⟨(h3 e he).1,λhp=>(h3 e he).2 ?_⟩
    rw[List.all_eq_true]at hp⊢;exact λx hx=>hp x (List.mem_of_mem_drop hx)
def set_self(S:PS)(t:Nat):S.set t (S.at t)=S:=by
 cases S with|mk f=>simp only[PS.set,PS.at,PS.mk.injEq];funext k;rw[cG,Bool.cond_decide];split<;>simp_all
def pJ{p p':PSt}(M:Mem J I p H)(F:FR J I H S A){t:Nat}{S':PS}(h:fX p S t=some (S',p')):
    ∃J',Mem J' I p' H/\FR J' I H S' A/\Adv J I p H J' I p' H:=by
 have kb:S'=S->p'=p->∃J',Mem J' I p' H/\FR J' I H S' A/\Adv J I p H J' I p' H:=by
  rintro rfl rfl;exact⟨J,M,F,.refl J I p' H⟩
 have hF:=F t;unfold fX at h;split at h<;>try cases h
 rename_i rr mo;unfold frz at mo;split at mo
 ·rename_i id off len b hS;split at mo
  ·rename_i z a cs hg;cases hc:Nat.ble (off+len*z) cs.length&&Nat.ble 1 z&&(a||Nat.beq z 1)&&cs.all PV.pur with
   |false=>rw[hc,cdf]at mo;cases mo
   |true=>
    rw[hc,cdt]at mo;simp only[ojE]at mo;subst mo;simp only[bjE]at hc;obtain⟨⟨⟨hc1,hc2⟩,hc3⟩,hc4⟩:=hc;have hlen:=Nat.le_of_ble_eq_true hc1;have hl:((cs.drop off).take (len*z)).length=len*z:=by simp;omega
    have hz:=Nat.le_of_ble_eq_true hc2;have hid:=aK0 hg;obtain⟨ai,us,h1,h2,h3,h5,h4⟩:=M.get id _ hg;rw[hS]at hF;have gc:Mon H J (λk=>if k=id then some none else J k):=by
     refine⟨λk x hk=>?_,λk a' hk=>?_⟩
     ·by_cases e:k=id
      ·right;show(if k=id then some none else J k)=some none;rw[if_pos e]
      ·left;show(if k=id then some none else J k)=some x;rw[if_neg e];exact hk
     ·by_cases e:k=id
      ·simp only[e,if_true]at hk;cases hk
      ·simp only[e,if_false]at hk;exact .inl hk
    have hkp:Keep J gQ H H:= .refl J gQ H;have mc:Fz (λk=>if k=id then some none else J k) H ai us (bO z):=by
     refine⟨aU h2 rfl,λk hk=>?_⟩
     by_cases e:k=id
     ·simp only[e,if_true]at hk;cases hk
     ·simp only[e,if_false]at hk;exact e (M.inj k id ai hk h1)
    refine⟨λk=>if k=id then some none else J k,⟨λk x hk=>?_,λk a' hk=>?_,λi j a' hi hj=>?_,λk a' hk=>?_,λk o hk=>?_,M.free,M.ver⟩,λk=>?_,⟨.refl J I H,gc,.refl H I,.upd p id .gone,λa cs m h=>⟨cs,m.tip,h⟩,λk a' hk hd=>⟨rfl,by
     have bu:k≠id:=λe=>hd (by subst e;exact aDp)
     show(if k=id then some none else J k)=_
     rw[if_neg bu];exact hk⟩⟩⟩
    ·show k<p.next
     by_cases e:k=id
     ·omega
     ·simp only[e,if_false]at hk;exact M.le _ _ hk
    ·by_cases e:k=id
     ·simp only[e,if_true]at hk;cases hk
     ·simp only[e,if_false]at hk;exact M.lt _ _ hk
    ·by_cases e:i=id
     ·simp only[e,if_true]at hi;cases hi
     ·by_cases e':j=id
      ·simp only[e',if_true]at hj;cases hj
      ·simp only[e,e',if_false]at hi hj;exact M.inj _ _ _ hi hj
    ·by_cases e:k=id
     ·simp only[e,if_true]at hk;cases hk
     ·simp only[e,if_false]at hk;rw[gO hid,if_neg e];exact M.live _ _ hk
    ·rw[gO hid]at hk;by_cases e:k=id
     ·simp only[e,if_true,ojE]at hk;subst hk;subst e;show(if k=k then some none else J k)=some none;simp
     ·simp only[e,if_false]at hk;exact(M.get k o hk).keep hkp gc (by simp[e]) (λ_ _=>rfl) λi fe hi _=>⟨rfl,hi⟩
    ·rw[lW];by_cases e:k=t
     ·subst e;rw[if_pos rfl];refine⟨?_,λh=>by cases h⟩
      have hr:=hF.1;generalize A.at k=w at hr;cases hr with
      |rs0 _ _ _ c a' hν=>rw[h1]at hν;cases hν
      |rs _ _ _ c a' hν=>
       rw[h1]at hν;simp only[ojE]at hν;subst hν;have dd:((cs.drop off).take (len*z)).all PV.pur=true:=by
        rw[List.all_eq_true]at hc4⊢;exact λx hx=>hc4 x (List.mem_of_mem_drop (List.mem_of_mem_take hx))
       have qm: ∀(i:Nat) (x:PV) (u:Value),((cs.drop off).take (len*z))[i]?=some x->us[off+i]?=some u->R (λk=>if k=id then some none else J k) H x u:=by
        intro i x u hx hu;rw[List.getElem?_take]at hx;split at hx
        ·rw[List.getElem?_drop]at hx;exact(h4 _ x u hx hu).keep hkp gc
        ·cases hx
       cases a with
       |true=>
        obtain⟨k1,k2,k3⟩:=lK (z:=z) len _ hl;simp only[cdt];have:=R.sl (J:=λk=>if k=id then some none else J k) (H:=H) z (mQ z len ((cs.drop off).take (len*z))) ai off c us (bO z) hz (λe he=>⟨(k3 e he).1,(k3 e he).2 dd⟩) mc rfl (by rw[k2,h3];exact hlen) (by rw[k1];exact qm)
        rw[k2]at this;have h6:=aF2 (es:=mQ z len ((cs.drop off).take (len*z))) (by rw[k2];exact this)
        rw[k2]at h6;exact h6
       |false=>
        simp only[Bool.false_or]at hc3;have hz1:=nqE hc3;subst hz1;simp only[cdf];rw[Nat.mul_one]at hl qm hlen dd⊢;have kx: ∀l:List PV,l.all PV.pur=true->fL l=l:=by
         intro l;induction l with
         |nil=>intro _;rfl
         |cons x l ih=>
          intro hp;simp only[alC,bjE]at hp;have:=ih hp.2;simp only[fL,fmC]at this⊢;rw[this,uD (zZ hp.1)];rfl
        have:=R.sl (J:=λk=>if k=id then some none else J k) (H:=H) 1 ((cs.drop off).take len) ai off c us (bO 1) hz (λe he=>by
         have:=(List.all_eq_true.1 dd) e he;rw[uD (zZ this)];exact⟨rfl,by simpa using this⟩) mc rfl (by rw[hl,h3];omega) (by rw[kx _ dd];exact qm)
        have h6:=aF2 this;rw[hl]at h6;exact h6
     ·rw[if_neg e];exact⟨(F k).1.keep hkp gc,λhb=>((F k).2 hb).keep hkp gc λi hi _=>⟨rfl,hi⟩⟩
  ·cases mo
 ·simp only[ojE]at mo;subst mo;exact kb (set_self S t) rfl
def lE(F:FR J I H S A){ops:Array Oper}{o:Oper}{b:Bool}(h:iE ops S o=some b):wanted ops A o=b:=by
 unfold iE at h;unfold wanted;split at h
 ·simp only[ojE]at h;subst h;rename_i e;rw[e]
 ·rename_i j want e;rw[e];simp only;cases hd:ops[j]?.bind (·.dst)with
  |none=>rw[hd]at h;simp at h
  |some d=>
   rw[hd]at h;simp only[omS]at h;split at h
   ·rename_i b' hb;simp only[ojE]at h hb;subst h;have:=(F d).1;rw[hb]at this;simp only[omS];generalize A.at d=w at this;cases this;rfl
   ·rename_i hb;simp only[ojE]at h hb;subst h;have:=(F d).1;rw[hb]at this;simp only[omS];obtain⟨us,hu,hl⟩:=this.tup_inv;rw[hu]
   ·cases h
def aJr{pc:fB}{ac:FuncId->Array Value->St->Option (Value×St)}(bj:gT pc ac){p p':PSt}{base i:Nat}(M:Mem J I p H)(F:FR J I H S A)(hf:H.get (base+i)=none)(bi:base+i<H.next)
    {o:Oper} (ho:o.op.operands.all (aM P)=true) {sq take own:Bool} {v:PV} {S':PS} (h:pop P pc sq o take S p=some (v,own,S',p')):
    ∃u H' J' I',aop P ac base i o A H=some (u,H')/\R J' H' v u/\Mem J' I' p' H'/\FR J' I' H' (S'.put o.dst v own) (A.store o.dst u)/\Adv J I p H J' I' p' H'/\
      (∀j,j<H.next->j≠base+i->H.get j=none->H'.get j=none):=by
 obtain⟨u,H',J',I',h1,h2,h3,h4,h5,h6,h7⟩:=pop_ok bj M F hf bi ho h;obtain⟨I'',F'',g⟩:=h4.put h2 h5 o.dst;exact⟨u,H',J',I'',h1,h2,h3.g2 g,F'',h6.trans (.g g.out),h7⟩
def aJx{p:PSt}(M:Mem J I p H)(F:FR J I H S A)(d:Option Tmp): ∃I',Mem J I' p H/\FR J I' H (S.put d (.tup []) false) (A.store d undef)/\Adv J I p H J I' p H:=by
 obtain⟨I',F',g⟩:=F.put (v:= .tup []) (u:=undef) (own:=false) (.tup [] #[] rfl (λi x u h=>by simp at h)) (λh=>by cases h) d
 exact⟨I',M.g2 g,F',.g g.out⟩
def eQ:List aHx->List Nat
 |[]=>[]
 | .op i _::r=>i::eQ r
 | .app a i s::r=>a::i::s::eQ r
 | .freeze _::r=>eQ r
def runP_ok{pc:fB}{ac:FuncId->Array Value->St->Option (Value×St)}(bj:gT pc ac){ops:Array Oper}{base:Nat}(dg: ∀o∈ops.toList,o.op.operands.all (aM P)=true):
    ∀(sc:List aHx) (i:Nat) (J:Nu) (I:Ga) (S:PS) (p:PSt) (A:Slots) (H:St) (S':PS) (p':PSt),eQ sc=List.range' i (ops.size-i)->i<=ops.size->base+ops.size<=H.next->
      (∀j,i<=j->j<ops.size->H.get (base+j)=none)->Mem J I p H->FR J I H S A->aCW P pc ops sc S p=some (S',p')->
      ∃A' H' J' I',dL P ac ops base (ops.toList.drop i) i A H=some (A',H')/\Mem J' I' p' H'/\FR J' I' H' S' A'/\Adv J I p H J' I' p' H'/\(∀j,j<base->H.get j=none->H'.get j=none):=by
 intro sc;induction sc with
 |nil=>
  intro i J I S p A H S' p' dm hi hb cj M F h;simp only[eQ]at dm;have:ops.size-i=0:=by
   cases hh:ops.size-i with
   |zero=>rfl
   |succ n=>rw[hh]at dm;simp[List.range']at dm
  simp only[aCW,ojE,pjE]at h;obtain⟨rfl,rfl⟩:=h;rw[List.drop_eq_nil_of_le (by simp;omega)]
  exact⟨A,H,J,I,rfl,M,F,.refl J I p H,λj _ hj=>hj⟩
 |cons s sc ih=>
  intro i J I S p A H S' p' dm hi hb cj M F h;cases s with
  |freeze t=>
   simp only[aCW]at h;split at h
   ·rename_i S1 p1 h1;obtain⟨J1,M1,F1,A1⟩:=pJ M F h1;obtain⟨A',H',J',I',k1,k2,k3,k4,k5⟩:=ih i J1 I S1 p1 A H S' p' dm hi hb cj M1 F1 h;exact⟨A',H',J',I',k1,k2,k3,A1.trans k4,k5⟩
   ·cases h
  |app a k s=>
   simp only[eQ]at dm;have hn3:i+2<ops.size:=by
    have:=congrArg List.length dm;simp only[lcS,List.length_range']at this;omega
   rw[show ops.size-i=(ops.size-(i+3))+1+1+1 by omega,List.range'_succ,List.range'_succ,List.range'_succ]at dm
   simp only[List.cons.injEq]at dm;obtain⟨rfl,rfl,rfl,dm⟩:=dm;simp only[aCW]at h;have hopA:ops[a]?=some ops[a]:=Array.getElem?_eq_getElem (by omega)
   have hopI:ops[a+1]?=some ops[a+1]:=Array.getElem?_eq_getElem (by omega)
   have hopS:ops[a+1+1]?=some ops[a+1+1]:=Array.getElem?_eq_getElem (by omega)
   rw[hopA,hopI,hopS]at h;simp only at h;split at h
   ·rename_i S1 h1;obtain⟨u1,u2,H1,H2,I2,q1,q2,q3,q4,q5,q6,q7,q8,q9,q10,q11,M2,F2,A2,_,_,q12,q13⟩:=aFT (ac:=ac) (base:=base) (iA:=a) (iI:=a+1) (iS:=a+1+1) M F (cj a (nlR _) (by omega)) (by omega) (dg _ (by simp)) (dg _ (by simp)) (dg _ (by simp)) h1
    have fp:ops.toList.drop a=ops[a]::ops[a+1]::ops[a+1+1]::ops.toList.drop (a+1+1+1):=by
     rw[List.drop_eq_getElem_cons (by simp;omega),List.drop_eq_getElem_cons (by simp;omega),List.drop_eq_getElem_cons (by simp;omega)];simp
    rw[fp];obtain⟨A',H',J',I',j1,j2,j3,j4,j5⟩:=ih (a+1+1+1) J I2 _ p _ H2 S' p' (by simpa using dm) (by omega) (Nat.le_trans hb A2.keep.next) (λj hj pd=>(q13 _ (by omega) (cj j (by omega) pd)).2) M2 F2 h
    refine⟨A',H',J',I',?_,j2,j3,A2.trans j4,λj hj hn=>j5 j hj (q13 j (by omega) hn).2⟩
    have hw: ∀{o:Oper} {A0:Slots},o.guard=none->wanted ops A0 o=true:=λhg=>by simp only[wanted,hg]
    simp only[dL,hw q7,hw q8,hw q9,cdt,aop,q4,q5,q6,q1,qZ,q2,omS];simp only[q3];rw[q10];exact j1
   ·cases h
  |op k take=>
   simp only[eQ]at dm;have bi:i<ops.size:=by
    rcases Nat.lt_or_ge i ops.size with h'|h'
    ·exact h'
    ·rw[show ops.size-i=0 by omega]at dm;simp at dm
   rw[show ops.size-i=(ops.size-(i+1))+1 by omega,List.range'_succ]at dm
   simp only[List.cons.injEq]at dm;obtain⟨rfl,dm⟩:=dm;simp only[aCW]at h;have ly:ops[k]?=some ops[k]:=Array.getElem?_eq_getElem bi;rw[ly]at h;simp only at h;have fp:ops.toList.drop k=ops[k]::ops.toList.drop (k+1):=by
    rw[List.drop_eq_getElem_cons (by simpa using bi)];simp
   rw[fp];simp only[dL];split at h
   ·rename_i hw;rw[lE F hw,cdt];split at h
    ·rename_i v own S1 p1 h1;obtain⟨u,H1,J1,I1,k1,k2,k3,k4,k5,k6⟩:=aJr bj M F (cj k (nlR _) bi) (by omega) (dg _ (by simp)) h1
     simp only[k1];obtain⟨A',H',J',I',j1,j2,j3,j4,j5⟩:=ih (k+1) J1 I1 _ p1 _ H1 S' p' dm bi (Nat.le_trans hb k5.keep.next) (λj hj pd=>k6 _ (by omega) (by omega) (cj j (by omega) pd)) k3 k4 h
     exact⟨A',H',J',I',j1,j2,j3,k5.trans j4,λj hj hn=>j5 j hj (k6 j (by omega) (by omega) hn)⟩
    ·cases h
   ·rename_i hw;rw[lE F hw,cdf];obtain⟨I1,M1,F1,A1⟩:=aJx M F ops[k].dst;obtain⟨A',H',J',I',j1,j2,j3,j4,j5⟩:=ih (k+1) J I1 _ p _ H S' p' dm bi hb (λj hj pd=>cj j (by omega) pd) M1 F1 h
    exact⟨A',H',J',I',j1,j2,j3,A1.trans j4,j5⟩
   ·cases h
end
end Go.PI
namespace Go.AI
def Tr.setF_comm{N:Type}: ∀(f g:Nat) (t:Tr N) (i j:Nat) (x y:N),i≠j->i<f->j<g->Tr.setF g (Tr.setF f t i x) j y=Tr.setF f (Tr.setF g t j y) i x:=by
 intro f;induction f with
 |zero=>intro g t i j x y h hi;omega
 |succ f ih=>
  intro g t i j x y h hi hj;cases g with
  |zero=>omega
  |succ g=>
   by_cases i0:i=0
   ·have j0:j≠0:=by omega
    by_cases j1:j%2=1
    ·cases t<;>simp[Tr.setF,cG,i0,j0,j1]
    ·cases t<;>simp[Tr.setF,cG,i0,j0,j1]
   ·by_cases j0:j=0
    ·by_cases i1:i%2=1
     ·cases t<;>simp[Tr.setF,cG,i0,j0,i1]
     ·cases t<;>simp[Tr.setF,cG,i0,j0,i1]
    ·by_cases i1:i%2=1
     ·by_cases j1:j%2=1
      ·cases t<;>simp[Tr.setF,cG,i0,j0,i1,j1]<;>exact ih g _ _ _ x y (by omega) (by omega) (by omega)
      ·cases t<;>simp[Tr.setF,cG,i0,j0,i1,j1]
     ·by_cases j1:j%2=1
      ·cases t<;>simp[Tr.setF,cG,i0,j0,i1,j1]
      ·cases t<;>simp[Tr.setF,cG,i0,j0,i1,j1]<;>exact ih g _ _ _ x y (by omega) (by omega) (by omega)
def bQ{H:St}{id:Nat}{cs:List Value}{m:Mta}(h:H.row id=some (cs,m)):H.get id=some (.cells cs m)/\H.good m=true:=by
 unfold St.row at h;split at h
 ·rename_i cx m' e;cases hg:H.good m' with
  |true=>rw[hg,cdt]at h;simp only[ojE,pjE]at h;obtain⟨rfl,rfl⟩:=h;exact⟨e,hg⟩
  |false=>rw[hg,cdf]at h;cases h
 ·cases h
def aU{H:St}{id:Nat}{cs:List Value}{m:Mta}(h:H.get id=some (.cells cs m))(hg:H.good m=true):H.row id=some (cs,m):=by
 simp only[St.row,h,hg,cdt]
def St.put_comm(H:St){i j:Nat}(h:i≠j)(x y:AObj):(H.put i x).put j y=(H.put j y).put i x:=by
 simp only[St.put,Tr.set,Tr.setF_comm _ _ _ _ _ x y h (Nat.lt_succ_self i) (Nat.lt_succ_self j)]
section
variable{P:Program}
def mtaS(m:Mta)(off:Nat):Mta:=
 match m.grp with
 |none=>m
 |some (g,v)=>bif m.tip&&Nat.ble m.lim off then m else{m with grp:=some (g,v+1)}
def bmp(H:St)(m:Mta)(off:Nat):St:=
 match m.grp with
 |none=>H
 |some (g,v)=>bif m.tip&&Nat.ble m.lim off then H else H.bump g (v+1)
def aMH(H:St)(m:Mta)(off k:Nat):(bmp H m off).get k=H.get k:=by
 unfold bmp;split
 ·rfl
 ·rename_i g v _;cases m.tip&&Nat.ble m.lim off<;>rfl
def bmp_put(H:St)(m:Mta)(off k:Nat)(o:AObj):bmp (H.put k o) m off=(bmp H m off).put k o:=by
 unfold bmp;split
 ·rfl
 ·rename_i g v _;cases m.tip&&Nat.ble m.lim off<;>rfl
def aKI{m:Mta}{off:Nat}(h:(mtaS m off).grp=none):m.grp=none:=by
 unfold mtaS at h;split at h
 ·assumption
 ·rename_i g v hg;cases hb:(m.tip&&Nat.ble m.lim off)with
  |true=>rw[hb,cdt]at h;exact h
  |false=>rw[hb,cdf]at h;cases h
def uG{H:St}{t:TypeId}{x:Value}{id off n:Nat}{cs:List Value}{m:Mta}(hr:H.row id=some (cs,m))(hs:iK P t=some n)
    (hc:(m.wr&&Nat.beq x.cells.size n&&Nat.ble (off+n) cs.length&&x.cells.toList.all one)=true):
    cO P H t (.pointer (some ⟨id,off,none⟩)) x=some (bmp (H.put id (.cells (eZ cs off x.cells.toList) (mtaS m off))) m off):=by
 simp only[cO,hr,hs,hc,cdt,bmp,mtaS];cases hg:m.grp with
 |none=>rfl
 |some gv=>
  obtain⟨g,v⟩:=gv;simp only;cases hb:(m.tip&&Nat.ble m.lim off)<;>rfl
def yV{H H':St}{t:TypeId}{id off:Nat}{x:Value}(h:cO P H t (.pointer (some ⟨id,off,none⟩)) x=some H'): ∃cs m n,H.row id=some (cs,m)/\iK P t=some n/\
    (m.wr&&Nat.beq x.cells.size n&&Nat.ble (off+n) cs.length&&x.cells.toList.all one)=true/\H'=bmp (H.put id (.cells (eZ cs off x.cells.toList) (mtaS m off))) m off:=by
 cases hr:H.row id with
 |none=>simp[cO,hr]at h
 |some r=>
  obtain⟨cs,m⟩:=r;cases hs:iK P t with
  |none=>simp[cO,hr,hs]at h
  |some n=>
   cases hc:(m.wr&&Nat.beq x.cells.size n&&Nat.ble (off+n) cs.length&&x.cells.toList.all one)with
   |false=>simp only[cO,hr,hs,hc,cdf]at h;cases h
   |true=>rw[uG hr hs hc]at h;cases h;exact⟨cs,m,n,rfl,rfl,hc,rfl⟩
def row_eq{H H':St}{k:Nat}(h:H'.get k=H.get k)(hv: ∀cs m,H.get k=some (.cells cs m)->H'.good m=H.good m):H'.row k=H.row k:=by
 unfold St.row;rw[h];split
 ·rename_i cs m hg;rw[hv cs m hg]
 ·rfl
def aEB{H H1 H2:St}{t1 t2:TypeId}{x1 x2:Value}{i j o1 o2:Nat}
    (h1:cO P H t1 (.pointer (some ⟨i,o1,none⟩)) x1=some H1) (h2:cO P H1 t2 (.pointer (some ⟨j,o2,none⟩)) x2=some H2) (bm:i≠j) (hg: ∃cs m,H2.get j=some (.cells cs m)/\m.grp=none):
    ∃H1',cO P H t2 (.pointer (some ⟨j,o2,none⟩)) x2=some H1'/\cO P H1' t1 (.pointer (some ⟨i,o1,none⟩)) x1=some H2:=by
 obtain⟨cs1,m1,n1,r1,s1,c1,rfl⟩:=yV h1;obtain⟨cs2,m2,n2,r2,s2,c2,rfl⟩:=yV h2;have gr:m2.grp=none:=by
  obtain⟨cs,m,hg1,hg2⟩:=hg;rw[aMH,St.get_put,if_pos rfl]at hg1;simp only[ojE,AObj.cells.injEq]at hg1;refine aKI (off:=o2) ?_;rw[hg1.2];exact hg2
 have hbm: ∀s:St,bmp s m2 o2=s:=λs=>by unfold bmp;rw[gr]
 have hms:mtaS m2 o2=m2:=by unfold mtaS;rw[gr]
 have bc: ∀s:St,s.good m2=true:=λs=>by unfold St.good;rw[gr]
 have bf:H.get j=some (.cells cs2 m2):=by
  have:=(bQ r2).1;rw[aMH,St.get_put,if_neg (Ne.symm bm)]at this;exact this
 have r2':H.row j=some (cs2,m2):=aU bf (bc H);refine⟨_,uG r2' s2 c2,?_⟩;simp only[hbm,hms];have r1':(H.put j (.cells (eZ cs2 o2 x2.cells.toList) m2)).row i=some (cs1,m1):=by
  rw[<-r1];exact row_eq (by rw[St.get_put,if_neg bm]) (λcs m _=>rfl)
 rw[uG r1' s1 c1,<-bmp_put,St.put_comm _ bm]
variable{ops:Array Oper}
def lL(ops:Array Oper)(i k j:Nat):(mY ops i k)[j]?=(ops[j]?).map λo=>bif Nat.beq j i then{o with after:=o.after.push ⟨k,.data⟩}else o:=by
 unfold mY;rw[List.getElem?_toArray,List.getElem?_map,List.getElem?_zipIdx];cases h:ops[j]? with
 |none=>simp[h]
 |some o=>simp[h]
def mT{i k j:Nat}(h:j≠i):(mY ops i k)[j]?=ops[j]?:=by
 rw[lL];cases ops[j]? with
 |none=>rfl
 |some o=>simp only[omS,cG,decide_eq_false h,cdf]
def aEC{i k:Nat}{o:Oper}(h:ops[i]?=some o):(mY ops i k)[i]?=some {o with after:=o.after.push ⟨k,.data⟩}:=by
 rw[lL,h];simp only[omS,cG,decide_true,cdt]
def fU(i k:Nat):(mY ops i k).size=ops.size:=by simp[mY]
def aGL(i k j:Nat):((mY ops i k)[j]?).bind (·.dst)=(ops[j]?).bind (·.dst):=by
 rw[lL];cases ops[j]? with
 |none=>rfl
 |some o=>cases Nat.beq j i<;>rfl
def bL(i k:Nat)(S:Slots)(o:Oper):wanted (mY ops i k) S o=wanted ops S o:=by
 unfold wanted;split
 ·rfl
 ·rw[aGL]
def aCo(i k:Nat)(tm:Array Value):yielded (mY ops i k) tm=yielded ops tm:=by
 funext j;unfold yielded;rw[aGL]
def aGK{i k:Nat}{o:Oper}(h:o∈(mY ops i k).toList): ∃o'∈ops.toList,∀α,gY P α o=gY P α o':=by
 obtain⟨j,hj⟩:=List.getElem?_of_mem h;have:(mY ops i k)[j]?=some o:=by simpa using hj
 rw[lL]at this;cases ho:ops[j]? with
 |none=>rw[ho]at this;cases this
 |some o'=>
  rw[ho]at this;refine⟨o',by have:ops.toList[j]?=some o':=(by simpa using ho);exact List.mem_of_getElem? this,λα=>?_⟩
  cases hb:Nat.beq j i with
  |true=>rw[omS,hb,cdt]at this;cases this;rfl
  |false=>rw[omS,hb,cdf]at this;cases this;rfl
def oQ{Q:Exit->Act->World->Prop}{i k j:Nat}{K:Act->World->Prop}{a:Act}{w:World}(h:wpOp P (mY ops i k) Q j K a w):wpOp P ops Q j K a w:=by
 unfold wpOp at h⊢;rw[aCo,lL]at h;cases ho:ops[j]? with
 |none=>rw[ho]at h;exact h
 |some o=>
  rw[ho]at h;cases hb:Nat.beq j i with
  |true=>rw[omS,hb,cdt]at h;exact h
  |false=>rw[omS,hb,cdf]at h;exact h
def oR{i k j:Nat}{listed:Array Bool}(h:j∈Region.ready .any (mY ops i k) listed):j∈Region.ready .any ops listed:=by
 obtain⟨h1,o,ho,ch⟩:=mem_ready.1 h;rw[lL]at ho;cases fv:ops[j]? with
 |none=>rw[fv]at ho;cases ho
 |some o'=>
  rw[fv]at ho;refine mem_ready.2 ⟨h1,o',fv,λe he hb=>ch e ?_ hb⟩
  cases hb:Nat.beq j i with
  |true=>rw[omS,hb,cdt]at ho;cases ho;exact Array.mem_push_of_mem _ he
  |false=>rw[omS,hb,cdf]at ho;cases ho;exact he
def iM{i k j:Nat}{listed:Array Bool}(h:j∈Region.ready .any ops listed)(hk:j≠i∨listed.getD k false=true):j∈Region.ready .any (mY ops i k) listed:=by
 obtain⟨h1,o,ho,ch⟩:=mem_ready.1 h;by_cases e:j=i
 ·subst e;refine mem_ready.2 ⟨h1,_,aEC ho,λe he hb=>?_⟩
  rcases Array.mem_push.1 he with he|rfl
  ·exact ch e he hb
  ·exact hk.resolve_left (by simp)
 ·exact mem_ready.2 ⟨h1,o,by rw[mT e];exact ho,ch⟩
def aKH{l:List Nat}(h: ∀j,j∉l):l=[]:=by
 cases l with
 |nil=>rfl
 |cons a l=>exact absurd mhE (h a)
def wB{Q:Exit->Act->World->Prop}{i k:Nat}: ∀(fuel:Nat) (listed:Array Bool) (a:Act) (w:World),listed.getD k false=true->wpAny P .any (mY ops i k) Q fuel listed a w->wpAny P .any ops Q fuel listed a w:=by
 intro fuel;induction fuel with
 |zero=>
  intro listed a w hk h;exact⟨aKH λj hj=>(by have:=iM (i:=i) hj (.inr hk);rw[h.1]at this;cases this),h.2⟩
 |succ fuel ih=>
  intro listed a w hk h;refine⟨λhr=>h.1 (aKH λj hj=>by have:=oR hj;rw[hr]at this;cases this),λj hj=>?_⟩
  refine wpOp_mono (λa' w' h'=>ih _ a' w' ?_ h') (oQ (h.2 j (iM hj (.inr hk))))
  by_cases e:k=j
  ·subst e;have:=(mem_ready.1 hj).1;obtain⟨h2,h3⟩:=cM this;rw[hk]at h2;cases h2
  ·rw[getD_set_ne false (Ne.symm e)];exact hk
variable{call:FuncId->Array Value->St->Option (Value×St)}{ms m1 m2:List Nat}{base:Nat}{S':Slots}{H':St}{x y:Nat}{ox oy:Oper}{tx ty:TypeId}{ax ay vx vy:Operand}
def fG{o:Oper}{t:TypeId}{a v:Operand}(h:o.op= .store t a v):aW o= .eff:=by simp only[aW,h]
def fH{o:Oper}{t:TypeId}{a v:Operand}(h:o.op= .store t a v)(H:St)(Z:Operand->Value)(k:Nat):aA6 P call H Z o k=(cO P H t (Z a) (Z v)).map λH'=>(undef,H'):=by simp only[aA6,h]
structure TwH(ops:Array Oper)(x y:Nat)(ox oy:Oper)(tx ty:TypeId)(ax ay vx vy:Operand):Prop where
 ne:x≠y
 hx:ops[x]?=some ox
 hy:ops[y]?=some oy
 opx:ox.op= .store tx ax vx
 opy:oy.op= .store ty ay vy
 gx:ox.guard=none
 gy:oy.guard=none
 dx:ox.dst=none
 dy:oy.dst=none
def Apart(S:Slots)(H:St)(ax ay:Operand):Prop:= ∃i o1 j o2,ev S ax= .pointer (some ⟨i,o1,none⟩)/\ev S ay= .pointer (some ⟨j,o2,none⟩)/\i≠j/\∃cs m,H.get j=some (.cells cs m)/\m.grp=none
def aJg(σ:TwH ops x y ox oy tx ty ax ay vx vy): ∀(pre:List Nat) (pend:List iW) (S:Slots) (H:St),
    (∀i∈pre,i≠x/\i≠y/\m1.getD i 0=ms.getD i 0/\m2.getD i 0=ms.getD i 0/\(aBC ops i=true∨(bit (m1.getD x 0) i=true/\bit (m2.getD y 0) i=true)))->
    (∀p∈pend,bit (m1.getD x 0) p.i=true/\bit (m2.getD y 0) p.i=true)->bG P call ops ms base (pre++ [x,y]) pend S H=some (S',H')->Apart S' H' ax ay->
    ∃(rp:List Rec) (Cp:List St) (Ep:List Nat) (rx ry sx sy:Rec) (Ha Hb Hc:St),rp.map (·.i)=pre/\rx.i=x/\ry.i=y/\sx.i=x/\sy.i=y/\Cp.length=Ep.length/\
      Cert P call (mY ops y x) m1 base S' H' (rp++ [rx,ry]) (Cp++ [Ha,Hb,H']) (Ep++ [x,y]) pend S H/\
      Cert P call (mY ops x y) m2 base S' H' (rp++ [sy,sx]) (Cp++ [Ha,Hc,H']) (Ep++ [y,x]) pend S H:=by
 intro pre;induction pre with
 |nil=>
  intro pend S H _ hp h na;have ql: ∀S,wanted ops S ox=true:=λS=>by simp only[wanted,σ.gx]
  have hwy: ∀S,wanted ops S oy=true:=λS=>by simp only[wanted,σ.gy]
  simp only[nlA,bG,σ.hx,σ.hy,ql,hwy,cdt,fG σ.opx,fG σ.opy,fH σ.opx,fH σ.opy,σ.dx,σ.dy,Slots.store]at h;cases hc:pend.all (check P base H)with
  |false=>rw[hc]at h;cases h
  |true=>
   rw[hc,cdt]at h;cases h1:cO P H tx (ev S ax) (ev S vx)with
   |none=>rw[h1]at h;cases h
   |some H1=>
    rw[h1]at h;simp only[omS]at h;cases hc2:(pend.filter λr=> !bit (ms.getD x 0) r.i).all (check P base H1)with
    |false=>rw[hc2]at h;cases h
    |true=>
     rw[hc2,cdt]at h;cases h2:cO P H1 ty (ev S ay) (ev S vy)with
     |none=>rw[h2]at h;cases h
     |some H2=>
      rw[h2]at h;simp only[omS]at h;obtain⟨rfl,rfl⟩:S=S'/\H2=H':=by
       cases hc3:((pend.filter λr=> !bit (ms.getD x 0) r.i).filter λr=> !bit (ms.getD y 0) r.i).all (check P base H2)with
       |false=>rw[hc3]at h;cases h
       |true=>rw[hc3,cdt]at h;cases h;exact⟨rfl,rfl⟩
      obtain⟨i,o1,j,o2,e1,e2,bm,hg⟩:=na;have hsw:=h2;rw[e2]at hsw;have h1':=h1;rw[e1]at h1';obtain⟨Hc,k1,k2⟩:=aEB h1' hsw bm hg;have hch: ∀p∈pend,vD P base H p:=λp du=>sB (List.all_eq_true.1 hc p du)
      have f1:(pend.filter λp=> !bit (m1.getD x 0) p.i)=[]:=List.filter_eq_nil_iff.2 λp du=>by rw[(hp p du).1];simp
      have f2:(pend.filter λp=> !bit (m2.getD y 0) p.i)=[]:=List.filter_eq_nil_iff.2 λp du=>by rw[(hp p du).2];simp
      refine⟨[],[],[],⟨x,ox,S,undef⟩,⟨y,{oy with after:=oy.after.push ⟨x,.data⟩},S,undef⟩,⟨x,{ox with after:=ox.after.push ⟨y,.data⟩},S,undef⟩,⟨y,oy,S,undef⟩,H,H1,Hc,rfl,rfl,rfl,rfl,rfl,rfl,?_,?_⟩
      ·refine .eff ⟨x,ox,S,undef⟩ _ _ _ pend H H1 (by rw[mT σ.ne];exact σ.hx) (by rw[bL];exact ql S) (fG σ.opx) hch ?_ ?_
       ·rw[fH σ.opx];show Option.map _ (cO P H tx (ev S ax) (ev S vx))=_;rw[h1];rfl
       ·simp only[σ.dx,Slots.store];rw[f1];refine .eff ⟨y,{oy with after:=oy.after.push ⟨x,.data⟩},S,undef⟩ _ _ _ [] H1 H2 (aEC σ.hy) (by rw[bL];exact hwy S) (fG σ.opy) (λp hp=>by cases hp) ?_ ?_
        ·refine(fH (o:={oy with after:=oy.after.push ⟨x,.data⟩}) (show _=_ from σ.opy) H1 (ev S) _).trans ?_;rw[h2];rfl
        ·simp only[σ.dy,Slots.store];exact .nil [] (λp hp=>by cases hp)
      ·refine .eff ⟨y,oy,S,undef⟩ _ _ _ pend H Hc (by rw[mT (Ne.symm σ.ne)];exact σ.hy) (by rw[bL];exact hwy S) (fG σ.opy) hch ?_ ?_
       ·rw[fH σ.opy];show Option.map _ (cO P H ty (ev S ay) (ev S vy))=_;rw[e2,k1];rfl
       ·simp only[σ.dy,Slots.store];rw[f2];refine .eff ⟨x,{ox with after:=ox.after.push ⟨y,.data⟩},S,undef⟩ _ _ _ [] Hc H2 (aEC σ.hx) (by rw[bL];exact ql S) (fG σ.opx) (λp hp=>by cases hp) ?_ ?_
        ·refine(fH (o:={ox with after:=ox.after.push ⟨y,.data⟩}) (show _=_ from σ.opx) Hc (ev S) _).trans ?_;rw[e1,k2];rfl
        ·simp only[σ.dx,Slots.store];exact .nil [] (λp hp=>by cases hp)
 |cons i pre ih=>
  intro pend S H jm hp h na;obtain⟨pe,hiy,hm1,hm2,hor⟩:=jm i (by simp)
  have jl:=λj hj=>jm j (mtE _ hj)
  simp only[cnA,bG]at h;split at h<;>try cases h
  rename_i o ho;have ho1:(mY ops y x)[i]?=some o:=by rw[mT hiy];exact ho
  have ho2:(mY ops x y)[i]?=some o:=by rw[mT pe];exact ho
  cases hw:wanted ops S o with
  |false=>
   rw[hw]at h;simp only[cdf]at h;obtain⟨rp,Cp,Ep,rx,ry,sx,sy,Ha,Hb,Hc,q1,q2,q3,q4,q5,q6,C1,C2⟩:=ih _ _ _ jl hp h na;exact⟨⟨i,o,S,undef⟩::rp,Cp,Ep,rx,ry,sx,sy,Ha,Hb,Hc,by simp[q1],q2,q3,q4,q5,q6,
    .skip ⟨i,o,S,undef⟩ _ _ _ pend H ho1 (by rw[bL];exact hw) rfl C1,.skip ⟨i,o,S,undef⟩ _ _ _ pend H ho2 (by rw[bL];exact hw) rfl C2⟩
  |true=>
   rw[hw]at h;simp only[cdt]at h;have hnp: ∀{k:OK},aW o=k->k≠ .pure->bit (m1.getD x 0) i=true/\bit (m2.getD y 0) i=true:=by
    intro k hk bu;refine hor.resolve_left λhpu=>?_
    unfold aBC at hpu;rw[ho]at hpu;simp only[hk]at hpu;cases k<;>simp at hpu bu
   split at h
   ·rename_i hk;split at h<;>try cases h
    rename_i v hv;obtain⟨rp,Cp,Ep,rx,ry,sx,sy,Ha,Hb,Hc,q1,q2,q3,q4,q5,q6,C1,C2⟩:=ih _ _ _ jl hp h na;exact⟨⟨i,o,S,v⟩::rp,Cp,Ep,rx,ry,sx,sy,Ha,Hb,Hc,by simp[q1],q2,q3,q4,q5,q6,
     .pure ⟨i,o,S,v⟩ _ _ _ pend H ho1 (by rw[bL];exact hw) hk hv C1,.pure ⟨i,o,S,v⟩ _ _ _ pend H ho2 (by rw[bL];exact hw) hk hv C2⟩
   ·rename_i hk;split at h<;>try cases h
    rename_i v hv;obtain⟨rp,Cp,Ep,rx,ry,sx,sy,Ha,Hb,Hc,q1,q2,q3,q4,q5,q6,C1,C2⟩:=ih _ _ _ jl (λp du=>by
     rcases List.mem_cons.1 du with rfl|du
     ·exact hnp hk (by simp)
     ·exact hp p du) h na
    exact⟨⟨i,o,S,v⟩::rp,Cp,Ep,rx,ry,sx,sy,Ha,Hb,Hc,by simp[q1],q2,q3,q4,q5,q6,
     .read ⟨i,o,S,v⟩ _ _ _ pend H ho1 (by rw[bL];exact hw) hk C1,.read ⟨i,o,S,v⟩ _ _ _ pend H ho2 (by rw[bL];exact hw) hk C2⟩
   ·rename_i hk;split at h<;>try cases h
    rename_i v ob hv;obtain⟨rp,Cp,Ep,rx,ry,sx,sy,Ha,Hb,Hc,q1,q2,q3,q4,q5,q6,C1,C2⟩:=ih _ _ _ jl (λp du=>by
     rcases List.mem_cons.1 du with rfl|du
     ·exact hnp hk (by simp)
     ·exact hp p du) h na
    exact⟨⟨i,o,S,v⟩::rp,Cp,Ep,rx,ry,sx,sy,Ha,Hb,Hc,by simp[q1],q2,q3,q4,q5,q6,
     .alloc ⟨i,o,S,v⟩ _ _ _ pend H ob ho1 (by rw[bL];exact hw) hk hv C1,.alloc ⟨i,o,S,v⟩ _ _ _ pend H ob ho2 (by rw[bL];exact hw) hk hv C2⟩
   ·rename_i hk;cases hc:pend.all (check P base H)with
    |false=>rw[hc]at h;cases h
    |true=>
     rw[hc]at h;simp only[cdt]at h;split at h<;>try cases h
     rename_i v H1 hv;obtain⟨rp,Cp,Ep,rx,ry,sx,sy,Ha,Hb,Hc,q1,q2,q3,q4,q5,q6,C1,C2⟩:=ih _ _ _ jl (λp du=>hp p (List.mem_filter.1 du).1) h na
     have hch: ∀p∈pend,vD P base H p:=λp du=>sB (List.all_eq_true.1 hc p du)
     refine⟨⟨i,o,S,v⟩::rp,H::Cp,i::Ep,rx,ry,sx,sy,Ha,Hb,Hc,by simp[q1],q2,q3,q4,q5,by simp[q6],?_,?_⟩
     ·refine .eff ⟨i,o,S,v⟩ _ _ _ pend H H1 ho1 (by rw[bL];exact hw) hk hch hv ?_
      simp only[hm1];exact C1
     ·refine .eff ⟨i,o,S,v⟩ _ _ _ pend H H1 ho2 (by rw[bL];exact hw) hk hch hv ?_
      simp only[hm2];exact C2
def twin_ok{w0:W0}(bj:CallOK w0 P call){pre:List Nat}(σ:TwH ops x y ox oy tx ty ax ay vx vy)(D1:vB (mY ops y x) m1 (pre++ [x,y]))(D2:vB (mY ops x y) m2 (pre++ [y,x])){α n0:Nat}
    (bz: ∀o∈ops.toList,gY P α o=true) {rp:List Rec} {rx ry sx sy:Rec} {Cp:List St} {Ep:List Nat} {S0:Slots} {H0 Ha Hb Hc:St} {Y0:Mp} (hn0:n0<=base) (hrp:rp.map (·.i)=pre)
    (hrx:rx.i=x) (hry:ry.i=y) (hsx:sx.i=x) (hsy:sy.i=y) (hl:Cp.length=Ep.length)
    (C1:Cert P call (mY ops y x) m1 base S' H' (rp++ [rx,ry]) (Cp++ [Ha,Hb,H']) (Ep++ [x,y]) [] S0 H0)
    (C2:Cert P call (mY ops x y) m2 base S' H' (rp++ [sy,sx]) (Cp++ [Ha,Hc,H']) (Ep++ [y,x]) [] S0 H0)
    {Q:Exit->Act->World->Prop} (cq:iV w0 P Y0 n0 α S' H' (Q .normal)):
    ∀(fuel:Nat) (listed:Array Bool) (a:Act) (w:World) (Y:Mp) (k:Nat) (s:St),unl listed<=fuel->listed.getD x false=false->listed.getD y false=false->
      aA4 w0 P (mY ops y x) base α n0 S0 (rp++ [rx,ry]) (Cp++ [Ha,Hb,H']) (Ep++ [x,y]) Y0 listed a w Y k s->wpAny P .any ops Q fuel listed a w:=by
 have hok1: ∀o∈(mY ops y x).toList,gY P α o=true:=λo ho=>by obtain⟨o',h1,h2⟩:=aGK (P:=P) ho;rw[h2];exact bz o' h1
 have hok2: ∀o∈(mY ops x y).toList,gY P α o=true:=λo ho=>by obtain⟨o',h1,h2⟩:=aGK (P:=P) ho;rw[h2];exact bz o' h1
 have hr1:(rp++ [rx,ry]).map (·.i)=pre++ [x,y]:=by simp[hrp,hrx,hry]
 have hr2:(rp++ [sy,sx]).map (·.i)=pre++ [y,x]:=by simp[hrp,hsx,hsy]
 have X1:=aDG bj D1 hok1 hn0 C1 hr1 cq;have X2:=aDG bj D2 hok2 hn0 C2 hr2 cq;obtain⟨_,st1⟩:=xN bj D1 hok1 hn0 C1 hr1 cq;have hyn:y<ops.size:=(Array.getElem?_eq_some_iff.1 σ.hy).1;have other: ∀(listed:Array Bool) (a:Act) (w:World) (Y:Mp) (k:Nat) (s:St),listed.getD x false=false->listed.getD y false=false->
      aA4 w0 P (mY ops y x) base α n0 S0 (rp++ [rx,ry]) (Cp++ [Ha,Hb,H']) (Ep++ [x,y]) Y0 listed a w Y k s->aA4 w0 P (mY ops x y) base α n0 S0 (rp++ [sy,sx]) (Cp++ [Ha,Hc,H']) (Ep++ [y,x]) Y0 listed a w Y k s:=by
  intro listed a w Y k s hx hy G;have hk:k<=Ep.length:=by
   have:=(G.count Ep.length x (by simp))
   rcases Nat.lt_or_ge Ep.length k with h|h
   ·rw[this.2 h]at hx;cases hx
   ·exact h
  have kt: ∀r,listed.getD r.i false=true->(r∈rp++ [sy,sx]↔r∈rp++ [rx,ry]):=by
   intro r hr;have h1: ∀{z:Rec},z.i=x->r≠z:=λe e'=>by rw[e',e,hx]at hr;cases hr
   have h2: ∀{z:Rec},z.i=y->r≠z:=λe e'=>by rw[e',e,hy]at hr;cases hr
   simp[h1 hrx,h2 hry,h1 hsx,h2 hsy]
  refine⟨by rw[G.size,fU,fU],?_,?_,?_,G.sim,by have:=G.next;rw[fU]at this⊢;exact this,λi hi=>G.none i (by rw[fU]at hi⊢;exact hi),G.ext,G.tsize,G.defers,?_,?_⟩
  ·intro i o e ho hli he hb;have pe:i≠x:=λe=>by rw[e,hx]at hli;cases hli
   have hiy:i≠y:=λe=>by rw[e,hy]at hli;cases hli
   rw[mT pe]at ho;exact G.closed i o e (by rw[mT hiy];exact ho) hli he hb
  ·intro q e he;rcases Nat.lt_or_ge q Ep.length with hq|hq
   ·rw[List.getElem?_append_left hq]at he;exact G.count q e (by rw[List.getElem?_append_left hq];exact he)
   ·rw[List.getElem?_append_right hq]at he;have hef:listed.getD e false=false:=by
     have:=List.mem_of_getElem? he;simp only[List.mem_cons,List.not_mem_nil,or_false]at this;rcases this with rfl|rfl
     ·exact hy
     ·exact hx
    rw[hef];constructor
    ·intro h;cases h
    ·intro h;omega
  ·have:=G.state;rcases Nat.lt_or_ge k Cp.length with h|h
   ·rw[List.getElem?_append_left h]at this⊢;exact this
   ·have ge:k=Cp.length:=by omega
    subst ge;rw[List.getElem?_append_right (nlR _)]at this⊢;simpa using this
  ·intro r hr ln z hz;exact G.here r ((kt r ln).1 hr) ln z hz
  ·intro z hz;exact G.there z λr hr ln=>hz r ((kt r ln).2 hr) ln
 intro fuel;induction fuel with
 |zero=>
  intro listed a w Y k s hu hx hy G;exfalso;have h1:listed.getD y true=false:=by
   have hs:y<listed.size:=by rw[G.size,fU];exact hyn
   rw[Array.getD_eq_getD_getElem?,Array.getElem?_eq_getElem hs]at hy⊢;simpa using hy
  have:=zL h1;omega
 |succ fuel ih=>
  intro listed a w Y k s hu hx hy G;have W1:=X1 (fuel+1) listed a w Y k s hu G;refine⟨λhr=>W1.1 (aKH λj hj=>by have:=oR hj;rw[hr]at this;cases this),λj hj=>?_⟩
  have py:=(mem_ready.1 hj).1;have jt:unl (listed.setIfInBounds j true)<=fuel:=by have:=zL py;omega
  have qh:=(cM py).2;by_cases ejx:j=x
  ·subst ejx;refine oQ (wpOp_mono (λa' w' h'=>wB _ _ a' w' ?_ h') (W1.2 j (iM hj (.inl σ.ne))))
   rw[oL _ _ _ qh,if_pos rfl]
  ·by_cases ejy:j=y
   ·subst ejy;have W2:=X2 (fuel+1) listed a w Y k s hu (other listed a w Y k s hx hy G);refine oQ (wpOp_mono (λa' w' h'=>wB _ _ a' w' ?_ h') (W2.2 j (iM hj (.inl (Ne.symm σ.ne)))))
    rw[oL _ _ _ qh,if_pos rfl]
   ·refine oQ (wpOp_mono ?_ (st1 listed a w Y k s G j (iM hj (.inl ejy))));rintro a' w' ⟨Y',k',s',G'⟩;exact ih _ a' w' Y' k' s' jt (by rw[oL _ _ _ qh,if_neg (Ne.symm ejx)];exact hx) (by rw[oL _ _ _ qh,if_neg (Ne.symm ejy)];exact hy) G'
def twin_inv{a b:Operand}(h:twin ops=some (a,b)): ∃x y ox oy tx ty vx vy,aFb ops=some (x,y)/\TwH ops x y ox oy tx ty a b vx vy:=by
 unfold twin at h;split at h
 ·cases h
 ·rename_i i j bm;split at h
  ·rename_i ox oy hx hy;split at h
   ·rename_i tx a' vx ty b' vy e1 e2 e3 e4 e5 e6;cases hb:(!Nat.blt i j||bit ((cF ops.toList []).getD j 0) i)with
    |true=>rw[hb]at h;cases h
    |false=>
     rw[hb,cdf]at h;simp only[ojE,pjE]at h;obtain⟨rfl,rfl⟩:=h;simp only[Bool.or_eq_false_iff,Bool.not_eq_false',iN,djE]at hb;exact⟨i,j,ox,oy,tx,ty,vx,vy,bm,⟨by omega,hx,hy,e1,e2,e3,e4,e5,e6⟩⟩
   ·cases h
  ·cases h
def okTw_inv{a b:Operand}{S:Slots}{H:St}(h:twin ops=some (a,b))(hk:okTw ops S H=true):Apart S H a b:=by
 unfold okTw at hk;rw[h]at hk;simp only at hk;split at hk
 ·rename_i i o1 j o2 e1 e2;simp only[bjE,Bool.not_eq_true',cG,dfN]at hk;refine⟨i,o1,j,o2,e1,e2,hk.1,?_⟩;have h2:=hk.2;split at h2
  ·rename_i cs m hg;exact⟨cs,m,hg,by simpa using h2⟩
  ·cases h2
 ·cases hk
def aLd{S:Slots}{d:Nat}{v:Value}{a:Operand}(h:ntTmp d a=true):ev (S.store (some d) v) a=ev S a:=by
 cases a with
 |tmp t=>
  simp only[ntTmp,Bool.not_eq_true',cG,dfN]at h;show(S.store (some d) v).at t=S.at t;rw[Slots.at_store,if_neg (λe=>h (by cases e;rfl))]
 |const v=>rfl
 |global g=>rfl
 |func f=>rfl
def kH{l1 l2:List Nat}(h: ∀pend S H r,bG P call ops ms base l1 pend S H=some r->bG P call ops ms base l2 pend S H=some r): ∀(A:List Nat) (pend:List iW) (S:Slots) (H:St) (r:Slots×St),
    bG P call ops ms base (A++l1) pend S H=some r->bG P call ops ms base (A++l2) pend S H=some r
 |[],pend,S,H,r,h1=>h _ _ _ _ h1
 |i::A,pend,S,H,r,h1=>by
  have ih:=kH h A;simp only[cnA,bG]at h1⊢;cases ho:ops[i]? with
  |none=>rw[ho]at h1;cases h1
  |some o=>
   rw[ho]at h1;simp only at h1⊢;cases hw:wanted ops S o with
   |false=>rw[hw,cdf]at h1;rw[cdf];exact ih _ _ _ _ h1
   |true=>
    rw[hw,cdt]at h1;rw[cdt];cases hk:aW o with
    |pure=>
     rw[hk]at h1;simp only at h1⊢;cases ha:jN P (ev S) o with
     |none=>rw[ha]at h1;cases h1
     |some v=>rw[ha]at h1;exact ih _ _ _ _ h1
    |read=>
     rw[hk]at h1;simp only at h1⊢;cases ha:iT P H (ev S) o with
     |none=>rw[ha]at h1;cases h1
     |some v=>rw[ha]at h1;exact ih _ _ _ _ h1
    |alloc=>
     rw[hk]at h1;simp only at h1⊢;cases ha:eO P (ev S) o (base+i)with
     |none=>rw[ha]at h1;cases h1
     |some v=>rw[ha]at h1;exact ih _ _ _ _ h1
    |eff=>
     rw[hk]at h1;simp only at h1⊢;cases hc:pend.all (check P base H)with
     |false=>rw[hc,cdf]at h1;cases h1
     |true=>
      rw[hc,cdt]at h1;rw[cdt];cases ha:aA6 P call H (ev S) o (base+i)with
      |none=>rw[ha]at h1;cases h1
      |some v=>rw[ha]at h1;exact ih _ _ _ _ h1
def pass_one{x q:Nat}{ox:Oper}{tx:TypeId}{ax vx:Operand}(hx:ops[x]?=some ox)(opx:ox.op= .store tx ax vx)(gx:ox.guard=none)(dx:ox.dst=none)(hq:aFQ ops x q=true)(rest:List Nat)(pend:List iW)(S:Slots)(H:St)(r:Slots×St)
    (h:bG P call ops ms base (x::q::rest) pend S H=some r):bG P call ops ms base (q::x::rest) pend S H=some r:=by
 unfold aFQ at hq;rw[hx]at hq;cases hoq:ops[q]? with
 |none=>rw[hoq]at hq;cases hq
 |some oq=>
  rw[hoq]at hq;simp only[opx,bjE]at hq;obtain⟨⟨hp,hg⟩,hd⟩:=hq;have ql: ∀S,wanted ops S ox=true:=λS=>by simp only[wanted,gx]
  have gr:oq.guard=none:=by cases hgq:oq.guard with
   |none=>rfl
   |some z=>rw[hgq]at hg;cases hg
  have hwq: ∀S,wanted ops S oq=true:=λS=>by simp only[wanted,gr]
  have hkq:aW oq= .pure:=by
   unfold aBC at hp;rw[hoq]at hp;simp only at hp;cases hk:aW oq<;>rw[hk]at hp<;>first|rfl|cases hp
  simp only[bG,hx,hoq,ql,hwq,cdt,fG opx,hkq,fH opx,dx,Slots.store]at h⊢;cases hc:pend.all (check P base H)with
  |false=>rw[hc,cdf]at h;cases h
  |true=>
   rw[hc,cdt]at h;cases hs:cO P H tx (ev S ax) (ev S vx)with
   |none=>rw[hs]at h;cases h
   |some H1=>
    rw[hs]at h;simp only[omS]at h;cases hv:jN P (ev S) oq with
    |none=>rw[hv]at h;cases h
    |some v=>
     rw[hv]at h;simp only[cdt]at h⊢;have e1:ev (S.store oq.dst v) ax=ev S ax/\ev (S.store oq.dst v) vx=ev S vx:=by
      cases hdd:oq.dst with
      |none=>exact⟨rfl,rfl⟩
      |some d=>rw[hdd]at hd;simp only[bjE]at hd;exact⟨aLd hd.1,aLd hd.2⟩
     have e2:cO P H tx (ev (S.store oq.dst v) ax) (ev (S.store oq.dst v) vx)=some H1:=by rw[e1.1,e1.2];exact hs
     have e3:=e2;simp only[Slots.store]at e3;rw[e3];exact h
def aFR{x:Nat}{ox:Oper}{tx:TypeId}{ax vx:Operand}(hx:ops[x]?=some ox)(opx:ox.op= .store tx ax vx)(gx:ox.guard=none)(dx:ox.dst=none)(rest:List Nat): ∀(Q:List Nat),(∀q∈Q,aFQ ops x q=true)->∀(pend:List iW) (S:Slots) (H:St) (r:Slots×St),
    bG P call ops ms base (x::(Q++rest)) pend S H=some r->bG P call ops ms base (Q++x::rest) pend S H=some r
 |[],_,pend,S,H,r,h=>h
 |q::Q,hQ,pend,S,H,r,h=>by
  have h1:=pass_one hx opx gx dx (hQ q (mhE ..)) (Q++rest) pend S H r h;exact kH (λpend S H r h=>aFR hx opx gx dx rest Q (λz hz=>hQ z (mtE _ hz)) pend S H r h) [q] pend S H r h1
end
end Go.AI
namespace Go.AI
section
variable{w0:W0}{P:Program}{call:FuncId->Array Value->St->Option (Value×St)}
def aJL(bj:CallOK w0 P call)(gu:P.toTables.follows .mixedOrders=true){α id:Nat}{ops:Array Oper}{draw:Bool}{S S':Slots}{H H':St}{a:Act}{w:World}{Y:Mp}{Q:Exit->Act->World->Prop}
    (h:eH P call ops draw S H=some (S',H')) (bz:dC P α (.region id ops draw)=true) (A:AR Y S α a) (ρ:Sim w0 P Y H w) (cq:iV w0 P Y H.next α S' H' (Q .normal)):
    (Code.region id ops draw).wp P Q a w:=by
 simp only[dC,bjE,List.all_eq_true,Bool.or_eq_true,Bool.not_eq_true']at bz;obtain⟨dg,hdr⟩:=bz;unfold eH at h;have ca: ∀j,Y (H.next+j)=none:=λj=>ρ.dom _ (by omega)
 cases draw with
 |false=>
  simp only[cdf]at h;refine wp_region ?_;rw[List.range_eq_range'];have:=aJG (Q:=Q) (w0:=w0) bj (ops:=ops) (base:=H.next) (α:=α) (n0:=H.next) (nlR _) dg ops.toList 0 S S' {H with next:=H.next+ops.size} H' a w Y Y (by simp) (by simp) A (ρ.next (Nat.le_add_right _ _))
   (Ext.refl _ _) (nlR _) (λj _ _=>ca j) h cq
  simpa using this
 |true=>
  simp only[cdt]at h;have hD:=hdr.resolve_left (by simp)
  have ρ':Sim w0 P Y {H with next:=H.next+ops.size} {w with drawn:=w.drawn+1}:=(ρ.next (Nat.le_add_right _ _)).drawn _
  have jk: ∀i,(Array.replicate ops.size false).getD i false=false:=λi=>by
   rw[Array.getD_eq_getD_getElem?];by_cases hi:i<ops.size
   ·simp[hi]
   ·simp[hi]
  have hunl:unl (Array.replicate ops.size false)<=ops.size:=by
   unfold unl;simp only[Array.toList_replicate];exact Nat.le_trans (List.length_filter_le _ _) (by simp)
  unfold aAk at hD;cases ht:twin ops with
  |none=>
   rw[ht]at hD;simp only at hD;have h':bG P call ops (cF ops.toList []) H.next (oM ops (cF ops.toList [])) [] S {H with next:=H.next+ops.size}=some (S',H'):=by
    cases hr:bG P call ops (cF ops.toList []) H.next (oM ops (cF ops.toList [])) [] S {H with next:=H.next+ops.size}with
    |none=>rw[hr]at h;cases h
    |some r=>
     rw[hr]at h;simp only[fitTw,okTw,ht,cdt]at h;exact h
   obtain⟨rs,Cs,Es,kt,C⟩:=aEv _ _ _ _ h';obtain⟨s,hs0,hsn,htr⟩:=C.first (w0:=w0)
   refine wp_region_any gu (aDG bj (drawOK hD) dg (nlR _) C kt cq ops.size (Array.replicate ops.size false) a _ Y 0 s hunl ?_);refine⟨by simp,λi o e _ hl=>?_,λq e _=>?_,hs0,htr Y _ (λr _=>ca r.i) ρ',?_,λi _ _=>ca i,Ext.refl _ _,A.size,A.defers,λr _ hl=>?_,λx _=>A.slot x⟩
   ·rw[jk]at hl;cases hl
   ·rw[jk];simp
   ·rw[hsn];exact nlR _
   ·rw[jk]at hl;cases hl
  |some ab=>
   obtain⟨b1,b2⟩:=ab;rw[ht]at hD;simp only at hD;obtain⟨x,y,ox,oy,tx,ty,vx,vy,pe,σ⟩:=twin_inv ht;unfold aKA at hD;rw[pe]at hD;simp only[bjE]at hD;obtain⟨⟨⟨hbk,hD1⟩,hD2⟩,jm⟩:=hD;have sj:oM ops (cF ops.toList [])=((jW ops (cF ops.toList [])).filter λi=>Nat.blt i x)++x::(((jW ops (cF ops.toList [])).filter λi=>Nat.blt x i&& !Nat.beq i y)++ [y]):=by
    unfold oM late;rw[ht,pe]
   rw[sj]at h;generalize ((jW ops (cF ops.toList [])).filter λi=>Nat.blt i x)=fr at*
   generalize ((jW ops (cF ops.toList [])).filter λi=>Nat.blt x i&& !Nat.beq i y)=bk at*
   generalize hpe:fr++bk=pre at*;obtain⟨h',na⟩:bG P call ops (cF ops.toList []) H.next (pre++ [x,y]) [] S {H with next:=H.next+ops.size}=some (S',H')/\Apart S' H' b1 b2:=by
    cases hr:bG P call ops (cF ops.toList []) H.next (fr++x::(bk++ [y])) [] S {H with next:=H.next+ops.size}with
    |none=>rw[hr]at h;cases h
    |some r=>
     have cb:=kH (λpend S H r h=>aFR σ.hx σ.opx σ.gx σ.dx [y] bk (λq hq=>List.all_eq_true.1 hbk q hq) pend S H r h) fr _ _ _ _ hr
     rw[<-apA,hpe]at cb;rw[hr]at h;simp only[fitTw]at h;cases hk:okTw ops r.1 r.2 with
     |false=>rw[hk]at h;cases h
     |true=>rw[hk,cdt]at h;cases h;exact⟨cb,okTw_inv ht hk⟩
   rw[List.all_eq_true]at jm;obtain⟨rp,Cp,Ep,rx,ry,sx,sy,Ha,Hb,Hc,q1,q2,q3,q4,q5,q6,C1,C2⟩:=aJg σ pre [] S {H with next:=H.next+ops.size} (λi hi=>by
    have:=jm i hi;simp only[bjE,Bool.or_eq_true,Bool.not_eq_true',cG,djE,dfN]at this;obtain⟨⟨⟨h1,h2⟩,h3,h3'⟩,h4⟩:=this;exact⟨h3,h3',h1,h2,h4⟩) (λp hp=>by cases hp) h' na
   obtain⟨s,hs0,hsn,htr⟩:=C1.first (w0:=w0)
   refine wp_region_any gu (twin_ok bj σ (aDH hD1) (aDH hD2) dg (nlR _) q1 q2 q3 q4 q5 q6 C1 C2 cq ops.size (Array.replicate ops.size false) a _ Y 0 s hunl (jk _) (jk _) ?_);refine⟨by simp[fU],λi o e _ hl=>?_,λq e _=>?_,hs0,htr Y _ (λr _=>ca r.i) ρ',?_,λi _ _=>ca i,Ext.refl _ _,A.size,A.defers,λr _ hl=>?_,λx _=>A.slot x⟩
   ·rw[jk]at hl;cases hl
   ·rw[jk];simp
   ·rw[hsn,fU];exact nlR _
   ·rw[jk]at hl;cases hl
def Fl.out:Fl->Exit
 | .normal=> .normal
 | .exit n=> .exit n
 | .ret=> .ret
def Post(w0:W0)(P:Program)(Y:Mp)(n α:Nat)(S':Slots)(H':St)(K:Act->World->Prop):Prop:=
 ∀a' w' Y',AR Y' S' α a'->Sim w0 P Y' H' w'->Ext n Y Y'->n<=H'.next->K a' w'
def Post.later{Y Y':Mp}{n n' α:Nat}{S':Slots}{H':St}{K:Act->World->Prop}(h:Post w0 P Y n α S' H' K)(hE:Ext n Y Y')(hn:n<=n'):Post w0 P Y' n' α S' H' K:=
 λa' w' Y'' A ρ E hl=>h a' w' Y'' A ρ (hE.trans E hn) (by omega)
def aLc(bj:CallOK w0 P call)(gu:P.toTables.follows .mixedOrders=true)(L α:Nat): ∀(c:Code) (S:Slots) (H:St) (fl:Fl) (S':Slots) (H':St) (a:Act) (w:World) (Y:Mp) (Q:Exit->Act->World->Prop),
    bN P call L c S H=some (fl,S',H')->dC P α c=true->AR Y S α a->Sim w0 P Y H w->Post w0 P Y H.next α S' H' (Q fl.out)->c.wp P Q a w:=by
 intro c;induction c with
 |skip=>
  intro S H fl S' H' a w Y Q h _ A ρ hp;simp only[bN,ojE,pjE]at h;obtain⟨rfl,rfl,rfl⟩:=h;exact wp_skip (hp a w Y A ρ (Ext.refl _ _) (nlR _))
 |label l=>
  intro S H fl S' H' a w Y Q h _ A ρ hp;simp only[bN,ojE,pjE]at h;obtain⟨rfl,rfl,rfl⟩:=h;exact wp_label (hp a w Y A ρ (Ext.refl _ _) (nlR _))
 |region id ops draw=>
  intro S H fl S' H' a w Y Q h bz A ρ hp;simp only[bN,mjE]at h;obtain⟨⟨S1,H1⟩,h,e⟩:=h;cases e;exact aJL bj gu h bz A ρ hp
 |seq x y mh nq=>
  intro S H fl S' H' a w Y Q h bz A ρ hp;simp only[dC,bjE]at bz;simp only[bN]at h;refine wp_seq ?_;cases hx:bN P call L x S H with
  |none=>simp[hx]at h
  |some r=>
   obtain⟨f1,S1,H1⟩:=r;simp only[hx]at h;cases f1 with
   |normal=>
    simp only at h;exact mh S H .normal S1 H1 a w Y _ hx bz.1 A ρ (λa' w' Y' A' ρ' E hn=>nq S1 H1 fl S' H' a' w' Y' Q h bz.2 A' ρ' (hp.later E hn))
   |exit n=>
    simp only[ojE,pjE]at h;obtain⟨rfl,rfl,rfl⟩:=h;exact mh S H (.exit n) S1 H1 a w Y _ hx bz.1 A ρ hp
   |ret=>
    simp only[ojE,pjE]at h;obtain⟨rfl,rfl,rfl⟩:=h;exact mh S H .ret S1 H1 a w Y _ hx bz.1 A ρ hp
 |cond c x y mh nq=>
  intro S H fl S' H' a w Y Q h bz A ρ hp;simp only[dC,bjE]at bz;simp only[bN]at h;have hv:=ev_ok A ρ bz.1.1;split at h<;>try cases h
  ·rename_i hc;rw[hc]at hv;exact wp_cond_true hv.bool_inv (mh S H fl S' H' a w Y Q h bz.1.2 A ρ hp)
  ·rename_i hc;rw[hc]at hv;exact wp_cond_false hv.bool_inv (nq S H fl S' H' a w Y Q h bz.2 A ρ hp)
 |block id c ih=>
  intro S H fl S' H' a w Y Q h bz A ρ hp;simp only[dC]at bz;simp only[bN]at h;refine wp_block ?_;cases hx:bN P call L c S H with
  |none=>simp[hx]at h
  |some r=>
   obtain⟨f1,S1,H1⟩:=r;simp only[hx]at h;cases f1 with
   |normal=>
    simp only[ojE,pjE]at h;obtain⟨rfl,rfl,rfl⟩:=h;exact ih S H .normal S1 H1 a w Y _ hx bz A ρ hp
   |ret=>
    simp only[ojE,pjE]at h;obtain⟨rfl,rfl,rfl⟩:=h;exact ih S H .ret S1 H1 a w Y _ hx bz A ρ hp
   |exit n=>
    simp only[cG,Bool.cond_decide]at h;split at h
    ·rename_i hn;simp only[ojE,pjE]at h;obtain⟨rfl,rfl,rfl⟩:=h;exact ih S H (.exit n) S1 H1 a w Y _ hx bz A ρ (λa' w' Y' A' ρ' E hl=>by
      show Exit.inBlock id Q (.exit n) a' w';simp only[Exit.inBlock,if_pos hn];exact hp a' w' Y' A' ρ' E hl)
    ·rename_i hn;simp only[ojE,pjE]at h;obtain⟨rfl,rfl,rfl⟩:=h;exact ih S H (.exit n) S1 H1 a w Y _ hx bz A ρ (λa' w' Y' A' ρ' E hl=>by
      show Exit.inBlock id Q (.exit n) a' w';simp only[Exit.inBlock,if_neg hn];exact hp a' w' Y' A' ρ' E hl)
 |loop c ih=>
  intro S H fl S' H' a w Y Q h bz A ρ hp;simp only[dC]at bz;simp only[bN]at h;refine wp_loop_rounds L ?_;have main: ∀(n:Nat) (S:Slots) (H:St) (a:Act) (w:World) (Y:Mp),iter (λS H=>bN P call L c S H) n S H=some (fl,S',H')->AR Y S α a->Sim w0 P Y H w->Post w0 P Y H.next α S' H' (Q fl.out)->Code.rounds P c Q n a w:=by
   intro n;induction n with
   |zero=>intro S H a w Y h;simp[iter]at h
   |succ n ihn=>
    intro S H a w Y h A ρ hp;rw[rounds_succ];simp only[iter]at h;cases hx:bN P call L c S H with
    |none=>simp[hx]at h
    |some r=>
     obtain⟨f1,S1,H1⟩:=r;simp only[hx]at h;cases f1 with
     |normal=>
      simp only at h;exact ih S H .normal S1 H1 a w Y _ hx bz A ρ (λa' w' Y' A' ρ' E hl=>ihn S1 H1 a' w' Y' h A' ρ' (hp.later E hl))
     |exit n=>
      simp only[ojE,pjE]at h;obtain⟨rfl,rfl,rfl⟩:=h;exact ih S H (.exit n) S1 H1 a w Y _ hx bz A ρ hp
     |ret=>
      simp only[ojE,pjE]at h;obtain⟨rfl,rfl,rfl⟩:=h;exact ih S H .ret S1 H1 a w Y _ hx bz A ρ hp
  exact main L S H a w Y h A ρ hp
 |exit n=>
  intro S H fl S' H' a w Y Q h _ A ρ hp;simp only[bN,ojE,pjE]at h;obtain⟨rfl,rfl,rfl⟩:=h;exact wp_exit (hp a w Y A ρ (Ext.refl _ _) (nlR _))
 |ret=>
  intro S H fl S' H' a w Y Q h _ A ρ hp;simp only[bN,ojE,pjE]at h;obtain⟨rfl,rfl,rfl⟩:=h;exact wp_ret (hp a w Y A ρ (Ext.refl _ _) (nlR _))
 |scope c ih=>
  intro S H fl S' H' a w Y Q h bz A ρ hp;simp only[dC]at bz;simp only[bN]at h;refine wp_scope_straight (ih S H fl S' H' a w Y _ h bz A ρ ?_);cases fl<;>exact hp
 |goto l=>intro S H fl S' H' a w Y Q h;simp[bN]at h
 |refuse s=>intro S H fl S' H' a w Y Q h;simp[bN]at h
 |rangeFunc x ts c d _ _=>intro S H fl S' H' a w Y Q h;simp[bN]at h
def aAE: ∀(l:List Value) (i:Nat) (S:Slots) (k:Nat),(kQ l i S).at k=if i<=k/\k<i+l.length then(l[k-i]?).getD undef else S.at k:=by
 intro l;induction l with
 |nil=>intro i S k;rw[kQ,if_neg (by simp)]
 |cons v l ih=>
  intro i S k;rw[kQ,ih];simp only[lcS];by_cases h1:i+1<=k/\k<i+1+l.length
  ·rw[if_pos h1,if_pos (by omega),show k-i=(k-(i+1))+1 by omega];simp
  ·rw[if_neg h1];by_cases h2:k=i
   ·subst h2;rw[if_pos (by omega)]
    simp[Slots.at,Tr.get_set]
   ·rw[if_neg (by omega)]
    simp[Slots.at,Tr.get_set,h2]
def aJH{S:Slots}{α:Nat}{a:Act}{H:St}{w:World}{Y:Mp}(A:AR Y S α a)(ρ:Sim w0 P Y H w){r:ResultVar}{v:Value}(h:wN P S H r=some v):
    ∃v',(match r with| .tmp t=>(pure (a.tmps.getD t undef):Sem Value)| .cell x t=>do loadVar t (<-asAddr (a.tmps.getD x undef))).run P w= .ok v' w/\VR Y v v':=by
 cases r with
 |tmp t=>simp only[wN,ojE]at h;subst h;exact⟨_,rfl,A.slot t⟩
 |cell x t=>
  simp only[wN]at h;have hx:=A.slot x;obtain⟨v',h1,h2⟩:=aGE ρ hx h;refine⟨v',?_,h2⟩;unfold kV at h;split at h<;>try cases h
  rename_i id off hS;rw[hS]at hx;obtain⟨p,hp,hu⟩:=hx.ptr_inv;rw[hu]at h1;simp only;rw[hu];simpa [Instr.loadAt,Instr.sureAddr,asAddr]using h1
def aHY{S:Slots}{α:Nat}{a:Act}{H:St}{w:World}{Y:Mp}(A:AR Y S α a)(ρ:Sim w0 P Y H w): ∀(l:List ResultVar) (vs:List Value),dE P S H l=some vs->
    ∃us,(l.mapM (λ(r:ResultVar)=>(match r with| .tmp t=>(pure (a.tmps.getD t undef):Sem Value)| .cell x t=>do loadVar t (<-asAddr (a.tmps.getD x undef))))).run P w= .ok us w/\VRL Y vs us:=by
 intro l;induction l with
 |nil=>intro vs h;simp only[dE,ojE]at h;subst h;exact⟨[],rfl,.nil⟩
 |cons r l ih=>
  intro vs h;simp only[dE]at h;split at h<;>try cases h
  rename_i v nb hv js;obtain⟨u,h1,h2⟩:=aJH A ρ hv;obtain⟨us,h3,h4⟩:=ih nb js;refine⟨u::us,?_,.cons h2 h4⟩;rw[List.mapM_cons];simp only[Sem.run_bind,h1,Result.andThen_ok,h3,Sem.run_pure]
def aMM{fn:Func}{S:Slots}{α:Nat}{a:Act}{H:St}{w:World}{Y:Mp}(A:AR Y S α a)(ρ:Sim w0 P Y H w){vs:List Value}(h:dE P S H fn.results.toList=some vs):
    ∃v',(results fn a.tmps).run P w= .ok v' w/\VR Y (yW vs) v':=by
 obtain⟨us,h1,h2⟩:=aHY A ρ _ _ h;unfold results;rw[Array.mapM_eq_mapM_toList];simp only[Sem.run_bind,Sem.run_map];have h1':(List.mapM (λ(r:ResultVar)=>(match r with| .tmp t=>(pure (a.tmps.getD t undef):Sem Value)| .cell x t=>do let __do_lift<-asAddr (a.tmps.getD x undef);loadVar t __do_lift)) fn.results.toList).run P w= .ok us w:=h1
 erw[h1'];simp only[Result.andThen_ok,Sem.run_pure];refine⟨_,rfl,?_⟩
 match vs,us,h2 with
 |[],us,h2=>rw[h2.nil_inv];exact .mkTuple .nil
 |[v],us,h2=>
  obtain⟨u,jd,rfl,h3,h4⟩:=h2.cons_inv;rw[h4.nil_inv];exact h3
 |v1::v2::vs,us,h2=>
  have hl:=h2.1;rw[dif_neg (by simp only[List.size_toArray,<-hl,lcS];omega)]
  exact .mkTuple h2
end
end Go.AI
namespace Go.AI
section
variable{w0:W0}{P:Program}{call:FuncId->Array Value->St->Option (Value×St)}
def Kept.trans{a b c:World}(h:Kept a b)(k:Kept b c):Kept a c:=by
 refine⟨k.os.trans h.os,k.output.trans h.output,Nat.le_trans h.size k.size,λi hi=>?_⟩
 have:=h.size;rw[k.old i (by omega),h.old i hi]
def pS{w:World}{b:Nat}{o:Obj}(h:w.heap[b]?=some o):b<w.heap.size:=by
 by_cases hb:b<w.heap.size
 ·exact hb
 ·rw[Array.getElem?_eq_none (by omega)]at h;cases h
def Sim.keep{Y:Mp}{H:St}{w w':World}(S:Sim w0 P Y H w)(K:Kept w w'):Sim w0 P Y H w':=by
 refine⟨⟨S.kept.toKept.trans K,λk o hk=>⟨by have h1:=(S.kept.oth k o hk).1;rw[K.old k (pS h1)];exact h1,(S.kept.oth k o hk).2⟩,λid p h=>Nat.lt_of_lt_of_le (S.kept.bnd id p h) K.size⟩,S.dom,S.glob,λid p cs m h1 h2 h3=>?_,λid p es h1 h2=>?_,S.off,S.tip,S.maps,S.vers,S.lim⟩
 ·obtain⟨⟨C,t,fr,r1,r2,r3⟩,r4,r5,r6,r7⟩:=S.row id p cs m h1 h2 h3;exact⟨⟨C,t,fr,by rw[K.old _ (pS r1)];exact r1,r2,r3⟩,r4,r5,r6,λhw C1 t1 fr1 e1=>r7 hw C1 t1 fr1 (by rw[<-K.old _ (pS r1)];exact e1)⟩
 ·obtain⟨⟨ES,clock,r1,r2⟩,r3⟩:=S.map id p es h1 h2;exact⟨⟨ES,clock,by rw[K.old _ (pS r1)];exact r1,r2⟩,r3⟩
structure Orc where
 n:Nat
 s:Int->Int->Option (List UInt8)
 m:Nat
 w:Option (Nat×Nat)
inductive OV where
 |s (l:List UInt8)
 |t
def OV.v:OV->Value
 | .s l=> .string ⟨l.toArray⟩
 | .t=> .bool true
def orA(O:Orc)(f:FuncId)(args:Array Value):Option Value:=
 bif Nat.beq f O.n then(match args.toList with
 |[.int .i64 a,.int .i64 b]=>((O.s a b).map OV.s).map OV.v
 |_=>none)else bif Nat.beq f O.m then(match args.toList with
 |[]=>some (.bool true)
 |_=>none)else none
def opM:Mta:={bO 1 with wr:=false}
def orW(O:Orc)(f:FuncId)(args:Array Value)(H:St):Option (Value×St):=match O.w with
 |none=>none
 |some (g,k)=>bif Nat.beq f g then(match args.toList with
  |[.int .u32 n]=>bif decide (n=0)then some (.slice (some ⟨H.next,0,none⟩) k (k+1),({H with next:=H.next+1}:St).put H.next (.cells [] opM))else none
  |_=>none)else none
def Sim.opq{Y:Mp}{H:St}{w:World}(S:Sim w0 P Y H w){p:fN}{C:Array Value}{t:TypeId}{fr:Nat×Nat}(hb:w.heap[p.b]?=some (.cells C t fr))(ho: ∀k o,w0.O k=some o->p.b≠k)(hz:p.z=1):
    Sim w0 P (upd Y H.next p) (({H with next:=H.next+1}:St).put H.next (.cells [] opM)) w:=by
 have hid:Y H.next=none:=S.dom _ (nlR _)
 have bg: ∀{k q},upd Y H.next p k=some q->(k=H.next/\q=p)∨(k≠H.next/\Y k=some q):=by
  intro k q hk;by_cases e:k=H.next
  ·subst e;rw[gC]at hk;cases hk;exact .inl ⟨rfl,rfl⟩
  ·rw[fQ e]at hk;exact .inr ⟨e,hk⟩
 have jo:(({H with next:=H.next+1}:St).put H.next (.cells [] opM)).get H.next=some (.cells [] opM):=by rw[St.get_put,if_pos rfl]
 have hold: ∀{k},k≠H.next->(({H with next:=H.next+1}:St).put H.next (.cells [] opM)).get k=H.get k:=by
  intro k hk;rw[St.get_put,if_neg hk];rfl
 have bc: ∀m,(({H with next:=H.next+1}:St).put H.next (.cells [] opM)).good m=H.good m:=λ_=>rfl
 have cf:=iD p hid;have pq: ∀{cs m},(({H with next:=H.next+1}:St).put H.next (.cells [] opM)).get H.next=some (.cells cs m)->cs=[]/\m=opM:=by
  intro cs m h;rw[jo]at h;cases h;exact⟨rfl,rfl⟩
 refine⟨S.kept.upd ho (pS hb),λid hi=>?_,λg hg=>?_,?_,?_,?_,?_,?_,?_,?_⟩
 ·have:H.next+1<=id:=hi
  rw[fQ (by omega)];exact S.dom id (by omega)
 ·obtain⟨q,h1,h2⟩:=S.glob g hg;exact⟨q,cf _ _ h1,h2⟩
 ·intro k q cs m hq hg hm;rcases bg hq with⟨rfl,rfl⟩|⟨hk,fm⟩
  ·obtain⟨rfl,rfl⟩:=pq hg;exact⟨⟨C,t,fr,hb,(λi v h=>by simp at h),(λh=>by cases h)⟩,(λh=>by cases h),(λh=>by cases h),hz,λh=>by cases h⟩
  ·rw[hold hk]at hg;rw[bc]at hm;obtain⟨⟨C',t',fr',r1,r2,r3⟩,r4,r5,r6,r7⟩:=S.row k q cs m fm hg hm;exact⟨⟨C',t',fr',r1,λi v h=>by obtain⟨u,h1,h2⟩:=r2 i v h;exact⟨u,h1,h2.mono' cf⟩,r3⟩,r4,r5,r6,r7⟩
 ·intro k q es hq hg;rcases bg hq with⟨rfl,rfl⟩|⟨hk,fm⟩
  ·rw[jo]at hg;cases hg
  ·rw[hold hk]at hg;obtain⟨⟨ES,cl,r1,r2,r3⟩,r4⟩:=S.map k q es fm hg;exact⟨⟨ES,cl,r1,r2.mono' cf,r3.mono' cf⟩,r4⟩
 ·intro i j q r cs ds m n bm hq hr hg bn hm hn hw hs;rcases bg hq with⟨rfl,rfl⟩|⟨hi,fm⟩
  ·obtain⟨rfl,rfl⟩:=pq hg;cases hw
  ·rcases bg hr with⟨rfl,rfl⟩|⟨hj,cb⟩
   ·obtain⟨rfl,rfl⟩:=pq bn;exact λ_ x _ _ h3 h4=>by simp at h4;omega
   ·rw[hold hi]at hg;rw[hold hj]at bn;exact S.off i j q r cs ds m n bm fm cb hg bn hm hn hw hs
 ·intro i j q r cs ds m n bm hq hr hg bn hm hn hw;rcases bg hq with⟨rfl,rfl⟩|⟨hi,fm⟩
  ·obtain⟨rfl,rfl⟩:=pq hg;cases hw
  ·rcases bg hr with⟨rfl,rfl⟩|⟨hj,cb⟩
   ·obtain⟨rfl,rfl⟩:=pq bn;exact⟨λ_ x _ _ h3 h4=>by simp at h4;omega,λh=>by cases h⟩
   ·rw[hold hi]at hg;rw[hold hj]at bn;exact S.tip i j q r cs ds m n bm fm cb hg bn hm hn hw
 ·intro i j q r es fs bm hq hr hg bn;rcases bg hq with⟨rfl,rfl⟩|⟨hi,fm⟩
  ·rw[jo]at hg;cases hg
  ·rcases bg hr with⟨rfl,rfl⟩|⟨hj,cb⟩
   ·rw[jo]at bn;cases bn
   ·rw[hold hi]at hg;rw[hold hj]at bn;exact S.maps i j q r es fs bm fm cb hg bn
 ·intro k cs m g v hg jz;by_cases hk:k=H.next
  ·subst hk;obtain⟨rfl,rfl⟩:=pq hg;cases jz
  ·rw[hold hk]at hg;exact S.vers k cs m g v hg jz
 ·intro i j q r cs ds m n bm hq hr hg bn hm hn hw;rcases bg hq with⟨rfl,rfl⟩|⟨hi,fm⟩
  ·obtain⟨rfl,rfl⟩:=pq hg;cases hw
  ·rcases bg hr with⟨rfl,rfl⟩|⟨hj,cb⟩
   ·obtain⟨rfl,rfl⟩:=pq bn;exact λ_ x _ _ h3 h4=>by simp at h4;omega
   ·rw[hold hi]at hg;rw[hold hj]at bn;exact S.lim i j q r cs ds m n bm fm cb hg bn hm hn hw
def aIs(P:Program)(f:FuncId)(n:Nat):Bool:=match P.funcs[f]? with
 |some fn=>Nat.beq (fn.params.size+fn.nfree) n
 |none=>false
def dU(P:Program)(fn:Func):Option (Fl×Slots×St)->Option (Value×St)
 |some (.exit _,_,_)=>none
 |some (_,S,H')=>(dE P S H' fn.results.toList).map λvs=>(yW vs,H')
 |none=>none
def aAL(P C:Program)(O:Orc)(L:Nat):Nat->FuncId->Array Value->St->Option (Value×St)
 |0,_,_,_=>none
 |n+1,f,args,H=>match orA O f args with
  |some v=>some (v,H)
  |none=>match orW O f args H with
   |some x=>some x
   |none=>bif aIs P f args.size then(match C.funcs[f]? with
    |some fn=>match fn.body with
     |some c=>dU P fn (bN P (aAL P C O L n) L c (kQ args.toList 0 .nil) H)
     |none=>none
    |none=>none)else none
def RepOK(w0:W0)(P:Program)(f:FuncId)(fn:Func)(c:Code):Prop:=
 (∃ fn c, P.funcs[f]? = some fn ∧ fn.body = some c ∧ (fn.name == "runtime.NumGoroutine") = false) ∧
 ∀(call:FuncId->Array Value->St->Option (Value×St)) (L:Nat),(∀w1:W0,w1.toWorld=w0.toWorld->CallOK w1 P call)->∀(args args':Array Value) (H H':St) (w:World) (Y:Mp) (r:Value),
  dU P fn (bN P call L c (kQ args.toList 0 .nil) H)=some (r,H')->Sim w0 P Y H w->VRL Y args.toList args'.toList->aIs P f args.size=true->
  Calls P f args' w λe w'=> ∃Y' r',e= .returned r'/\VR Y' r r'/\Sim w0 P Y' H' w'/\Ext H.next Y Y'/\H.next<=H'.next
def vC(w0:W0)(P C:Program):Prop:= ∀f fn c,C.funcs[f]?=some fn->fn.body=some c->(P.funcs[f]?=some fn/\gK P fn=true)∨RepOK w0 P f fn c
def OrcOK(P:Program)(w0:World)(O:Orc):Prop:=(∀a b s,O.s a b=some s->∀w,Kept w0 w->
 (∃ fn c, P.funcs[O.n]? = some fn ∧ fn.body = some c ∧ (fn.name == "runtime.NumGoroutine") = false) ∧ Calls P O.n #[.int .i64 a, .int .i64 b] w fun e w' => e = .returned (.string ⟨s.toArray⟩) ∧ Kept w w') ∧
 (O.m = O.n ∨ ∀ w, Kept w0 w → (∃ fn c, P.funcs[O.m]? = some fn ∧ fn.body = some c ∧ (fn.name == "runtime.NumGoroutine") = false) ∧ Calls P O.m #[] w fun e w' => e = .returned (.bool true) ∧ Kept w w') ∧
 ∀ g k, O.w = some (g, k) → ∀ w, Kept w0 w → (∃ fn c, P.funcs[g]? = some fn ∧ fn.body = some c ∧ (fn.name == "runtime.NumGoroutine") = false) ∧ Calls P g #[.int .u32 0] w fun e w' =>
  (∃b off cap C t fr,e= .returned (.slice (some ⟨b,off,none⟩) k cap)/\k<=cap/\w'.heap[b]?=some (.cells C t fr)/\(b<P.globals.size∨w.heap.size<=b))/\Kept w w'
def sH(gu:P.toTables.follows .mixedOrders=true){L:Nat}{f:FuncId}{fn:Func}{c:Code}(hf:P.funcs[f]?=some fn)(hb:fn.body=some c)(fi:gK P fn=true)(ih1:CallOK w0 P call)
    {args args':Array Value} {H H':St} {w:World} {Y:Mp} {r:Value} (h:dU P fn (bN P call L c (kQ args.toList 0 .nil) H)=some (r,H')) (ρ:Sim w0 P Y H w) (hargs:VRL Y args.toList args'.toList):
    (∃ fn c, P.funcs[f]? = some fn ∧ fn.body = some c ∧ (fn.name == "runtime.NumGoroutine") = false) ∧
    Calls P f args' w λe w'=> ∃Y' r',e= .returned r'/\VR Y' r r'/\Sim w0 P Y' H' w'/\Ext H.next Y Y'/\H.next<=H'.next:=by
 simp only[gK,hb,bjE,Bool.not_eq_true']at fi;refine⟨⟨fn,c,hf,hb,fi.2⟩,?_⟩;cases hx:bN P call L c (kQ args.toList 0 .nil) H with
 |none=>simp[hx,dU]at h
 |some x=>
  obtain⟨fl,S',H1⟩:=x;have A0:AR Y (kQ args.toList 0 .nil) fn.ntmps {tmps:=args'++Array.replicate (fn.ntmps-args'.size) undef,defers:=[]}:=by
   have co:=hargs.size;refine⟨by simp;omega,rfl,λi=>?_⟩
   rw[aAE];simp only[Nat.zero_le,true_and,Nat.zero_add,Nat.sub_zero,Array.length_toList];rw[Array.getD_eq_getD_getElem?];by_cases hi:i<args.size
   ·rw[if_pos hi,Array.getElem?_append_left (by omega)]
    have h1:args.toList[i]?=some args[i]:=by simp[hi]
    obtain⟨u,hu,hr⟩:=hargs.get h1;have jt:args'[i]?=some u:=by simpa using hu
    rw[h1,jt];exact hr
   ·rw[if_neg hi,Array.getElem?_append_right (by omega)]
    have:((Array.replicate (fn.ntmps-args'.size) undef)[i-args'.size]?).getD undef=undef:=by
     by_cases h2:i-args'.size<fn.ntmps-args'.size
     ·simp[h2]
     ·simp[h2]
    rw[this];exact .undef
  have fin: ∀(R:Exit),R= .normal∨R= .ret->(dE P S' H1 fn.results.toList).map (λvs=>(yW vs,H1))=some (r,H')->
        Post w0 P Y H.next fn.ntmps S' H1 (bodyPost P fn (λe w'=> ∃Y' r',e= .returned r'/\VR Y' r r'/\Sim w0 P Y' H' w'/\Ext H.next Y Y'/\H.next<=H'.next) R):=by
   intro R hR kc a' w' Y' A' ρ' E hl;rw[mjE]at kc;obtain⟨vs,js,he⟩:=kc;cases he;obtain⟨v',h1,h2⟩:=aMM A' ρ' js;rcases hR with rfl|rfl
   ·exact⟨A'.defers,v',h1,Y',v',rfl,h2,ρ',E,hl⟩
   ·exact⟨A'.defers,v',h1,Y',v',rfl,h2,ρ',E,hl⟩
  refine calls_of_wp hf hb ?_;cases fl with
  |exit k=>simp[hx,dU]at h
  |normal=>simp only[hx,dU]at h;exact aLc ih1 gu L fn.ntmps c _ H .normal S' H1 _ w Y _ hx fi.1 A0 ρ (fin .normal (.inl rfl) h)
  |ret=>simp only[hx,dU]at h;exact aLc ih1 gu L fn.ntmps c _ H .ret S' H1 _ w Y _ hx fi.1 A0 ρ (fin .ret (.inr rfl) h)
def aAK{C:Program}(gu:P.toTables.follows .mixedOrders=true){β:World}(hC: ∀w0:W0,w0.toWorld=β->vC w0 P C){O:Orc}(hO:OrcOK P β O)(L:Nat): ∀n (w0:W0),w0.toWorld=β->CallOK w0 P (aAL P C O L n):=by
 intro n;induction n with
 |zero=>intro w0 hw f args args' H H' w Y r h;simp[aAL]at h
 |succ n ih=>
  intro w0 hw;have hC1:=hC w0 hw;have ih1:=ih w0 hw;subst hw;intro f args args' H H' w Y r h ρ hargs;simp only[aAL]at h;split at h
  ·rename_i v hv;simp only[ojE,pjE]at h;obtain⟨rfl,rfl⟩:=h;unfold orA at hv;cases hf:Nat.beq f O.n with
   |false=>
    rw[hf,cdf]at hv;cases hm:Nat.beq f O.m with
    |false=>rw[hm]at hv;cases hv
    |true=>
    rw[hm,cdt]at hv;have hfm:=nqE hm;subst hfm;split at hv
    ·rename_i he;cases hv;rw[he]at hargs;have q3:args'= #[]:=by rw[<-Array.toArray_toList (xs:=args'),hargs.nil_inv]
     subst q3;rcases hO.2.1 with h7|h7
     ·rw[h7,Nat.beq_refl]at hf;cases hf
     ·obtain⟨g1,g2⟩:=h7 w ρ.kept.toKept;exact⟨g1,g2.mono λe w' ⟨h5,h6⟩=>⟨Y,_,h5,.same _ rfl,ρ.keep h6,.refl _ _,nlR _⟩⟩
    ·cases hv
   |true=>
   rw[hf,cdt]at hv;rw[nqE hf];split at hv
   ·rename_i a b he;rw[mjE]at hv;obtain⟨x,hx,rfl⟩:=hv;rw[mjE]at hx;obtain⟨s,hs,rfl⟩:=hx;rw[he]at hargs;obtain⟨u,us,e1,r1,h3⟩:=hargs.cons_inv;obtain⟨u2,us2,rfl,r2,h4⟩:=h3.cons_inv;rw[h4.nil_inv]at e1;have q1:u= .int .i64 a:=by cases r1;rfl
    have q2:u2= .int .i64 b:=by cases r2;rfl
    subst q1;subst q2;have q3:args'= #[.int .i64 a,.int .i64 b]:=by rw[<-Array.toArray_toList (xs:=args'),e1]
    subst q3;obtain⟨g1,g2⟩:=hO.1 a b s hs w ρ.kept.toKept;exact⟨g1,g2.mono λe w' ⟨h5,h6⟩=>⟨Y,_,h5,.same _ rfl,ρ.keep h6,.refl _ _,nlR _⟩⟩
   ·cases hv
  split at h
  ·rename_i x hx;simp only[ojE]at h;subst h;unfold orW at hx;split at hx
   ·cases hx
   ·rename_i g k hg;cases pj:Nat.beq f g with
    |false=>rw[pj]at hx;cases hx
    |true=>
     rw[pj,cdt]at hx;rw[nqE pj];split at hx
     ·rename_i n0 he;cases hn0:decide (n0=(0:Int))with
      |false=>rw[hn0]at hx;cases hx
      |true=>
      rw[hn0]at hx;simp only[cdt,ojE,pjE]at hx;obtain⟨rfl,rfl⟩:=hx;rw[of_decide_eq_true hn0]at he;rw[he]at hargs;obtain⟨u,us,e1,r1,h3⟩:=hargs.cons_inv;rw[h3.nil_inv]at e1;have q1:u= .int .u32 0:=by cases r1;rfl
      subst q1;have q3:args'= #[.int .u32 0]:=by rw[<-Array.toArray_toList (xs:=args'),e1]
      subst q3;obtain⟨g1,g2⟩:=hO.2.2 g k hg w ρ.kept.toKept;refine⟨g1,g2.mono ?_⟩;rintro e w' ⟨⟨b,off,cap,C,t,fr,rfl,hk,hb,hbg⟩,h6⟩;have ρ':=ρ.keep h6;have hO': ∀j o,w0.O j=some o->(⟨b,off,off+cap,1⟩:fN).b≠j:=λj o hj=>by
       show b≠j;have h7:=ρ.kept.oth j o hj;rcases hbg with h8|h8
       ·obtain⟨q,h9,h10,_⟩:=ρ.glob b h8;have:=h7.2 b q h9;omega
       ·have:=pS h7.1;omega
      refine⟨_,.slice (some ⟨b,off,none⟩) k cap,rfl,?_,ρ'.opq (p:=⟨b,off,off+cap,1⟩) hb hO' rfl,⟨iD _ (ρ.dom _ (nlR _)),λid hi=>fQ (by omega)⟩,Nat.le_succ _⟩
      exact .slc H.next 0 k (k+1) cap ⟨b,off,off+cap,1⟩ (gC _ _ _) (λe=>by omega) hk (.inl (by simp))
     ·cases hx
  cases kj:aIs P f args.size with
  |false=>rw[kj]at h;cases h
  |true=>
  rw[kj,cdt]at h;split at h<;>try cases h
  rename_i fn hf;split at h<;>try cases h
  rename_i c hb;rcases hC1 f fn c hf hb with⟨hf,fi⟩|⟨g1,g2⟩
  rotate_left
  ·exact⟨g1,g2 _ L ih _ _ _ _ _ _ _ h ρ hargs kj⟩
  exact sH gu hf hb fi ih1 h ρ hargs
end
end Go.AI
namespace Go.AI
section
variable{P:Program}{ops:Array Oper}{base i:Nat}{l:List Oper}{S:Slots}{H:St}{Q:Slots->St->Prop}{d:Option Tmp}{ty:TypeId}{pos:String}{af:Array Edge}
def iJ(P:Program)(op:BinOp)(t:TypeId)(x y:Operand)(a b:Value):Option Value:=
 bif aO a&&aO b then aY P (do eqGuard op t x y a b;binOp op t a b)
 else match P.underlying t with
  |some (.slice _)=>anil op a b
  |_=>none
def aconv(P:Program)(s t:TypeId)(a:Value):Option Value:=bif aE a then aY P (convert s t a)else none
end
end Go.AI
namespace Go.AI
section
variable{P:Program}{S:Slots}{H:St}{Q:Fl->Slots->St->Prop}
section
variable{t:TypeId}{x y:Operand}{k:IntKind}{a b:Int}
def n_lss:iJ P .lss t x y (.int k a) (.int k b)=some (.bool (decide (a<b))):=by cases k<;>rfl
def n_leq:iJ P .leq t x y (.int k a) (.int k b)=some (.bool (decide (a<=b))):=by cases k<;>rfl
def n_gtr:iJ P .gtr t x y (.int k a) (.int k b)=some (.bool (decide (b<a))):=by cases k<;>rfl
def n_geq:iJ P .geq t x y (.int k a) (.int k b)=some (.bool (decide (b<=a))):=by cases k<;>rfl
def n_eql:iJ P .eql t x y (.int k a) (.int k b)=some (.bool (a==b)):=by cases k<;>rfl
def n_neq:iJ P .neq t x y (.int k a) (.int k b)=some (.bool (a !=b)):=by cases k<;>rfl
def n_add:iJ P .add t x y (.int k a) (.int k b)=some (.int k (k.wrap (a+b))):=by cases k<;>rfl
def n_sub:iJ P .sub t x y (.int k a) (.int k b)=some (.int k (k.wrap (a-b))):=by cases k<;>rfl
def n_mul:iJ P .mul t x y (.int k a) (.int k b)=some (.int k (k.wrap (a*b))):=by cases k<;>rfl
def n_quo(h:b≠0):iJ P .quo t x y (.int k a) (.int k b)=some (.int k (k.wrap (a.tdiv b))):=by
 cases k<;>simp[iJ,aO,aE,aY,aA,eqGuard,binOp,Op.intDiv,h,aB]
def n_rem(h:b≠0):iJ P .rem t x y (.int k a) (.int k b)=some (.int k (a.tmod b)):=by
 cases k<;>simp[iJ,aO,aE,aY,aA,eqGuard,binOp,Op.intDiv,h,aB]
def n_shl{k':IntKind}(h:0<=b):iJ P .shl t x y (.int k a) (.int k' b)=some (.int k (k.wrap (a*2^(min b.toNat k.bits)))):=by
 have: ¬b<0:=by omega
 cases k<;>simp[iJ,aO,aE,aY,aA,eqGuard,binOp,Op.shift,this,aB]
def n_shr{k':IntKind}(h:0<=b):iJ P .shr t x y (.int k a) (.int k' b)=some (.int k (a.fdiv (2^(min b.toNat k.bits)))):=by
 have: ¬b<0:=by omega
 cases k<;>simp[iJ,aO,aE,aY,aA,eqGuard,binOp,Op.shift,this,aB]
def n_and:iJ P .and t x y (.int k a) (.int k b)=some (.int k (k.wrap ((BitVec.ofInt k.bits a&&&BitVec.ofInt k.bits b).toNat:Int))):=by cases k<;>rfl
def n_or:iJ P .or t x y (.int k a) (.int k b)=some (.int k (k.wrap ((BitVec.ofInt k.bits a|||BitVec.ofInt k.bits b).toNat:Int))):=by cases k<;>rfl
def n_xor:iJ P .xor t x y (.int k a) (.int k b)=some (.int k (k.wrap ((BitVec.ofInt k.bits a^^^BitVec.ofInt k.bits b).toNat:Int))):=by cases k<;>rfl
def n_andNot:iJ P .andNot t x y (.int k a) (.int k b)=some (.int k (k.wrap ((BitVec.ofInt k.bits a&&& ~~~ BitVec.ofInt k.bits b).toNat:Int))):=by cases k<;>rfl
def aLe{c e:Bool}(ht:P.underlying t=some .bool):aR P (Op.equal t (.bool c) (.bool e))=some (c==e):=by
 unfold Op.equal;rw[show Op.maxDepth=Nat.succ 9999 from rfl,Op.equalIn.eq_2,aA,aF,ht];rfl
def n_eqb{c e:Bool}(ht:P.underlying t=some .bool):iJ P .eql t x y (.bool c) (.bool e)=some (.bool (c==e)):=by
 simp only[iJ,aO,aE,Bool.and_self,cdt,aY,aA,eqGuard,bnT,Bool.false_eq_true,if_false,aB,obS,binOp,aLe ht]
def n_neb{c e:Bool}(ht:P.underlying t=some .bool):iJ P .neq t x y (.bool c) (.bool e)=some (.bool (!(c==e))):=by
 simp only[iJ,aO,aE,Bool.and_self,cdt,aY,aA,eqGuard,bnT,Bool.false_eq_true,if_false,aB,obS,binOp,aLe ht]
def n_conv{s:TypeId}{d:TypeDesc}{k':IntKind}(hs:P.underlying s=some d)(ht:P.underlying t=some (.int k')):aconv P s t (.int k a)=some (.int k' (k'.wrap a)):=by
 unfold aconv;simp only[aE,cdt,aY,convert,aA,aF,hs,ht,obS,Conv.intToInt,aB,aO]
end
end
end Go.AI
namespace Go.AI
mutual
def gE: ∀(a:Value),dY a a=true
 | .bool a| .int j a| .float j a| .complex j a c| .pointer a| .slice a l c| .map a| .chan a| .nilFunc| .nilIface=>by simp[dY]
 | .string a=>by simp[dY]
 | .func f ⟨xs⟩ ⟨ys⟩=>by simp[dY,gF xs,gF ys]
 | .iface t v=>by simp[dY,gE v]
 | .agg ⟨xs⟩=>by simp[dY,gF xs]
 | .tuple ⟨xs⟩=>by simp[dY,gF xs]
def gF: ∀(a:List Value),pF a a=true
 |[]=>by simp[pF]
 |x::xs=>by simp[pF,gE x,gF xs]
end
def wM: ∀(a:List (Value×Value)),zT a a=true
 |[]=>by simp[zT]
 |x::xs=>by simp[zT,gE,wM xs]
def zR(m:Mta):nJ m m=true:=by simp[nJ,cG]
def qO(a:AObj):kG a a=true:=by
 cases a with
 |cells cs m=>simp[kG,gF,zR]
 |map es=>simp[kG,wM]
end Go.AI
