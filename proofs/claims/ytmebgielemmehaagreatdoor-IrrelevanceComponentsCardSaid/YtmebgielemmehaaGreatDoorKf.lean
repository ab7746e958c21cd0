import Derived.Test.YtmebgielemmehaaGreatDoorKe
import Derived.Deep.Upon
set_option linter.unusedVariables false
set_option linter.unusedSimpArgs false
set_option linter.constructorNameAsVariable false
set_option linter.defProp false
namespace Go.AI
section
variable{w0:W0}{P:Program}{Y:Mp}{H:St}{w:World}
def wC{cs l:List Value}{off n:Nat}(h:cut cs off n=some l):l=(cs.drop off).take n/\n<=cs.length-off:=by
 unfold cut at h;simp only[cQ,Bool.cond_decide]at h;split at h
 .rename_i hl;cases h;refine⟨rfl,?_⟩;simp at hl;omega
 .cases h
def Ak{C:Array Value}{cs:List Value}{o off n:Nat}(bi: ∀(i:Nat) (v:Value),cs[i]?=some v->∃u,C[o+i]?=some u/\VR Y v u)(hl:n<=cs.length-off):
    VRL Y ((cs.drop off).take n) ((C.toList.drop (o+off)).take n):=by
 have cq:n=0∨o+off+n<=C.size:=by
  rcases Nat.eq_zero_or_pos n with h|h
  .exact .inl h
  .right;have:off+n-1<cs.length:=by omega
   obtain⟨u,hu,_⟩:=bi (off+n-1) _ (aV this);have:=(Array.getElem?_eq_some_iff.1 hu).1;omega
 refine⟨by simp;omega,λi x u hx hu=>?_⟩
 rw[List.getElem?_take]at hx hu;split at hx
 .rename_i hi;rw[bI hi]at hu;rw[List.getElem?_drop]at hx hu;obtain⟨u',jx,hr⟩:=bi _ _ hx;have:C.toList[o+off+i]?=some u':=by rw[Nat.add_assoc];simpa using jx
  rw[this]at hu;cases hu;exact hr
 .cases hx
def Au{w:World}{b o:Nat}{C:Array Value}{t:TypeId}{fr:Nat×Nat}(h:w.heap[b]?=some (.cells C t fr)):w.cell? ⟨b,o,none⟩=C[o]?:=by
 simp[World.cell?,h]
def Pr{w:World}{b o n:Nat}{C:Array Value}{t:TypeId}{fr:Nat×Nat}(h:w.heap[b]?=some (.cells C t fr))(hl:((C.toList.drop o).take n).length=n):
    (loadCells ⟨b,o,none⟩ n).run P w= .ok ((C.toList.drop o).take n).toArray w:=by
 have:=run_loadCells_list (P:=P) w ⟨b,o,none⟩ ((C.toList.drop o).take n) (λj v hj=>by
  rw[iX,Au h];rw[List.getElem?_take]at hj;split at hj
  .rw[List.getElem?_drop]at hj;simpa using hj
  .cases hj)
 rw[hl]at this;exact this
def KI{t:TypeId}{a b v:Value}(S:Sim w0 P Y H w)(r:VR Y a b)(h:hY P H t a=some v): ∃v',(Instr.loadAt t b).run P w= .ok v' w/\VR Y v v':=by
 unfold hY at h;split at h<;>try cases h
 rename_i id off;obtain⟨p,hp,rfl⟩:=r.ptr_inv;split at h<;>try cases h
 rename_i cs m bi;obtain⟨hg,bf⟩:=St.row_some bi;obtain⟨C,ty,fr,hC,hcs,_⟩:=(S.row id p cs m hp hg bf).row;unfold Instr.loadAt;simp only[Instr.sureAddr,loadVar,Sem.run_bind,Sem.run_pure,Result.andThen_ok];split at h<;>try cases h
 .rename_i kd;rw[dV (by rw[rH];exact kd)]
  split at h<;>try cases h
  rename_i n hn;rw[aF]at h;obtain⟨l,hl,rfl⟩:=h;obtain⟨rfl,hle⟩:=wC hl;have hv:=Ak hcs hle;refine⟨_,?_,.mkAgg hv⟩;have hlen:((C.toList.drop (p.o+off)).take n).length=n:=by rw[<-hv.1];simp;omega
  simp only[Result.andThen_ok,bO,Sem.run_bind,dV (w:=w) (show bX P (Go.sizeOf t)=some n by rw[dC];exact hn),Pr hC hlen,Sem.run_pure]
 .rename_i kd;rw[dV (by rw[rH];exact kd)]
  obtain⟨u,hu,hr⟩:=hcs _ _ h;refine⟨u,?_,hr⟩;simp[Au hC,hu]
def aBK(S:Sim w0 P Y H w)(id:Nat)(p:Place)(z:Nat)(hp:Y id=some p)(h:oG H id z=true):p.z=z:=by
 unfold oG at h;split at h
 .rename_i cs m bi;obtain⟨hg,bf⟩:=St.row_some bi;rw[cQ,aD]at h;rw[<-h];exact(S.row id p cs m hp hg bf).z
 .cases h
def FR(Y:Mp):Option (Nat×Value)->Option (Nat×Value)->Prop
 |none,none=>True
 |some (i,v),some (j,u)=>i=j/\VR Y v u
 |_,_=>False
def DS{k v:Value}{es:List (Value×Value)}{ES:List MapEntry}(hk:VRL Y (((k,v)::es).map (·.1)) (ES.map (·.key)))(hv:VRL Y (((k,v)::es).map (·.2)) (ES.map (·.val))):
    ∃E ES',ES=E::ES'/\VR Y k E.key/\VR Y v E.val/\VRL Y (es.map (·.1)) (ES'.map (·.key))/\VRL Y (es.map (·.2)) (ES'.map (·.val)):=by
 cases ES with
 |nil=>have:=hk.1;simp at this
 |cons E ES'=>
  simp only[aO]at hk hv;obtain⟨u,us,e1,h1,h2⟩:=hk.cons_inv;obtain⟨u',gm,e2,h3,h4⟩:=hv.cons_inv;cases e1;cases e2;exact⟨E,ES',rfl,h1,h3,h2,h4⟩
def LS(d:TypeDesc)(k:Value): ∀(es:List (Value×Value)) (ES:List MapEntry) (i:Nat),VRL Y (es.map (·.1)) (ES.map (·.key))->VRL Y (es.map (·.2)) (ES.map (·.val))->
    es.all (λe=>cK e.1)=true->
    (Instr.findNow d k (iK es) i=none/\Instr.findNow d k ES i=none)∨∃r r',Instr.findNow d k (iK es) i=some r/\Instr.findNow d k ES i=some r'/\FR Y r r':=by
 intro es;induction es with
 |nil=>
  intro ES i hk hv _;have:ES=[]:=by have:=hk.1;simpa using this.symm
  subst this;exact .inr ⟨none,none,rfl,rfl,trivial⟩
 |cons e es ih=>
  intro ES i hk hv hp;obtain⟨k',v'⟩:=e;obtain⟨E,ES',rfl,h1,h2,h3,h4⟩:=DS hk hv;simp only[aP,aC]at hp;have sf:E.key=k':=h1.eq1 hp.1;simp only[iK,aO,Instr.findNow,sf];cases Instr.sameNow d k k' with
  |none=>exact .inl ⟨rfl,rfl⟩
  |some b=>
   cases b with
   |true=>exact .inr ⟨_,_,rfl,rfl,rfl,h2⟩
   |false=>exact ih ES' (i+1) h3 h4 hp.2
def C9(kt:TypeId)(k:Value): ∀(es:List (Value×Value)) (ES:List MapEntry) (i:Nat) (r:Option (Nat×Value)),VRL Y (es.map (·.1)) (ES.map (·.key))->VRL Y (es.map (·.2)) (ES.map (·.val))->
    es.all (λe=>cK e.1)=true->bX P (Instr.findAsking kt k (iK es) i)=some r->∃r',bX P (Instr.findAsking kt k ES i)=some r'/\FR Y r r':=by
 intro es;induction es with
 |nil=>
  intro ES i r hk hv _ h;have:ES=[]:=by have:=hk.1;simpa using this.symm
  subst this;simp only[iK,List.map_nil,Instr.findAsking,bS,aA]at h;subst h;exact⟨none,rfl,trivial⟩
 |cons e es ih=>
  intro ES i r hk hv hp h;obtain⟨k',v'⟩:=e;obtain⟨E,ES',rfl,h1,h2,h3,h4⟩:=DS hk hv;simp only[aP,aC]at hp;have sf:E.key=k':=h1.eq1 hp.1;simp only[iK,aO,Instr.findAsking,bQ]at h;simp only[Instr.findAsking,bQ,sf];cases hq:bX P (Op.equal kt k k')with
  |none=>simp[hq]at h
  |some b=>
   simp only[hq,aL]at h⊢;cases b with
   |true=>simp only[bO,bS,aA]at h⊢;subst h;exact⟨_,rfl,rfl,h2⟩
   |false=>simp only[Bool.false_eq_true,bN]at h⊢;exact ih ES' (i+1) r h3 h4 hp.2 h
def KL{kt:TypeId}{k:Value}{es:List (Value×Value)}{ES:List MapEntry}{r:Option (Nat×Value)}(hk:VRL Y (es.map (·.1)) (ES.map (·.key)))(hv:VRL Y (es.map (·.2)) (ES.map (·.val)))
    (h:zH P kt k es=some r):cK k=true/\es.all (λe=>cK e.1)=true/\(∀b,bX P (Instr.checkKey b 10000 kt k)=some ())/\∃r',bX P (Instr.findKey kt k ES)=some r'/\FR Y r r':=by
 unfold zH at h;cases hp:(cK k&&es.all (λe=>cK e.1))with
 |false=>simp only[hp,aJ]at h;cases h
 |true=>
  simp only[hp,aI]at h;simp only[aC]at hp;split at h<;>try cases h
  rename_i u1 u2 h1 h2;refine⟨hp.1,hp.2,λb=>by cases b;exact h1;exact h2,?_⟩
  unfold Instr.findKey at h⊢;simp only[bQ,bT]at h⊢;cases hu:P.underlying kt with
  |none=>simp[hu]at h
  |some d=>
   simp only[hu,aL]at h⊢;rcases LS (Y:=Y) d k es ES 0 hk hv hp.2 with⟨e1,e2⟩|⟨r1,r2,e1,e2,hr⟩
   .simp only[e1]at h;simp only[e2];exact C9 kt k es ES 0 r hk hv hp.2 h
   .simp only[e1,bS,aA]at h;subst h;exact⟨r2,by simp only[e2,bS],hr⟩
def rN{w:World}{b:Nat}{ES:Array MapEntry}{c:Nat}(h:w.heap[b]?=some (.map ES c)):(getObj b).run P w= .ok (.map ES c) w:=by
 simp[getObj,Sem.run,h]
def MJ{t:TypeId}{m m' k k' v:Value}{ok:Bool}(S:Sim w0 P Y H w)(rm:VR Y m m')(rk:VR Y k k')(h:jK P H t m k ok=some v):
    ∃v',(Instr.lookup t m' k' ok).run P w= .ok v' w/\VR Y v v':=by
 unfold jK at h;split at h<;>try cases h
 rename_i kt et hu;have ll: ∃es ES,Br H m=some es/\
      VRL Y (es.map (·.1)) (ES.toList.map (·.key))/\VRL Y (es.map (·.2)) (ES.toList.map (·.val))/\
      ((m'= .map none/\ES= #[])∨∃b c,m'= .map (some b)/\w.heap[b]?=some (.map ES c)):=by
  cases he:Br H m with
  |none=>simp[he]at h
  |some es=>
   unfold Br at he;split at he<;>try cases he
   .obtain rfl:=rm.eq0 rfl;exact⟨[], #[],rfl,.nil,.nil,.inl ⟨rfl,rfl⟩⟩
   .rename_i id;split at he<;>try cases he
    rename_i hg;cases rm with
    |same _ h=>simp[bR]at h
    |mp _ p hp=>
     obtain⟨ES,c,hC,h1,h2⟩:=(S.map id p es hp hg).map;exact⟨es,ES,rfl,h1,h2,.inr ⟨p.b,c,rfl,hC⟩⟩
 obtain⟨es,ES,he,hk,hv,hm⟩:=ll;rw[he]at h;simp only at h;cases hf:zH P kt k es with
 |none=>simp[hf]at h
 |some r=>
  obtain⟨hpk,_,ni,r',jr,hFR⟩:=KL (ES:=ES.toList) hk hv hf;obtain rfl:=rk.eq1 hpk;simp only[hf]at h;have key: ∀(val:Value) (found:Bool),(match r' with|some (_,u)=>(.ok (u,true) w:Result (Value×Bool))|none=>((zeroValue et).run P w).andThen λz w'=> .ok (z,false) w')= .ok (val,found) w->
        (Instr.lookup t m' k' ok).run P w= .ok (if ok=true then .tuple #[val,.bool found]else val) w:=by
   intro val found df;unfold Instr.lookup;simp only[Sem.run_bind,dV (w:=w) (show bX P (underlying t)=some (.map kt et) by rw[bT];exact hu),Result.andThen_ok]
   rcases hm with⟨rfl,rfl⟩|⟨b,c,rfl,hC⟩
   .simp only[Sem.run_bind,Sem.run_pure,Result.andThen_ok,dV (w:=w) (ni _),dV (w:=w) jr];cases r' with
    |none=>
     simp only[Sem.run_bind]at df⊢;cases hz:(zeroValue et).run P w with
     |ok z wz=>simp only[hz,Result.andThen_ok]at df⊢;cases df;rfl
     |halt x wz=>simp[hz]at df
    |some iu=>cases df;rfl
   .simp only[Sem.run_bind,rN hC,Sem.run_pure,Result.andThen_ok,dV (w:=w) (ni _),dV (w:=w) jr];cases r' with
    |none=>
     simp only[Sem.run_bind]at df⊢;cases hz:(zeroValue et).run P w with
     |ok z wz=>simp only[hz,Result.andThen_ok]at df⊢;cases df;rfl
     |halt x wz=>simp[hz]at df
    |some iu=>cases df;rfl
  have pair: ∀(val nv:Value) (found:Bool),VR Y val nv->VR Y (bif ok then .tuple #[val,.bool found]else val) (if ok=true then .tuple #[nv,.bool found]else nv):=by
   intro val nv found hr;cases ok with
   |true=>exact .mkTuple (.cons hr (.cons (.same _ rfl) .nil))
   |false=>exact hr
  cases r with
  |none=>
   cases r' with
   |some x=>exact hFR.elim
   |none=>
    simp only at h;cases hz:bX P (zeroValue et)with
    |none=>simp[hz]at h
    |some z=>
     simp only[hz]at h;cases mw:cK z with
     |false=>simp[mw]at h
     |true=>
      simp only[mw,aI,aA]at h;subst h;exact⟨_,key z false (by simp[dV hz]),pair z z false (.same1 mw)⟩
  |some iv=>
   obtain⟨i,val⟩:=iv;cases r' with
   |none=>exact hFR.elim
   |some ju=>
    obtain⟨j,u⟩:=ju;obtain⟨rfl,hr⟩:=hFR;simp only[aA]at h;subst h;exact⟨_,key u true rfl,pair val u true hr⟩
def XK{Z Z':Operand->Value}{o:Oper}{v:Value}(S:Sim w0 P Y H w)(hρ: ∀x∈o.op.operands,VR Y (Z x) (Z' x))(h:iV P H Z o=some v):
    ∃v',(execOp Z' o).run P w= .ok (.value v') w/\VR Y v v':=by
 unfold iV at h;unfold execOp;cases ho:o.op<;>simp only[ho]at h hρ⊢ <;>try cases h
 case load t a=>
  obtain⟨v',h1,h2⟩:=KI S (hρ a (by simp[Op.operands])) h
  exact⟨v',by simp[h1],h2⟩
 case lookup t m k ok=>
  obtain⟨v',h1,h2⟩:=MJ S (hρ m (by simp[Op.operands])) (hρ k (by simp[Op.operands])) h
  exact⟨v',by simp[h1],h2⟩
 case slice t x lo hi mx=>
  obtain⟨v',h1,h2⟩:=Tb (Y:=Y) (P:=P) (aBK S) (hρ x (by simp[Op.operands])) (NP lo λy hy=>hρ y (by simp[Op.operands,hy])) (NP hi λy hy=>hρ y (by simp[Op.operands,hy]))
   (NP mx λy hy=>hρ y (by simp[Op.operands,hy])) h
  exact⟨v',by simp[dV h1],h2⟩
def Cf: ∀(l:List Value) (ns:List Int),bytesOf l=some ns->l=ns.map (Value.int .u8):=by
 intro l;induction l with
 |nil=>intro ns h;simp only[bytesOf,aA]at h;subst h;rfl
 |cons x l ih=>
  intro ns h;unfold bytesOf at h;split at h
  .cases ‹_::_=[]›
  .rename_i n r e;cases e;rw[aF]at h;obtain⟨ns',h1,rfl⟩:=h;rw[ih ns' h1];rfl
  .cases h
def Dc{l:List Value}{ns:List Int}(h:bytesOf l=some ns):l.all bR=true:=by
 rw[Cf l ns h,bJ];intro x hx;obtain⟨n,_,rfl⟩:=List.mem_map.1 hx;rfl
def Th{s d:TypeId}{a b v:Value}(S:Sim w0 P Y H w)(r:VR Y a b)(h:oP P H s d a=some v):(convert s d b).run P w= .ok v w:=by
 unfold oP at h;split at h<;>try cases h
 rename_i e hs hd;split at h<;>try cases h
 rename_i he;split at h<;>try cases h
 .rename_i id off n c;obtain⟨p,cap,hp,rfl,_⟩:=r.slc_inv;split at h<;>try cases h
  rename_i cs m bi;split at h<;>try cases h
  rename_i l hl;rw[aF]at h;obtain⟨ns,nr,rfl⟩:=h;obtain⟨hg,bf⟩:=St.row_some bi;obtain⟨C,ty,fr,hC,hcs,_⟩:=(S.row id p cs m hp hg bf).row;obtain⟨rfl,hle⟩:=wC hl;have hv:=Ak hcs hle;have hlen:((C.toList.drop (p.o+off)).take n).length=n:=by rw[<-hv.1];simp;omega
  have heq:=hv.eq0 (Dc nr);rw[run_convert_bytes_string w s d e _ _ _ hs he hd];refine run_bytesToString w _ n cap ns ?_;rw[Pr hC hlen,heq,Cf _ _ nr]
 .cases r with
  |same _ hp=>simp[bR]at hp
  |emp a' s' cap h'=>
   rw[run_convert_bytes_string w s d e _ _ _ hs he hd];exact run_bytesToString w a' 0 cap [] rfl
end
end Go.AI
namespace Go.AI
section
variable{w0:W0}{P:Program}{Y:Mp}{H:St}{w:World}
def upd(Y:Mp)(id:Nat)(p:Place):Mp:=λk=>if k=id then some p else Y k
def kC(Y:Mp)(id:Nat)(p:Place):upd Y id p id=some p:=by simp[upd]
def iM{Y:Mp}{id k:Nat}{p:Place}(h:k≠id):upd Y id p k=Y k:=by simp[upd,h]
def KeptO.upd{w0:W0}{Y:Mp}{w:World}(K:KeptO w0 Y w){id:Nat}{q:Place}(h: ∀k o,w0.O k=some o->q.b≠k)(hb:q.b<w.heap.size):KeptO w0 (upd Y id q) w:=
 ⟨K.toKept,λk o hk=>⟨(K.oth k o hk).1,λj r hj=>by
  by_cases e:j=id
  .subst e;rw[kC]at hj;cases hj;exact h k o hk
  .rw[iM e]at hj;exact(K.oth k o hk).2 j r hj⟩,λj r hj=>by
  by_cases e:j=id
  .subst e;rw[kC]at hj;cases hj;exact hb
  .rw[iM e]at hj;exact K.bnd j r hj⟩
def lD{Y:Mp}{id:Nat}(p:Place)(h:Y id=none): ∀k q,Y k=some q->upd Y id p k=some q:=by
 intro k q hk;rw[iM];exact hk;intro e;subst e;rw[h]at hk;cases hk
def Sim.lt(S:Sim w0 P Y H w){id:Nat}{p:Place}{cs:List Value}{m:mX}(hp:Y id=some p)(hg:H.get id=some (.cells cs m))(hm:H.good m=true):p.b<w.heap.size:=by
 obtain⟨C,t,fr,hC,_⟩:=(S.row id p cs m hp hg hm).row;exact(Array.getElem?_eq_some_iff.1 hC).1
def Sim.lt_map(S:Sim w0 P Y H w){id:Nat}{p:Place}{es:List (Value×Value)}(hp:Y id=some p)(hg:H.get id=some (.map es)):p.b<w.heap.size:=by
 obtain⟨C,t,hC,_⟩:=(S.map id p es hp hg).map;exact(Array.getElem?_eq_some_iff.1 hC).1
def Sim.put_new(S:Sim w0 P Y H w){id:Nat}{ob:AObj}(h:Y id=none)(hv: ∀cs m g v,ob= .cells cs m->m.grp=some (g,v)->v<=H.ver g):Sim w0 P Y (H.put id ob) w:=by
 have bn: ∀{k p},Y k=some p->k≠id:=by intro k p hk e;subst e;rw[h]at hk;cases hk
 have bc: ∀{k p},Y k=some p->(H.put id ob).get k=H.get k:=by intro k p hk;rw[St.get_put,bH (bn hk)]
 refine⟨S.kept,S.dom,S.glob,?_,?_,?_,?_,?_,?_,?_⟩
 .intro k p cs m hp hg hm;rw[bc hp]at hg;exact S.row k p cs m hp hg hm
 .intro k p es hp hg;rw[bc hp]at hg;exact S.map k p es hp hg
 .intro i j p q cs ds m n bj hp hq hg bp hm hn hw hs;rw[bc hp]at hg;rw[bc hq]at bp;exact S.off i j p q cs ds m n bj hp hq hg bp hm hn hw hs
 .intro i j p q cs ds m n bj hp hq hg bp hm hn hw;rw[bc hp]at hg;rw[bc hq]at bp;exact S.tip i j p q cs ds m n bj hp hq hg bp hm hn hw
 .intro i j p q es fs bj hp hq hg bp;rw[bc hp]at hg;rw[bc hq]at bp;exact S.maps i j p q es fs bj hp hq hg bp
 .intro k cs m g v hg jg;rw[St.get_put]at hg;split at hg
  .cases hg;exact hv cs m g v rfl jg
  .exact S.vers k cs m g v hg jg
 .intro i j p q cs ds m n bj hp hq hg bp hm hn hw;rw[bc hp]at hg;rw[bc hq]at bp;exact S.lim i j p q cs ds m n bj hp hq hg bp hm hn hw
def Sim.next(S:Sim w0 P Y H w){n:Nat}(h:H.next<=n):Sim w0 P Y {H with next:=n} w:=
 ⟨S.kept,λid hi=>S.dom id (Nat.le_trans h hi),S.glob,S.row,S.map,S.off,S.tip,S.maps,S.vers,S.lim⟩
def Sim.drawn(S:Sim w0 P Y H w)(n:Nat):Sim w0 P Y H {w with drawn:=n}:=
 ⟨⟨⟨S.kept.os,S.kept.output,S.kept.size,S.kept.old⟩,S.kept.oth,S.kept.bnd⟩,S.dom,S.glob,λid p cs m hp hg hm=>by
      obtain⟨h1,h2,h3,h4,h5⟩:=S.row id p cs m hp hg hm;exact⟨h1,h2,h3,h4,h5⟩,
  λid p es hp hg=>by obtain⟨h1,h2⟩:=S.map id p es hp hg;exact⟨h1,h2⟩,S.off,S.tip,S.maps,S.vers,S.lim⟩
def aHz(Y:Mp)(p:Place)(O:Obj):AObj->Prop
 | .cells cs m=> ∃C t,O= .cells C t (0,0)/\(∀(i:Nat) (v:Value),cs[i]?=some v->∃u,C[i]?=some u/\VR Y v u)/\(m.tip=true->cs.length<=p.e/\p.e<=C.size)/\p.z=m.z
 | .map es=>O= .map #[] 0/\es=[]
def rQ{w:World}{O:Obj}{k:Nat}(h:k<w.heap.size):(w.heap.push O)[k]?=w.heap[k]?:=by
 rw[Array.getElem?_push,bH (by omega)]
def A6(w:World)(O:Obj):(w.heap.push O)[w.heap.size]?=some O:=by simp
def Sim.alloc(S:Sim w0 P Y H w){id:Nat}{ob:AObj}{O:Obj}{p:Place}(h:Y id=none)(hid:id<H.next)(fa:H.get id=some ob)(α:aHz Y p O ob)(hb:p.b=w.heap.size)(ho:p.o=0):
    Sim w0 P (upd Y id p) H {w with heap:=w.heap.push O}:=by
 have bz:=lD p h;have bg: ∀{k q},upd Y id p k=some q->(k=id/\q=p)∨(k≠id/\Y k=some q):=by
  intro k q hk;by_cases e:k=id
  .subst e;rw[kC]at hk;cases hk;exact .inl ⟨rfl,rfl⟩
  .rw[iM e]at hk;exact .inr ⟨e,hk⟩
 have js: ∀{k q cs m},Y k=some q->H.get k=some (.cells cs m)->H.good m=true->p.b≠q.b:=by
  intro k q cs m hq hg hm;have:=S.lt hq hg hm;omega
 refine⟨⟨⟨S.kept.os,S.kept.output,?_,?_⟩,λk o hk=>⟨(rQ (Array.getElem?_eq_some_iff.1 (S.kept.oth k o hk).1).1).trans (S.kept.oth k o hk).1,λj q hj=>by
  have h1:=(Array.getElem?_eq_some_iff.1 (S.kept.oth k o hk).1).1;rcases bg hj with⟨rfl,rfl⟩|⟨_,hq⟩
  .omega
  .exact(S.kept.oth k o hk).2 j q hq⟩,λj q hj=>by
  show _<(w.heap.push O).size;rw[Array.size_push];rcases bg hj with⟨rfl,rfl⟩|⟨_,hq⟩
  .omega
  .have:=S.kept.bnd j q hq;omega⟩,?_,?_,?_,?_,?_,?_,?_,S.vers,?_⟩
 .have:=S.kept.size;simp;omega
 .intro k hk;have:=S.kept.size;show(w.heap.push O)[k]?=_;rw[rQ (by omega)];exact S.kept.old k hk
 .intro k hk;rw[iM (by omega)];exact S.dom k hk
 .intro g hg;obtain⟨q,hq,h1,h2⟩:=S.glob g hg;exact⟨q,bz g q hq,h1,h2⟩
 .intro k q cs m hq hg hm;rcases bg hq with⟨rfl,rfl⟩|⟨hk,fk⟩
  .rw[fa]at hg;cases hg;obtain⟨C,t,rfl,hcs,cp,hz⟩:=α;refine⟨⟨C,t,(0,0),by rw[hb];exact A6 w _,λi v hi=>?_,λht=>(cp ht).2⟩,λ_=>by have:=S.kept.size;omega,λht=>by rw[ho];have:=(cp ht).1;omega,hz,λ_ C1 t1 fr1 e1=>by rw[hb]at e1;have:=(A6 w _).symm.trans e1;cases this;rfl⟩
   obtain⟨u,hu,hr⟩:=hcs i v hi;exact⟨u,by rw[ho,Nat.zero_add];exact hu,hr.mono' bz⟩
  .obtain⟨⟨C,t,fr,hC,hcs,cp⟩,h2,h3,h4,h5⟩:=S.row k q cs m fk hg hm;exact⟨⟨C,t,fr,(rQ (S.lt fk hg hm)).trans hC,λi v hi=>let ⟨u,hu,hr⟩:=hcs i v hi;⟨u,hu,hr.mono' bz⟩,cp⟩,h2,h3,h4,λhw C1 t1 fr1 e1=>h5 hw C1 t1 fr1 ((rQ (S.lt fk hg hm)).symm.trans e1)⟩
 .intro k q es hq hg;rcases bg hq with⟨rfl,rfl⟩|⟨hk,fk⟩
  .rw[fa]at hg;cases hg;obtain⟨rfl,rfl⟩:=α;exact⟨⟨#[],0,by rw[hb];exact A6 w _,.nil,.nil⟩,by have:=S.kept.size;omega⟩
  .obtain⟨⟨ES,c,hC,h1,h2⟩,h3⟩:=S.map k q es fk hg;exact⟨⟨ES,c,(rQ (S.lt_map fk hg)).trans hC,h1.mono' bz,h2.mono' bz⟩,h3⟩
 .intro i j a b cs ds m n bj ha bv hg bp hm hn hw hs;rcases bg ha with⟨rfl,rfl⟩|⟨hi,dd⟩
  .rcases bg bv with⟨rfl,rfl⟩|⟨hj,dr⟩
   .exact absurd rfl bj
   .exact λe=>absurd e (js dr bp hn)
  .rcases bg bv with⟨rfl,rfl⟩|⟨hj,dr⟩
   .exact λe=>absurd e.symm (js dd hg hm)
   .exact S.off i j a b cs ds m n bj dd dr hg bp hm hn hw hs
 .intro i j a b cs ds m n bj ha bv hg bp hm hn hw;rcases bg ha with⟨rfl,rfl⟩|⟨hi,dd⟩
  .rcases bg bv with⟨rfl,rfl⟩|⟨hj,dr⟩
   .exact absurd rfl bj
   .exact⟨λe=>absurd e (js dr bp hn),λ_ e=>absurd e (js dr bp hn)⟩
  .rcases bg bv with⟨rfl,rfl⟩|⟨hj,dr⟩
   .exact⟨λe=>absurd e.symm (js dd hg hm),λ_ e=>absurd e.symm (js dd hg hm)⟩
   .exact S.tip i j a b cs ds m n bj dd dr hg bp hm hn hw
 .intro i j a b es fs bj ha bv hg bp;rcases bg ha with⟨rfl,rfl⟩|⟨hi,dd⟩
  .rcases bg bv with⟨rfl,rfl⟩|⟨hj,dr⟩
   .exact absurd rfl bj
   .have:=S.lt_map dr bp;omega
  .rcases bg bv with⟨rfl,rfl⟩|⟨hj,dr⟩
   .have:=S.lt_map dd hg;omega
   .exact S.maps i j a b es fs bj dd dr hg bp
 .intro i j a b cs ds m n bj ha bv hg bp hm hn hw;rcases bg ha with⟨rfl,rfl⟩|⟨hi,dd⟩
  .rcases bg bv with⟨rfl,rfl⟩|⟨hj,dr⟩
   .exact absurd rfl bj
   .exact λe=>absurd e (js dr bp hn)
  .rcases bg bv with⟨rfl,rfl⟩|⟨hj,dr⟩
   .exact λe=>absurd e.symm (js dd hg hm)
   .exact S.lim i j a b cs ds m n bj dd dr hg bp hm hn hw
def VRL.at{xs us:List Value}(r:VRL Y xs us): ∀(i:Nat) (v:Value),xs[i]?=some v->∃u,us.toArray[i]?=some u/\VR Y v u:=by
 intro i v h;obtain⟨u,hu,hr⟩:=r.get h;exact⟨u,by simpa using hu,hr⟩
def VRL.atA{xs:List Value}{us:Array Value}(r:VRL Y xs us.toList): ∀(i:Nat) (v:Value),xs[i]?=some v->∃u,us[i]?=some u/\VR Y v u:=by
 intro i v h;obtain⟨u,hu,hr⟩:=r.get h;exact⟨u,by simpa using hu,hr⟩
def rB(z:List Value)(n:Nat):(dR z n).length=n*z.length:=by
 induction n with
 |zero=>simp[dR]
 |succ n ih=>simp[dR,ih,Nat.succ_mul,Nat.add_comm]
def nF(z:List Value)(hz:0<z.length): ∀(n i:Nat),(dR z n)[i]?=if i<n*z.length then z[i%z.length]? else none:=by
 intro n;induction n with
 |zero=>intro i;simp[dR]
 |succ n ih=>
  intro i;simp only[dR,List.getElem?_append];split
  .rename_i h;rw[bI (by rw[Nat.succ_mul];omega),Nat.mod_eq_of_lt h]
  .rename_i h;rw[ih,Nat.succ_mul];have:(i-z.length)%z.length=i%z.length:=by
    conv=>rhs;rw[show i=(i-z.length)+z.length from by omega]
    rw[Nat.add_mod_right]
   rw[this];by_cases h':i-z.length<n*z.length
   .rw[bI h',bI (by omega)]
   .rw[bH h',bH (by omega)]
def GD(z:Array Value)(n s:Nat)(hz:z.size=s)(hs:1<=s):(Array.map (λx=>z[x%z.size]!) (Array.range (n*s)))=(dR z.toList n).toArray:=by
 apply Array.ext';apply List.ext_getElem?;intro i;rw[nF z.toList (by simp;omega)]
 simp only[Array.toList_map,Array.toList_range,List.getElem?_map,Array.length_toList,hz];by_cases h:i<n*s
 .rw[bI h,List.getElem?_range h];have h2:i%s<z.size:=by rw[hz];exact Nat.mod_lt _ (by omega)
  simp[h2]
 .rw[bH h];simp;omega
def tR{z:List Value}(h:z.all bR=true)(n:Nat):(dR z n).all bR=true:=by
 induction n with
 |zero=>rfl
 |succ n ih=>simp only[dR,List.all_append,aC];exact⟨h,ih⟩
def Tj{Z Z':Operand->Value}{o:Oper}{id:Nat}{v:Value}{ob:AObj}(w:World)(hρ: ∀x∈o.op.operands,VR Y (Z x) (Z' x))(h:eZ P Z o id=some (v,ob)):
    ∃v' O p,(execOp Z' o).run P w= .ok (.value v') {w with heap:=w.heap.push O}/\p.b=w.heap.size/\p.o=0/\aHz Y p O ob/\(∀Y':Mp,Y' id=some p->VR Y' v v'):=by
 unfold eZ at h;unfold execOp;cases ho:o.op<;>simp only[ho]at h hρ⊢ <;>try cases h
 case alloc t=>
  split at h<;>try cases h
  rename_i z hz;cases hp:z.cells.toList.all bR with
  |false=>rw[hp]at h;cases h
  |true=>
   rw[hp]at h;simp only[aI,aA,aB]at h;obtain⟨rfl,rfl⟩:=h;refine⟨.pointer (some ⟨w.heap.size,0,none⟩),.cells z.cells t (0,0),⟨w.heap.size,0,0,0⟩,?_,rfl,rfl,⟨z.cells,t,rfl,VRL.atA (.same hp),(λh=>by cases h),rfl⟩,λY' hμ=>VR.ptr id 0 _ hμ⟩
   simp[Instr.alloc,dV hz,newVar,newRow]
 case box t x=>
  have hx:=hρ x (by simp[Op.operands])
  cases hp:(Z x).cells.toList.all one with
  |false=>rw[hp]at h;cases h
  |true=>
   rw[hp]at h;simp only[aI,aA,aB]at h;obtain⟨rfl,rfl⟩:=h;refine⟨.pointer (some ⟨w.heap.size,0,none⟩),.cells (Z' x).cells t (0,0),⟨w.heap.size,0,0,0⟩,?_,rfl,rfl,⟨_,t,rfl,VRL.atA hx.cells,(λh=>by cases h),rfl⟩,λY' hμ=>VR.ptr id 0 _ hμ⟩
   simp[Instr.box,newVar,newRow]
 case buildSlice t len parts=>
  split at h<;>try cases h
  rename_i e hu;split at h<;>try cases h
  rename_i s hs;split at h<;>try cases h
  rename_i z hz;cases hp:(z.cells.toList.all bR&&Nat.ble (len*s) 1000000&&Nat.beq z.cells.size s&&Nat.ble 1 s)with
  |false=>rw[hp]at h;cases h
  |true=>
   rw[hp]at h;simp only[aC,qX,cQ,aD]at hp;obtain⟨⟨⟨hp,hle⟩,jb⟩,hs1⟩:=hp;simp only[aI,aF,aB]at h;obtain⟨cs,hf,rfl,rfl⟩:=h;have hPR:PR Y (parts.map λ(i,x)=>(i,Z x)).toList (parts.map λ(i,x)=>(i,Z' x)).toList:=by
    simpa using ZJ parts.toList (λx hx=>hρ x.2 (by simp[Op.operands];exact⟨_,Array.mem_toList_iff.1 hx⟩))
   have hz0:=tR hp len;obtain⟨cx,jt,hr⟩:=FB (Y:=Y) _ _ _ _ _ _ hPR (VRL.toArray_cells (.same hz0)) hf;refine⟨.slice (some ⟨w.heap.size,0,none⟩) len len,.cells cx e (0,0),⟨w.heap.size,0,len*s,s⟩,?_,rfl,rfl,⟨cx,e,rfl,VRL.atA hr,(λh=>by cases h),rfl⟩,
    λY' hμ=>VR.slc id 0 len len len _ hμ (λ_=>rfl) (aS _) (.inl (by simp))⟩
   unfold Instr.buildSlice;have hbig: ¬(len*s>2^24):=by omega
   simp only[Sem.run_bind,dV (w:=w) (show bX P (underlying t)=some (.slice e) by rw[bT];exact hu),Result.andThen_ok,
    dV (w:=w) (show bX P (Go.sizeOf e)=some s by rw[dC];exact hs),bH hbig]
   by_cases h0:len*s=0
   .rw[bI h0];have hl0:len=0:=by
     rcases Nat.mul_eq_zero.1 h0 with h|h
     .exact h
     .omega
    subst hl0;simp only[dR]at jt;simp only[Sem.run_bind,Sem.run_pure,Result.andThen_ok,Nat.zero_mul,Array.range_zero',Array.map_empty];have sw:Instr.fill (λi=>some (i*s,s)) #[] (parts.map λ(i,x)=>(i,Z' x)).toList=some cx:=jt
    rw[sw];simp[newRow]
   .rw[bH h0];simp only[Sem.run_bind,dV (w:=w) hz,Sem.run_pure,Result.andThen_ok,GD z.cells len s jb hs1];have sw:Instr.fill (λi=>some (i*s,s)) (dR z.cells.toList len).toArray (parts.map λ(i,x)=>(i,Z' x)).toList=some cx:=jt
    rw[sw];simp[newRow]
 case makeSlice t l c=>
  have hl:=hρ l (by simp[Op.operands])
  have hc:=hρ c (by simp[Op.operands])
  split at h<;>try cases h
  rename_i e n k hu dw md;rw[dw]at hl;rw[md]at hc;rw[hl.int_inv,hc.int_inv];split at h<;>try cases h
  rename_i info hi;split at h<;>try cases h
  rename_i z hz;cases hp:(decide (0<=n)&&decide (n<=k)&&decide (k*(info.bytes:Int)<=1073741824)&&decide (k<=1073741824)&&z.cells.toList.all bR&&Nat.beq z.cells.size info.size&&Nat.ble 1 info.size)with
  |false=>rw[hp]at h;cases h
  |true=>
   rw[hp]at h;simp only[aC,qX,cQ,aD]at hp;obtain⟨⟨⟨⟨⟨⟨h0,hnk⟩,hkb⟩,hk⟩,mw⟩,jb⟩,hs1⟩:=hp;have fo:=run_make (P:=P) w t e info z hu hi hz .i64 .i64 n k h0 hnk (by rw[Int.mul_comm];omega) (by omega)
   have ql:madeCells z.cells (k.toNat*info.size)=(dR z.cells.toList k.toNat).toArray:=by
    unfold madeCells;exact GD z.cells k.toNat info.size jb hs1
   have np:z.cells.toList.length=info.size:=by simpa using jb
   simp only[aI]at h;cases ry:decide (n=k)with
   |true=>
    rw[ry]at h;simp only[aI,aA,aB]at h;obtain⟨rfl,rfl⟩:=h;have:n=k:=by simpa using ry
    subst this;refine⟨.slice (some ⟨w.heap.size,0,none⟩) n.toNat n.toNat,.cells (dR z.cells.toList n.toNat).toArray e (0,0),⟨w.heap.size,0,n.toNat*info.size,info.size⟩,?_,rfl,rfl,
     ⟨_,e,rfl,VRL.at (.same (tR mw _)),(λh=>by cases h),rfl⟩,λY' hμ=>VR.slc id 0 _ _ _ _ hμ (λ_=>rfl) (aS _) (.inl (by simp))⟩
    simp only[Sem.run_bind,fo,ql,Result.andThen_ok,Sem.run_pure];rfl
   |false=>
    rw[ry]at h;simp only[aJ,aA,aB]at h;obtain⟨rfl,rfl⟩:=h;refine⟨.slice (some ⟨w.heap.size,0,none⟩) n.toNat k.toNat,.cells (dR z.cells.toList k.toNat).toArray e (0,0),⟨w.heap.size,0,k.toNat*info.size,info.size⟩,?_,rfl,rfl,
     ⟨_,e,rfl,?_,(λ_=>?_),rfl⟩,λY' hμ=>VR.slc id 0 _ _ _ _ hμ (λe=>by omega) (by omega) (.inl (by simp))⟩
    .simp only[Sem.run_bind,fo,ql,Result.andThen_ok,Sem.run_pure];rfl
    .intro i v hv;have bh:i<n.toNat*z.cells.toList.length:=by
      rw[nF _ (by omega)]at hv
      split at hv
      .assumption
      .cases hv
     rw[nF _ (by omega),bI bh]at hv
     have hlt':i<k.toNat*z.cells.toList.length:=Nat.lt_of_lt_of_le bh (Nat.mul_le_mul_right _ (by omega))
     have di:bR v=true:=bJ.1 mw v (List.mem_of_getElem? hv);refine⟨v,?_,.same v di⟩;have:(dR z.cells.toList k.toNat)[i]?=some v:=by rw[nF _ (by omega),bI hlt'];exact hv
     simpa using this
    .constructor
     .show(dR z.cells.toList n.toNat).length<=k.toNat*info.size;rw[rB,np];exact Nat.mul_le_mul_right _ (by omega)
     .show k.toNat*info.size<=(dR z.cells.toList k.toNat).toArray.size;simp[rB,jb]
 case makeMap t r=>
  cases r with
  |none=>
   simp only[Fu,aI,aA,aB]at h;obtain⟨rfl,rfl⟩:=h;refine⟨.map (some w.heap.size),.map #[] 0,⟨w.heap.size,0,0,0⟩,?_,rfl,rfl,⟨rfl,rfl⟩,λY' hμ=>VR.mp id _ hμ⟩
   simp[Instr.makeMap]
  |some x=>
   have hx:=hρ x (by simp[Op.operands])
   simp only[Fu]at h;split at h
   .rename_i k n kt et hxe hu;rw[hxe]at hx;simp only[aI,aA,aB]at h;obtain⟨rfl,rfl⟩:=h;refine⟨.map (some w.heap.size),.map #[] 0,⟨w.heap.size,0,0,0⟩,?_,rfl,rfl,⟨rfl,rfl⟩,λY' hμ=>VR.mp id _ hμ⟩
    simp only[aK,hx.int_inv,Instr.makeMap,Sem.run_bind,dV (w:=w) (show bX P (underlying t)=some (.map kt et) by rw[bT];exact hu),Result.andThen_ok]
    simp[asInt,asIntOf]
   .cases h
end
end Go.AI
namespace Go.AI
section
variable{w0:W0}{P:Program}{Y:Mp}{H:St}{w:World}
def vJ: ∀(xs cs:List Value) (off:Nat),(eA cs off xs).length=cs.length
 |[],_,_=>rfl
 |x::xs,cs,off=>by rw[eA,vJ xs];simp
def Sq: ∀(xs cs:List Value) (off i:Nat),off+xs.length<=cs.length->(eA cs off xs)[i]?=if off<=i/\i<off+xs.length then xs[i-off]? else cs[i]?:=by
 intro xs;induction xs with
 |nil=>intro cs off i _;rw[eA,bH (by simp)]
 |cons x xs ih=>
  intro cs off i h;simp only[aM]at h;rw[eA,ih _ _ _ (by simp;omega)]
  by_cases h1:off+1<=i/\i<off+1+xs.length
  .rw[bI h1,bI (by simp;omega)]
   rw[show i-off=(i-(off+1))+1 by omega];simp
  .rw[bH h1];by_cases h2:i=off
   .subst h2;rw[bI (by simp),List.getElem?_set_self (by omega)];simp
   .rw[bH (by simp;omega),List.getElem?_set_ne (by omega)]
def Pq(l us:List Value)(a k:Nat)(h:a+us.length<=l.length):
    (l.take a++us++l.drop (a+us.length))[k]?=if a<=k/\k<a+us.length then us[k-a]? else l[k]?:=by
 have hl:(l.take a).length=a:=by simp;omega
 rw[aQ,List.getElem?_append];split
 .rename_i h1;rw[hl]at h1;rw[bH (by omega),List.getElem?_take,bI h1]
 .rename_i h1;rw[hl]at h1⊢;rw[List.getElem?_append];split
  .rename_i h2;rw[bI (by omega)]
  .rename_i h2;rw[bH (by omega),List.getElem?_drop]
   congr 1;omega
def AV(l us:List Value)(a:Nat)(h:a+us.length<=l.length):(l.take a++us++l.drop (a+us.length)).length=l.length:=by simp;omega
def RowAt.other{q:Place}{ds:List Value}{n:mX}(R:RowAt w0 Y w q ds n){b:Nat}{C C':Array Value}{t:TypeId}(hC:w.heap[b]?=some (.cells C t (0,0)))(cq:C'.size=C.size)
    (h:q.b=b->∀i,i<ds.length->C'[q.o+i]?=C[q.o+i]?):RowAt w0 Y (w.setRow b C') q ds n:=by
 obtain⟨⟨D,u,fr,hD,kc,cp⟩,h2,h3,h4,h5⟩:=R;refine⟨?_,h2,h3,h4,λhw C1 t1 fr1 e1=>?_⟩
 rotate_left
 .by_cases hb:q.b=b
  .rw[hb,setRow_heap w b C C' _ _ hC]at e1;cases e1;rfl
  .rw[setRow_other _ _ _ _ hb]at e1;exact h5 hw _ _ _ e1
 by_cases hb:q.b=b
 .rw[hb,hC]at hD;cases hD;refine⟨C',_,_,by rw[hb];exact setRow_heap w b C C' _ _ hC,λi v hi=>?_,λht=>by rw[cq];exact cp ht⟩
  obtain⟨u,hu,hr⟩:=kc i v hi;have bh:i<ds.length:=by
   rcases Nat.lt_or_ge i ds.length with h'|h'
   .exact h'
   .rw[List.getElem?_eq_none h']at hi;cases hi
  exact⟨u,by rw[h hb i bh];exact hu,hr⟩
 .exact⟨D,u,fr,by rw[setRow_other _ _ _ _ hb];exact hD,kc,cp⟩
def MapAt.other{q:Place}{es:List (Value×Value)}(R:MapAt w0 Y w q es){b:Nat}{C C':Array Value}{t:TypeId}(hC:w.heap[b]?=some (.cells C t (0,0))):MapAt w0 Y (w.setRow b C') q es:=by
 obtain⟨⟨ES,c,h,h1,h2⟩,h3⟩:=R;have hb:q.b≠b:=by intro e;rw[e,hC]at h;cases h
 exact⟨⟨ES,c,by rw[setRow_other _ _ _ _ hb];exact h,h1,h2⟩,h3⟩
def KeptO.setRow(K:KeptO w0 Y w){b:Nat}(hb:w0.heap.size<=b)(hbo: ∀k o,w0.O k=some o->b≠k)(C':Array Value):KeptO w0 Y (w.setRow b C'):=by
 refine⟨⟨K.os,K.output,by rw[setRow_size];exact K.size,λk hk=>by rw[setRow_other _ _ _ _ (by omega)];exact K.old k hk⟩,λk o hk=>?_,λid p h=>by rw[setRow_size];exact K.bnd id p h⟩
 .exact⟨by rw[setRow_other _ _ _ _ (Ne.symm (hbo k o hk))];exact(K.oth k o hk).1,(K.oth k o hk).2⟩
def Sim.write(S:Sim w0 P Y H w){id:Nat}{p:Place}{cs:List Value}{m m':mX}{H':St}{C:Array Value}{t:TypeId}(hp:Y id=some p)(hg:H.get id=some (.cells cs m))(bf:H.good m=true)
    (fq:m.wr=true) (hC:w.heap[p.b]?=some (.cells C t (0,0))) {off:Nat} {xs us:List Value} (hxs:VRL Y xs us) (hlen:off+xs.length<=cs.length)
    (hnext:H'.next=H.next) (hid:H'.get id=some (.cells (eA cs off xs) m')) (bn: ∀k,k≠id->H'.get k=H.get k)
    (qm:m'.wr=m.wr/\m'.tip=m.tip/\m'.z=m.z/\(∀n,jA m' n↔jA m n)/\(∀n,jA n m'↔jA n m)) (hml:m'.lim=m.lim)
    (ma: ∀k ds n,k≠id->H.get k=some (.cells ds n)->H'.good n=true->H.good n=true/\(¬jA m n∨(m.tip=true/\m.lim<=off)))
    (hvers: ∀k ds n g v,H'.get k=some (.cells ds n)->n.grp=some (g,v)->v<=H'.ver g):
    Sim w0 P Y H' (w.setRow p.b (C.toList.take (p.o+off)++us++C.toList.drop (p.o+off+us.length)).toArray):=by
 have R:=S.row id p cs m hp hg bf;have hin:xs.length=0∨p.o+off+us.length<=C.toList.length:=by
  rcases Nat.eq_zero_or_pos xs.length with h|h
  .exact .inl h
  .right;obtain⟨D,u,fr,hD,kc,_⟩:=R.row;rw[hC]at hD;cases hD;have:off+xs.length-1<cs.length:=by omega
   obtain⟨x,hx,_⟩:=kc _ _ (aV this);have:=(Array.getElem?_eq_some_iff.1 hx).1;rw[<-hxs.1];simp;omega
 generalize hC':(C.toList.take (p.o+off)++us++C.toList.drop (p.o+off+us.length)).toArray=C';have bc: ∀k,C'[k]?=if p.o+off<=k/\k<p.o+off+us.length then us[k-(p.o+off)]? else C[k]?:=by
  intro k;rw[<-hC'];rcases hin with h|h
  .have hu:us=[]:=by have:=hxs.1;rw[h]at this;exact List.eq_nil_of_length_eq_zero this.symm
   subst hu;rw[bH (by simp)]
   simp
  .have:=Pq C.toList us (p.o+off) k h;simpa using this
 have cq:C'.size=C.size:=by
  rw[<-hC'];rcases hin with h|h
  .have hu:us=[]:=by have:=hxs.1;rw[h]at this;exact List.eq_nil_of_length_eq_zero this.symm
   subst hu;simp
  .have:=AV C.toList us (p.o+off) h;simpa using this
 have sa:(eA cs off xs).length=cs.length:=vJ _ _ _;have Rid:RowAt w0 Y (w.setRow p.b C') p (eA cs off xs) m':=by
  obtain⟨⟨D,u,fr,hD,kc,cp⟩,h2,h3,h4,h5⟩:=R;rw[hC]at hD;cases hD;refine⟨⟨C',_,_,setRow_heap w p.b C C' _ _ hC,λi v hi=>?_,λht=>?_⟩,λh=>h2 (qm.1▸h),λh=>by rw[sa];exact h3 (qm.2.1▸h),by rw[qm.2.2.1];exact h4,λ_ C1 t1 fr1 e1=>by rw[setRow_heap w p.b C C' _ _ hC]at e1;cases e1;rfl⟩
  .rw[Sq _ _ _ _ hlen]at hi;rw[bc];split at hi
   .rename_i h1;rw[bI (by have:=hxs.1;omega)]
    obtain⟨u,hu,hr⟩:=hxs.get hi;exact⟨u,by rw[show p.o+i-(p.o+off)=i-off by omega];exact hu,hr⟩
   .rename_i h1;rw[bH (by have:=hxs.1;omega)]
    exact kc i v hi
  .rw[cq];exact cp (qm.2.1▸ht)
 have Roth: ∀k q ds n,k≠id->Y k=some q->H.get k=some (.cells ds n)->H.good n=true->(¬jA m n∨(m.tip=true/\m.lim<=off))->RowAt w0 Y (w.setRow p.b C') q ds n:=by
  intro k q ds n hk hq nc lk hs;refine(S.row k q ds n hq nc lk).other hC cq (λhb i hi=>?_)
  rw[bc,bH];intro h1;rcases hs with hs|⟨ht,hl⟩
  .exact S.off id k p q cs ds m n (Ne.symm hk) hp hq hg nc bf lk fq hs hb.symm (q.o+i) (by have:=hxs.1;omega) (by have:=hxs.1;omega) (by omega) (by omega)
  .exact S.lim id k p q cs ds m n (Ne.symm hk) hp hq hg nc bf lk ht hb.symm (q.o+i) (by have:=hxs.1;omega) (by have:=hxs.1;omega) (by omega) (by omega)
 have old: ∀{k q ds n},k≠id->Y k=some q->H'.get k=some (.cells ds n)->H'.good n=true->H.get k=some (.cells ds n)/\H.good n=true/\(¬jA m n∨(m.tip=true/\m.lim<=off)):=by
  intro k q ds n hk hq bp hgd';rw[bn k hk]at bp;obtain⟨h1,h2⟩:=ma k ds n hk bp hgd';exact⟨bp,h1,h2⟩
 refine⟨S.kept.setRow (R.wr fq) (λk o hk=>(S.kept.oth k o hk).2 id p hp) C',λk hk=>S.dom k (hnext▸hk),S.glob,?_,?_,?_,?_,?_,hvers,?_⟩
 .intro k q ds n hq bp lk;by_cases hk:k=id
  .subst hk;rw[hp]at hq;cases hq;rw[hid]at bp;cases bp;exact Rid
  .obtain⟨h1,h2,h3⟩:=old hk hq bp lk;exact Roth k q ds n hk hq h1 h2 h3
 .intro k q es hq bp;have hk:k≠id:=by intro e;subst e;rw[hid]at bp;cases bp
  rw[bn k hk]at bp;exact(S.map k q es hq bp).other hC
 .intro i j a b as bs n1 n2 bj ha hb kb gz h1 h2 hw hs;by_cases hi:i=id
  .subst hi;rw[hp]at ha;cases ha;rw[hid]at kb;cases kb;obtain⟨g1,g2,g3⟩:=old (Ne.symm bj) hb gz h2;rw[sa];exact S.off i j p b cs bs m n2 bj hp hb hg g1 bf g2 fq (λh=>hs ((qm.2.2.2.1 n2).2 h))
  .obtain⟨f1,f2,f3⟩:=old hi ha kb h1;by_cases hj:j=id
   .subst hj;rw[hp]at hb;cases hb;rw[hid]at gz;cases gz;rw[sa];exact S.off i j a p as cs n1 m bj ha hp f1 hg f2 bf hw (λh=>hs ((qm.2.2.2.2 n1).2 h))
   .obtain⟨g1,g2,g3⟩:=old hj hb gz h2;exact S.off i j a b as bs n1 n2 bj ha hb f1 g1 f2 g2 hw hs
 .intro i j a b as bs n1 n2 bj ha hb kb gz h1 h2 hw;by_cases hi:i=id
  .subst hi;rw[hp]at ha;cases ha;rw[hid]at kb;cases kb;obtain⟨g1,g2,g3⟩:=old (Ne.symm bj) hb gz h2;rw[sa];exact S.tip i j p b cs bs m n2 bj hp hb hg g1 bf g2 (qm.2.1▸hw)
  .obtain⟨f1,f2,f3⟩:=old hi ha kb h1;by_cases hj:j=id
   .subst hj;rw[hp]at hb;cases hb;rw[hid]at gz;cases gz;rw[sa];have:=S.tip i j a p as cs n1 m bj ha hp f1 hg f2 bf hw;exact⟨this.1,λh=>this.2 (qm.2.1▸h)⟩
   .obtain⟨g1,g2,g3⟩:=old hj hb gz h2;exact S.tip i j a b as bs n1 n2 bj ha hb f1 g1 f2 g2 hw
 .intro i j a b es fs bj ha hb kb gz;have hi:i≠id:=by intro e;subst e;rw[hid]at kb;cases kb
  have hj:j≠id:=by intro e;subst e;rw[hid]at gz;cases gz
  rw[bn i hi]at kb;rw[bn j hj]at gz;exact S.maps i j a b es fs bj ha hb kb gz
 .intro i j a b as bs n1 n2 bj ha hb kb gz h1 h2 hw;by_cases hi:i=id
  .subst hi;rw[hp]at ha;cases ha;rw[hid]at kb;cases kb;obtain⟨g1,g2,g3⟩:=old (Ne.symm bj) hb gz h2;rw[sa,hml];exact S.lim i j p b cs bs m n2 bj hp hb hg g1 bf g2 (qm.2.1▸hw)
  .obtain⟨f1,f2,f3⟩:=old hi ha kb h1;by_cases hj:j=id
   .subst hj;rw[hp]at hb;cases hb;rw[hid]at gz;cases gz;rw[sa];exact S.lim i j a p as cs n1 m bj ha hp f1 hg f2 bf hw
   .obtain⟨g1,g2,g3⟩:=old hj hb gz h2;exact S.lim i j a b as bs n1 n2 bj ha hb f1 g1 f2 g2 hw
def DL(v:Value):v.oneCell'=one v:=by cases v<;>rfl
def Ta{t:TypeId}{a b x y:Value}{H':St}(S:Sim w0 P Y H w)(ra:VR Y a b)(rx:VR Y x y)(h:gE P H t a x=some H'):
    ∃w',(Instr.storeAt t b y).run P w= .ok () w'/\Sim w0 P Y H' w'/\H'.next=H.next:=by
 unfold gE at h;split at h<;>try cases h
 rename_i id off;obtain⟨p,hp,rfl⟩:=ra.ptr_inv;split at h<;>try cases h
 rename_i cs m n bi hn;obtain⟨hg,bf⟩:=St.row_some bi;cases hc:(m.wr&&Nat.beq x.cells.size n&&Nat.ble (off+n) cs.length&&x.cells.toList.all one)with
 |false=>rw[hc]at h;cases h
 |true=>
  rw[hc]at h;simp only[aC,qX,cQ,aD]at hc;obtain⟨⟨⟨fq,cq⟩,hle⟩,gw⟩:=hc;simp only[aI]at h;have R:=S.row id p cs m hp hg bf;obtain⟨C,ty,fr,hC,hcs,_⟩:=R.row;have hfr:=R.fz fq C ty fr hC;subst hfr;have hxs:=rx.cells;have gr:x.cells.toList.length=n:=by simpa using cq
  have hone': ∀v∈y.cells.toList,v.oneCell'=true:=by
   intro v hv;rw[DL];have:=hxs.one_eq;rw[gw]at this;exact bJ.1 this v hv
  have jq:p.o+off+y.cells.toList.length<=C.size∨y.cells.toList=[]:=by
   rcases Nat.eq_zero_or_pos n with h0|h0
   .right;apply List.eq_nil_of_length_eq_zero;rw[<-hxs.1,gr,h0]
   .left;have:off+n-1<cs.length:=by omega
    obtain⟨u,hu,_⟩:=hcs _ _ (aV this);have:=(Array.getElem?_eq_some_iff.1 hu).1;rw[<-hxs.1,gr];omega
  have fo:(Instr.storeAt t (.pointer (some ⟨p.b,p.o+off,none⟩)) y).run P w=
        .ok () (w.setRow p.b (C.toList.take (p.o+off)++y.cells.toList++C.toList.drop (p.o+off+y.cells.toList.length)).toArray):=by
   unfold Instr.storeAt storeVar;have hsy: ¬(y.cells.size≠n):=by have:=hxs.size;omega
   simp only[Instr.sureAddr,Sem.run_bind,Sem.run_pure,Result.andThen_ok,dV (w:=w) (show bX P (Go.sizeOf t)=some n by rw[dC];exact hn),bH hsy]
   rcases jq with hf|hf
   .have:=run_storeCells_at P p.b (p.o+off) ty y.cells.toList 0 C w hC (by simpa using hf) hone'
    simpa using this
   .rw[hf];simp only[storeCells,bA,aX,Nat.add_zero,List.take_append_drop,Array.toArray_toList];rw[setRow_self w p.b C ty (0,0) hC];rfl
  refine⟨_,fo,?_⟩;cases jg:m.grp with
  |none=>
   simp only[jg,aA]at h;subst h;have nr: ∀n,¬jA m n:=λn ⟨g,v,v',e,_⟩=>by rw[jg]at e;cases e
   refine⟨S.write hp hg bf fq hC hxs (by rw[gr];exact hle) rfl (m':=m) (by rw[St.get_put,bI rfl]) (λk hk=>by rw[St.get_put,bH hk]) ⟨rfl,rfl,rfl,λ_=>Iff.rfl,λ_=>Iff.rfl⟩ rfl
    (λk ds n _ _ lk=>⟨lk,.inl (nr n)⟩) (λk ds n g v hk gy=>?_),rfl⟩
   rw[St.get_put]at hk;split at hk
   .cases hk;rw[jg]at gy;cases gy
   .exact S.vers k ds n g v hk gy
  |some gv=>
   obtain⟨g,v⟩:=gv;simp only[jg]at h;cases db:(m.tip&&Nat.ble m.lim off)with
   |true=>
    rw[db]at h;simp only[aI,aA]at h;subst h;simp only[aC,qX,aD]at db;refine⟨S.write hp hg bf fq hC hxs (by rw[gr];exact hle) rfl (m':=m) (by rw[St.get_put,bI rfl]) (λk hk=>by rw[St.get_put,bH hk]) ⟨rfl,rfl,rfl,λ_=>Iff.rfl,λ_=>Iff.rfl⟩ rfl
     (λk ds n _ _ lk=>⟨lk,.inr db⟩) (λk ds n g v hk gy=>?_),rfl⟩
    rw[St.get_put]at hk;split at hk
    .cases hk;exact S.vers id _ _ g v hg gy
    .exact S.vers k ds n g v hk gy
   |false=>
   rw[db]at h;simp only[aJ,aA]at h;subst h;have pe:H.ver g=v:=(St.good_iff H m).1 bf g v jg;refine⟨S.write hp hg bf fq hC hxs (by rw[gr];exact hle) rfl (m':={m with grp:=some (g,v+1)}) (by rw[St.get_bump,St.get_put,bI rfl]) (λk hk=>by rw[St.get_bump,St.get_put,bH hk])
    ⟨rfl,rfl,rfl,λn=>?_,λn=>?_⟩ rfl (λk ds n hk nc lk=>?_) (λk ds n g' v' hk gy=>?_),rfl⟩
   .constructor
    .rintro⟨g1,v1,v2,e1,e2⟩;cases e1;exact⟨_,_,_,jg,e2⟩
    .rintro⟨g1,v1,v2,e1,e2⟩;rw[jg]at e1;cases e1;exact⟨_,_,_,rfl,e2⟩
   .constructor
    .rintro⟨g1,v1,v2,e1,e2⟩;cases e2;exact⟨_,_,_,e1,jg⟩
    .rintro⟨g1,v1,v2,e1,e2⟩;rw[jg]at e2;cases e2;exact⟨_,_,_,e1,rfl⟩
   .rw[St.good_iff]at lk;have pj: ∀v',n.grp≠some (g,v'):=by
     intro v' e;have h1:=lk g v' e;rw[St.ver_bump,bI rfl]at h1;have h2:=S.vers k ds n g v' nc e;omega
    refine⟨(St.good_iff H n).2 λg' v' e=>?_,.inl ?_⟩
    .have h1:=lk g' v' e;rw[St.ver_bump]at h1;split at h1
     .rename_i eg;subst eg;exact absurd e (pj v')
     .exact h1
    .rintro⟨g1,v1,v2,e1,e2⟩;rw[jg]at e1;cases e1;exact pj v2 e2
   .rw[St.get_bump,St.get_put]at hk;rw[St.ver_bump];split at hk
    .cases hk;cases gy;rw[bI rfl];exact aS _
    .have:=S.vers k ds n g' v' hk gy;split
     .rename_i eg;subst eg;omega
     .exact this
def Sim.setMap(S:Sim w0 P Y H w){id:Nat}{p:Place}{es es':List (Value×Value)}{ES':Array MapEntry}{c':Nat}(hp:Y id=some p)(hg:H.get id=some (.map es))
    (hk:VRL Y (es'.map (·.1)) (ES'.toList.map (·.key))) (hv:VRL Y (es'.map (·.2)) (ES'.toList.map (·.val))):
    Sim w0 P Y (H.put id (.map es')) {w with heap:=w.heap.setIfInBounds p.b (.map ES' c')}:=by
 have M:=S.map id p es hp hg;obtain⟨ES,c,hC,_⟩:=M.map;have bh:p.b<w.heap.size:=(Array.getElem?_eq_some_iff.1 hC).1;have cb:(w.heap.setIfInBounds p.b (.map ES' c'))[p.b]?=some (.map ES' c'):=by simp[bh]
 have mz: ∀k,k≠p.b->(w.heap.setIfInBounds p.b (.map ES' c'))[k]?=w.heap[k]?:=by
  intro k hk;rw[Array.getElem?_setIfInBounds_ne (Ne.symm hk)]
 have bn: ∀{k ob},(H.put id (.map es')).get k=some ob->k=id∨(k≠id/\H.get k=some ob):=by
  intro k ob h;rw[St.get_put]at h;by_cases e:k=id
  .exact .inl e
  .rw[bH e]at h;exact .inr ⟨e,h⟩
 have bu: ∀{k cs m},(H.put id (.map es')).get k=some (.cells cs m)->H.get k=some (.cells cs m):=by
  intro k cs m h;rcases bn h with rfl|⟨_,h'⟩
  .rw[St.get_put,bI rfl]at h;cases h
  .exact h'
 refine⟨⟨⟨S.kept.os,S.kept.output,by simpa using S.kept.size,λk hk=>?_⟩,λk o hk=>?_,λid p h=>by show _<(w.heap.setIfInBounds _ _).size;rw[Array.size_setIfInBounds];exact S.kept.bnd id p h⟩,S.dom,S.glob,?_,?_,?_,?_,?_,?_,?_⟩
 .show(w.heap.setIfInBounds p.b (.map ES' c'))[k]?=_;rw[mz k (by have:=M.wr;omega)];exact S.kept.old k hk
 .refine⟨?_,(S.kept.oth k o hk).2⟩;show(w.heap.setIfInBounds p.b (.map ES' c'))[k]?=_;rw[mz k (Ne.symm ((S.kept.oth k o hk).2 id p hp))];exact(S.kept.oth k o hk).1
 .intro k q cs m hq nc ma;have px:=bu nc;obtain⟨⟨D,t,fr,hD,kc,cp⟩,h2,h3,h4,h5⟩:=S.row k q cs m hq px ma;have hqb:q.b≠p.b:=by intro e;rw[e,hC]at hD;cases hD
  refine⟨⟨D,t,fr,?_,kc,cp⟩,h2,h3,h4,λhw C1 t1 fr1 e1=>h5 hw C1 t1 fr1 ((mz q.b hqb).symm.trans e1)⟩
  show(w.heap.setIfInBounds p.b (.map ES' c'))[q.b]?=_;rw[mz q.b (by intro e;rw[e,hC]at hD;cases hD)];exact hD
 .intro k q fs hq nc;rcases bn nc with rfl|⟨gx,px⟩
  .rw[hp]at hq;cases hq;rw[St.get_put,bI rfl]at nc;cases nc;exact⟨⟨ES',c',cb,hk,hv⟩,M.wr⟩
  .obtain⟨⟨a2j,cf,hF,h1,h2⟩,h3⟩:=S.map k q fs hq px;refine⟨⟨a2j,cf,?_,h1,h2⟩,h3⟩;show(w.heap.setIfInBounds p.b (.map ES' c'))[q.b]?=_;rw[mz q.b (Ne.symm (S.maps id k p q es fs (Ne.symm gx) hp hq hg px))];exact hF
 .intro i j a b cs ds m n bj ha hb h1 h2;exact S.off i j a b cs ds m n bj ha hb (bu h1) (bu h2)
 .intro i j a b cs ds m n bj ha hb h1 h2;exact S.tip i j a b cs ds m n bj ha hb (bu h1) (bu h2)
 .intro i j a b fs gs bj ha hb h1 h2;rcases bn h1 with rfl|⟨hi,h1'⟩
  .rw[hp]at ha;cases ha;rcases bn h2 with rfl|⟨hj,h2'⟩
   .exact absurd rfl bj
   .exact S.maps i j p b es gs bj hp hb hg h2'
  .rcases bn h2 with rfl|⟨hj,h2'⟩
   .rw[hp]at hb;cases hb;exact S.maps i j a p fs es bj ha hp h1' hg
   .exact S.maps i j a b fs gs bj ha hb h1' h2'
 .intro k cs m g v h1;exact S.vers k cs m g v (bu h1)
 .intro i j a b cs ds m n bj ha hb h1 h2;exact S.lim i j a b cs ds m n bj ha hb (bu h1) (bu h2)
def VRL.modify{xs us:List Value}(r:VRL Y xs us){x u:Value}(h:VR Y x u)(n:Nat):VRL Y (xs.modify n λ_=>x) (us.modify n λ_=>u):=by
 refine⟨by simp[r.1],λi y v hy hv=>?_⟩
 rw[List.getElem?_modify]at hy hv;by_cases e:n=i
 .subst e;simp only[bO,Option.map_eq_map,aF]at hy hv;obtain⟨_,_,rfl⟩:=hy;obtain⟨_,_,rfl⟩:=hv;exact h
 .simp only[bH e,id_map]at hy hv;exact r.2 i y v (by simpa using hy) (by simpa using hv)
def qF{N W:Type}(f:N->W)(l:List N)(n:Nat)(g:N->N)(g':W->W)(h: ∀x,f (g x)=g' (f x)):(l.modify n g).map f=(l.map f).modify n g':=by
 apply List.ext_getElem?;intro i;simp only[List.getElem?_map,List.getElem?_modify];cases l[i]? with
 |none=>simp
 |some x=>by_cases e:n=i<;>simp[e,h]
def rM{w:World}{b:Nat}{ES:Array MapEntry}{c:Nat}{o:Obj}(h:w.heap[b]?=some (.map ES c)):(setObj b o).run P w= .ok () {w with heap:=w.heap.setIfInBounds b o}:=by
 simp[setObj,Sem.run,h]
def tZ{t:TypeId}{m m' k k' x y:Value}{H':St}(S:Sim w0 P Y H w)(rm:VR Y m m')(rk:VR Y k k')(rx:VR Y x y)(h:eQ P H t m k x=some H'):
    ∃w',(Instr.mapUpdate t m' k' y).run P w= .ok () w'/\Sim w0 P Y H' w'/\H'.next=H.next:=by
 unfold eQ at h;split at h<;>try cases h
 rename_i kt et hu;split at h<;>try cases h
 rename_i id;split at h<;>try cases h
 rename_i es hg;cases rm with
 |same _ h=>simp[bR]at h
 |mp _ p hp=>
  obtain⟨ES,c,hC,hk,hv⟩:=(S.map id p es hp hg).map;unfold Instr.mapUpdate;simp only[Sem.run_bind,dV (w:=w) (show bX P (underlying t)=some (.map kt et) by rw[bT];exact hu),Result.andThen_ok,rN hC]
  cases hf:zH P kt k es with
  |none=>simp[hf]at h
  |some r=>
   obtain⟨hpk,hpks,ni,r',jr,hFR⟩:=KL (ES:=ES.toList) hk hv hf;obtain rfl:=rk.eq1 hpk;simp only[hf]at h;simp only[Sem.run_bind,dV (w:=w) (ni false),dV (w:=w) jr,Result.andThen_ok];cases r with
   |none=>
    cases r' with
    |some _=>exact hFR.elim
    |none=>
     simp only[aA]at h;subst h;refine⟨_,rM hC,S.setMap hp hg ?_ ?_,rfl⟩
     .simpa using hk.append (.cons (.same1 hpk) .nil)
     .simpa using hv.append (.cons rx .nil)
   |some iv=>
    obtain⟨i,val⟩:=iv;cases r' with
    |none=>exact hFR.elim
    |some ju=>
     obtain⟨j,u⟩:=ju;obtain⟨rfl,_⟩:=hFR;simp only at h;cases hb:Instr.sameBits 10000 ((es[i]?.map (·.1)).getD k') k' with
     |false=>rw[hb]at h;cases h
     |true=>
      rw[hb]at h;simp only[aI,aA]at h;subst h;have hkeys:ES.toList.map (·.key)=es.map (·.1):=by
       clear hf jr hb ni;have: ∀(l:List (Value×Value)) (us:List Value),VRL Y (l.map (·.1)) us->l.all (λe=>cK e.1)=true->us=l.map (·.1):=by
        intro l;induction l with
        |nil=>intro us hr _;exact hr.nil_inv
        |cons e l ih=>
         intro us hr ha;simp only[aO]at hr;obtain⟨u,gm,rfl,h1,h2⟩:=hr.cons_inv;simp only[aP,aC]at ha;rw[h1.eq1 ha.1,ih gm h2 ha.2];rfl
       exact this es _ hk hpks
      have hold:(Option.map (λx=>x.key) ES[i]?).getD k'=(es[i]?.map (·.1)).getD k':=by
       have h1:(ES.toList.map (·.key))[i]?=(es.map (·.1))[i]?:=by rw[hkeys]
       rw[List.getElem?_map,List.getElem?_map]at h1;have h2:ES.toList[i]?=ES[i]?:=by simp
       rw[h2]at h1;rw[h1]
      have hstay:(Instr.keyThatStays ((Option.map (λx=>x.key) ES[i]?).getD k') k').run P w= .ok k' w:=by
       unfold Instr.keyThatStays;rw[hold,bI hb];rfl
      simp only[Sem.run_bind,hstay,Result.andThen_ok];refine⟨_,rM hC,S.setMap hp hg ?_ ?_,rfl⟩
      .rw[qF _ _ _ _ (λ_=>k') (λ_=>rfl),Array.toList_modify,qF _ _ _ _ (λ_=>k') (λ_=>rfl)]
       exact hk.modify (.same1 hpk) i
      .rw[qF _ _ _ _ (λ_=>x) (λ_=>rfl),Array.toList_modify,qF _ _ _ _ (λ_=>y) (λ_=>rfl)]
       exact hv.modify rx i
end
end Go.AI
namespace Go.AI
section
variable{w0:W0}{P:Program}{Y:Mp}{H:St}{w:World}
def Sim.untip(S:Sim w0 P Y H w){id:Nat}{cs:List Value}{m:mX}(hg:H.get id=some (.cells cs m)):Sim w0 P Y (H.put id (.cells cs {m with tip:=false})) w:=by
 have bc: ∀{k ds n},(H.put id (.cells cs {m with tip:=false})).get k=some (.cells ds n)->∃n',H.get k=some (.cells ds n')/\n.wr=n'.wr/\n.z=n'.z/\n.grp=n'.grp/\(n.tip=true->n'.tip=true/\n.lim=n'.lim):=by
  intro k ds n h;rw[St.get_put]at h;split at h
  .rename_i e;subst e;cases h;exact⟨m,hg,rfl,rfl,rfl,λh=>by cases h⟩
  .exact⟨n,h,rfl,rfl,rfl,λh=>⟨h,rfl⟩⟩
 have lj: ∀{k es},(H.put id (.cells cs {m with tip:=false})).get k=some (.map es)->H.get k=some (.map es):=by
  intro k es h;rw[St.get_put]at h;split at h
  .cases h
  .exact h
 have bf: ∀{n n':mX},n.grp=n'.grp->H.good n=true->H.good n'=true:=by
  intro n n' e h;rw[St.good_iff]at h⊢;intro g v e';exact h g v (e.trans e')
 have cb: ∀{a a' b b':mX},a.grp=a'.grp->b.grp=b'.grp->jA a' b'->jA a b:=by
  rintro a a' b b' e1 e2 ⟨g,v,v',h1,h2⟩;exact⟨g,v,v',e1.trans h1,e2.trans h2⟩
 refine⟨S.kept,S.dom,S.glob,?_,?_,?_,?_,?_,?_,?_⟩
 .intro k q ds n hq h ma;obtain⟨n',h',e1,e2,e3,e4⟩:=bc h;obtain⟨⟨D,t,fr,hD,kc,cp⟩,h2,h3,h4,h5⟩:=S.row k q ds n' hq h' (bf e3 ma);exact⟨⟨D,t,fr,hD,kc,λht=>cp (e4 ht).1⟩,λhw=>h2 (e1▸hw),λht=>h3 (e4 ht).1,by rw[h4,e2],λhw=>h5 (e1▸hw)⟩
 .intro k q es hq h;exact S.map k q es hq (lj h)
 .intro i j a b as bs n1 n2 bj ha hb h1 h2 g1 g2 hw hs;obtain⟨m1,f1,a1,a2,a3,a4⟩:=bc h1;obtain⟨m2,f2,b1,b2,b3,b4⟩:=bc h2;exact S.off i j a b as bs m1 m2 bj ha hb f1 f2 (bf a3 g1) (bf b3 g2) (a1▸hw) (λh=>hs (cb a3 b3 h))
 .intro i j a b as bs n1 n2 bj ha hb h1 h2 g1 g2 hw;obtain⟨m1,f1,a1,a2,a3,a4⟩:=bc h1;obtain⟨m2,f2,b1,b2,b3,b4⟩:=bc h2;have:=S.tip i j a b as bs m1 m2 bj ha hb f1 f2 (bf a3 g1) (bf b3 g2) (a4 hw).1;exact⟨this.1,λh=>this.2 (b4 h).1⟩
 .intro i j a b es fs bj ha hb h1 h2;exact S.maps i j a b es fs bj ha hb (lj h1) (lj h2)
 .intro k ds n g v h e;obtain⟨n',h',_,_,e3,_⟩:=bc h;exact S.vers k ds n' g v h' (e3▸e)
 .intro i j a b as bs n1 n2 bj ha hb h1 h2 g1 g2 hw;obtain⟨m1,f1,a1,a2,a3,a4⟩:=bc h1;obtain⟨m2,f2,b1,b2,b3,b4⟩:=bc h2;rw[(a4 hw).2];exact S.lim i j a b as bs m1 m2 bj ha hb f1 f2 (bf a3 g1) (bf b3 g2) (a4 hw).1
def Sim.extend(S:Sim w0 P Y H w){id id':Nat}{p:Place}{cs xs us:List Value}{m:mX}{C:Array Value}{t:TypeId}{off:Nat}(hp:Y id=some p)(hg:H.get id=some (.cells cs m))(bf:H.good m=true)
    (cp:m.tip=true) (fq:m.wr=true) (pu:m.grp.isSome=true) (hC:w.heap[p.b]?=some (.cells C t (0,0))) (jp:off<=cs.length) (hxs:VRL Y xs us) (jq:p.o+cs.length+xs.length<=p.e)
    (hid:Y id'=none) (bh:id'<H.next):
    Sim w0 P (upd Y id' ⟨p.b,p.o+off,p.e,p.z⟩) ((H.put id (.cells cs {m with tip:=false})).put id' (.cells (cs.drop off++xs) {m with lim:=(cs.drop off).length}))
      (w.setRow p.b (C.toList.take (p.o+cs.length)++us++C.toList.drop (p.o+cs.length+us.length)).toArray):=by
 have bn:id'≠id:=by intro e;subst e;rw[hid]at hp;cases hp
 have bz:=lD (⟨p.b,p.o+off,p.e,p.z⟩:Place) hid;have R:=S.row id p cs m hp hg bf;have hCe:p.e<=C.size:=by
  obtain⟨D,u,fr,hD,_,ht⟩:=R.row;rw[hC]at hD;cases hD;exact ht cp
 have hin:p.o+cs.length+us.length<=C.toList.length:=by have:=hxs.1;simp;omega
 generalize hC':(C.toList.take (p.o+cs.length)++us++C.toList.drop (p.o+cs.length+us.length)).toArray=C';have bc: ∀k,C'[k]?=if p.o+cs.length<=k/\k<p.o+cs.length+us.length then us[k-(p.o+cs.length)]? else C[k]?:=by
  intro k;rw[<-hC'];have:=Pq C.toList us (p.o+cs.length) k hin;simpa using this
 have cq:C'.size=C.size:=by rw[<-hC'];have:=AV C.toList us (p.o+cs.length) hin;simpa using this
 have fu:=hxs.1;have gb:(cs.drop off++xs).length=cs.length-off+xs.length:=by simp
 have dm: ∀{k q ds n},upd Y id' ⟨p.b,p.o+off,p.e,p.z⟩ k=some q->((H.put id (.cells cs {m with tip:=false})).put id' (.cells (cs.drop off++xs) {m with lim:=(cs.drop off).length})).get k=some (.cells ds n)->
      (k=id'/\q=⟨p.b,p.o+off,p.e,p.z⟩/\ds=cs.drop off++xs/\n={m with lim:=(cs.drop off).length})∨(k=id/\q=p/\ds=cs/\n={m with tip:=false})∨(k≠id'/\k≠id/\Y k=some q/\H.get k=some (.cells ds n)):=by
  intro k q ds n hq h;by_cases e:k=id'
  .subst e;rw[kC]at hq;cases hq;rw[St.get_put,bI rfl]at h;cases h;exact .inl ⟨rfl,rfl,rfl,rfl⟩
  .rw[iM e]at hq;rw[St.get_put,bH e,St.get_put]at h;by_cases e2:k=id
   .subst e2;rw[hp]at hq;cases hq;rw[bI rfl]at h;cases h;exact .inr (.inl ⟨rfl,rfl,rfl,rfl⟩)
   .rw[bH e2]at h;exact .inr (.inr ⟨e,e2,hq,h⟩)
 have hcaseM: ∀{k q es},upd Y id' ⟨p.b,p.o+off,p.e,p.z⟩ k=some q->((H.put id (.cells cs {m with tip:=false})).put id' (.cells (cs.drop off++xs) {m with lim:=(cs.drop off).length})).get k=some (.map es)->Y k=some q/\H.get k=some (.map es):=by
  intro k q es hq h;rw[St.get_put]at h;split at h
  .cases h
  .rename_i e;rw[iM e]at hq;rw[St.get_put]at h;split at h
   .cases h
   .exact⟨hq,h⟩
 have hsg:jA m {m with tip:=false}:=by
  obtain⟨⟨g,v⟩,e⟩:=Option.isSome_iff_exists.1 pu;exact⟨g,v,v,e,e⟩
 have hsg':jA {m with tip:=false} m:=by
  obtain⟨⟨g,v⟩,e⟩:=Option.isSome_iff_exists.1 pu;exact⟨g,v,v,e,e⟩
 refine⟨(S.kept.upd (id:=id') (q:=⟨p.b,p.o+off,p.e,p.z⟩) (λk o hk=>(S.kept.oth k o hk).2 id p hp) (S.kept.bnd id p hp)).setRow (R.wr fq) (λk o hk=>(S.kept.oth k o hk).2 id p hp) C',?_,?_,?_,?_,?_,?_,?_,?_,?_⟩
 .intro k hk;have gx:H.next<=k:=hk
  rw[iM (by omega)];exact S.dom k gx
 .intro g bp;obtain⟨q,hq,h1,h2⟩:=S.glob g bp;exact⟨q,bz g q hq,h1,h2⟩
 .intro k q ds n hq h ma;rcases dm hq h with⟨rfl,rfl,rfl,rfl⟩|⟨rfl,rfl,rfl,rfl⟩|⟨h1,h2,fk,h'⟩
  .obtain⟨⟨D,u,fr,hD,kc,_⟩,h2,h3,h4,h5⟩:=R;rw[hC]at hD;cases hD;refine⟨⟨C',_,_,setRow_heap w p.b C C' _ _ hC,λi v hi=>?_,λ_=>by rw[cq];exact hCe⟩,h2,λ_=>by rw[gb];show p.o+off+_<=p.e;omega,h4,λ_ C1 t1 fr1 e1=>by have e2:=(setRow_heap w p.b C C' _ _ hC).symm.trans e1;cases e2;rfl⟩
   show∃u,C'[p.o+off+i]?=some u/\_;rw[bc];rw[List.getElem?_append]at hi;split at hi
   .rename_i hl;rw[List.length_drop]at hl;rw[bH (by omega)]
    rw[List.getElem?_drop]at hi;obtain⟨u,hu,hr⟩:=kc _ _ hi;exact⟨u,by rw[show p.o+off+i=p.o+(off+i) by omega];exact hu,hr.mono' bz⟩
   .rename_i hl;rw[List.length_drop]at hl hi;have hix:i-(cs.length-off)<xs.length:=by
     rcases Nat.lt_or_ge (i-(cs.length-off)) xs.length with h'|h'
     .exact h'
     .rw[List.getElem?_eq_none h']at hi;cases hi
    rw[bI (by omega)]
    obtain⟨u,hu,hr⟩:=hxs.get hi;exact⟨u,by rw[show p.o+off+i-(p.o+cs.length)=i-(cs.length-off) by omega];exact hu,hr.mono' bz⟩
  .obtain⟨⟨D,u,fr,hD,kc,_⟩,h2,h3,h4,h5⟩:=R;rw[hC]at hD;cases hD;refine⟨⟨C',_,_,setRow_heap w q.b C C' _ _ hC,λi v hi=>?_,λht=>by cases ht⟩,h2,(λht=>by cases ht),h4,λ_ C1 t1 fr1 e1=>by have e2:=(setRow_heap w q.b C C' _ _ hC).symm.trans e1;cases e2;rfl⟩
   have hil:i<ds.length:=by
    rcases Nat.lt_or_ge i ds.length with h'|h'
    .exact h'
    .rw[List.getElem?_eq_none h']at hi;cases hi
   rw[bc,bH (by omega)]
   obtain⟨u,hu,hr⟩:=kc i v hi;exact⟨u,hu,hr.mono' bz⟩
  .have Rk:=(S.row k q ds n fk h' ma).other hC cq (λhb i hi=>by
    rw[bc,bH];intro h3;exact(S.tip id k p q cs ds m n (Ne.symm h2) hp fk hg h' bf ma cp).1 hb.symm (q.o+i) (by omega) (by omega) (by omega) (by omega))
   obtain⟨⟨D,u,fr,hD,kc,ht⟩,g2,g3,g4,g5⟩:=Rk;exact⟨⟨D,u,fr,hD,λi v hi=>let ⟨u,hu,hr⟩:=kc i v hi;⟨u,hu,hr.mono' bz⟩,ht⟩,g2,g3,g4,g5⟩
 .intro k q es hq h;obtain⟨fk,h'⟩:=hcaseM hq h;obtain⟨⟨ES,c,h1,h2,h3⟩,h4⟩:=(S.map k q es fk h').other hC (C':=C');exact⟨⟨ES,c,h1,h2.mono' bz,h3.mono' bz⟩,h4⟩
 .intro i j a b as bs n1 n2 bj ha hb h1 h2 g1 g2 hw hs;rcases dm ha h1 with⟨rfl,rfl,rfl,rfl⟩|⟨rfl,rfl,rfl,rfl⟩|⟨i1,i2,dd,h1'⟩
  .rcases dm hb h2 with⟨rfl,_⟩|⟨rfl,rfl,rfl,rfl⟩|⟨j1,j2,bv,h2'⟩
   .exact absurd rfl bj
   .exact absurd hsg hs
   .intro hbb x x1 x2 x3 x4;rw[gb]at x2;simp only at x1 x2 hbb;by_cases hx:x<p.o+cs.length
    .exact S.off id j p b cs bs m n2 (Ne.symm j2) hp bv hg h2' bf g2 fq hs hbb x (by omega) hx x3 x4
    .exact(S.tip id j p b cs bs m n2 (Ne.symm j2) hp bv hg h2' bf g2 cp).1 hbb x (by omega) (by omega) x3 x4
  .rcases dm hb h2 with⟨rfl,rfl,rfl,rfl⟩|⟨rfl,_⟩|⟨j1,j2,bv,h2'⟩
   .exact absurd hsg' hs
   .exact absurd rfl bj
   .exact S.off i j _ b _ bs m n2 bj hp bv hg h2' bf g2 fq (λh=>hs (by obtain⟨g,v,v',e1,e2⟩:=h;exact⟨g,v,v',e1,e2⟩))
  .rcases dm hb h2 with⟨rfl,rfl,rfl,rfl⟩|⟨rfl,rfl,rfl,rfl⟩|⟨j1,j2,bv,h2'⟩
   .intro hbb x x1 x2 x3 x4;rw[gb]at x4;simp only at x3 x4 hbb;by_cases hx:x<p.o+cs.length
    .exact S.off i id a p as cs n1 m i2 dd hp h1' hg g1 bf hw hs hbb x x1 x2 (by omega) hx
    .exact(S.tip id i p a cs as m n1 (Ne.symm i2) hp dd hg h1' bf g1 cp).1 hbb.symm x (by omega) (by omega) x1 x2
   .exact S.off i j a b as bs n1 m bj dd hp h1' hg g1 bf hw (λh=>hs (by obtain⟨g,v,v',e1,e2⟩:=h;exact⟨g,v,v',e1,e2⟩))
   .exact S.off i j a b as bs n1 n2 bj dd bv h1' h2' g1 g2 hw hs
 .intro i j a b as bs n1 n2 bj ha hb h1 h2 g1 g2 hw;rcases dm ha h1 with⟨rfl,rfl,rfl,rfl⟩|⟨rfl,rfl,rfl,rfl⟩|⟨i1,i2,dd,h1'⟩
  .rcases dm hb h2 with⟨rfl,_⟩|⟨rfl,rfl,rfl,rfl⟩|⟨j1,j2,bv,h2'⟩
   .exact absurd rfl bj
   .refine⟨λhbb x x1 x2 x3 x4=>?_,(λh=>by cases h)⟩
    rw[gb]at x1;simp only at x1;omega
   .have T:=S.tip id j p b cs bs m n2 (Ne.symm j2) hp bv hg h2' bf g2 cp;refine⟨λhbb x x1 x2 x3 x4=>?_,λht hbb x x1 x2 x3 x4=>?_⟩
    .rw[gb]at x1;simp only at x1 x2 hbb;exact T.1 hbb x (by omega) x2 x3 x4
    .rw[gb]at x1;simp only at x1 x2 hbb;exact T.2 ht hbb x (by omega) x2 x3 x4
  .cases hw
  .rcases dm hb h2 with⟨rfl,rfl,rfl,rfl⟩|⟨rfl,rfl,rfl,rfl⟩|⟨j1,j2,bv,h2'⟩
   .have T:=S.tip i id a p as cs n1 m i2 dd hp h1' hg g1 bf hw;refine⟨λhbb x x1 x2 x3 x4=>?_,λht hbb x x1 x2 x3 x4=>?_⟩
    .rw[gb]at x4;simp only at x3 x4 hbb;by_cases hx:x<p.o+cs.length
     .exact T.1 hbb x x1 x2 (by omega) hx
     .exact T.2 cp hbb x x1 x2 (by omega) (by omega)
    .rw[gb]at x3;simp only at x3 x4 hbb;exact T.2 cp hbb x x1 x2 (by omega) x4
   .have T:=S.tip i j a b as bs n1 m bj dd hp h1' hg g1 bf hw;exact⟨T.1,(λh=>by cases h)⟩
   .exact S.tip i j a b as bs n1 n2 bj dd bv h1' h2' g1 g2 hw
 .intro i j a b es fs bj ha hb h1 h2;obtain⟨a1,a2⟩:=hcaseM ha h1;obtain⟨b1,b2⟩:=hcaseM hb h2;exact S.maps i j a b es fs bj a1 b1 a2 b2
 .intro k ds n g v h e;rw[St.get_put]at h;split at h
  .cases h;exact S.vers id _ _ g v hg e
  .rw[St.get_put]at h;split at h
   .cases h;exact S.vers id _ _ g v hg e
   .exact S.vers k ds n g v h e
 .intro i j a b as bs n1 n2 bj ha hb h1 h2 g1 g2 hw;rcases dm ha h1 with⟨rfl,rfl,rfl,rfl⟩|⟨rfl,rfl,rfl,rfl⟩|⟨i1,i2,dd,h1'⟩
  .rcases dm hb h2 with⟨rfl,_⟩|⟨rfl,rfl,rfl,rfl⟩|⟨j1,j2,bv,h2'⟩
   .exact absurd rfl bj
   .intro hbb x x1 x2 x3 x4;simp only[List.length_drop]at x1;omega
   .intro hbb x x1 x2 x3 x4;rw[gb]at x2;simp only[List.length_drop]at x1 x2 hbb;exact(S.tip id j p b cs bs m n2 (Ne.symm j2) hp bv hg h2' bf g2 cp).1 hbb x (by omega) (by omega) x3 x4
  .cases hw
  .rcases dm hb h2 with⟨rfl,rfl,rfl,rfl⟩|⟨rfl,rfl,rfl,rfl⟩|⟨j1,j2,bv,h2'⟩
   .intro hbb x x1 x2 x3 x4;rw[gb]at x4;simp only at x3 x4 hbb;by_cases hx:x<p.o+cs.length
    .exact S.lim i id a p as cs n1 m i2 dd hp h1' hg g1 bf hw hbb x x1 x2 (by omega) hx
    .exact(S.tip id i p a cs as m n1 (Ne.symm i2) hp dd hg h1' bf g1 cp).1 hbb.symm x (by omega) (by omega) (by omega) x2
   .exact S.lim i j a b as bs n1 m bj dd hp h1' hg g1 bf hw
   .exact S.lim i j a b as bs n1 n2 bj dd bv h1' h2' g1 g2 hw
def MQ{z:Nat}{x x':Value}{n:Nat}{xs:List Value}{t1:TypeId}{u:TypeDesc}(S:Sim w0 P Y H w)(r:VR Y x x')(hu:P.underlying t1=some u)
    (hk:BJ u x=true) (gw:xs.all one=true) (h:kO H z x=some (n,xs)):
    ∃news,Src P z t1 x' n news w/\VRL Y xs news:=by
 unfold kO at h;split at h<;>try cases h
 .obtain⟨rfl,rfl,rfl⟩:=r.nilslc_inv;cases u<;>simp only[BJ,eT,bD,Bool.false_eq_true]at hk;exact⟨[],Src.ofNil w hu 0,.nil⟩
 .rename_i id off len c;split at h<;>try cases h
  rename_i cs m' bi;rw[aF]at h;obtain⟨l,hl,he⟩:=h;cases he;obtain⟨hg,bf⟩:=St.row_some bi;obtain⟨p,cap,hp,rfl,_⟩:=r.slc_inv;obtain⟨C,ty,fr,hC,hcs,_⟩:=(S.row id p cs _ hp hg bf).row;obtain⟨rfl,hle⟩:=wC hl;have hv:=Ak hcs hle;cases u<;>simp only[BJ,eT,bD,Bool.false_eq_true]at hk;refine⟨_,Src.ofSlice w hu _ n cap _ (by rw[<-hv.1];simp;omega) (λj v hj=>?_) (λv dy=>?_),hv⟩
  .rw[iX,Au hC];rw[List.getElem?_take]at hj;split at hj
   .rw[List.getElem?_drop]at hj;simpa using hj
   .cases hj
  .rw[DL];have:=hv.one_eq;rw[gw]at this;exact bJ.1 this v dy
 .rename_i s;obtain rfl:=r.string_inv;rw[cQ,Bool.cond_decide]at h;split at h
  .rename_i hz;cases h;subst hz;cases u<;>simp only[BJ,eT,Bool.not_false,Bool.false_eq_true]at hk;refine⟨_,Src.ofString w hu s,VRL.same ?_⟩;rw[bJ];intro v hv;obtain⟨_,_,rfl⟩:=List.mem_map.1 hv;rfl
  .cases h
 .cases r with
  |same _ hp=>simp[bR]at hp
  |emp a s cap h=>
   cases u<;>simp only[BJ,eT,bD,Bool.false_eq_true]at hk;exact⟨[],Src.ofSlice w hu a 0 cap [] (by simp) (λj v hj=>by simp at hj) (λv dy=>by simp at dy),.nil⟩
def Uy{t tx ty e:TypeId}{i:TypeInfo}(ht:P.underlying t=some (.slice e))(hi:P.info? e=some i){b off sLen sCap:Nat}{x:Value}{n:Nat}{news:List Value}(hs:Src P i.size tx x n news w)
    (jl:sLen+n<=sCap) {cur:Array Value} {te:TypeId} (hC:w.heap[b]?=some (.cells cur te (0,0))) (jq:off+sLen*i.size+news.length<=cur.size):
    (Builtin.append_ #[t,tx] ty #[.slice (some ⟨b,off,none⟩) sLen sCap,x]).run P w=
      .ok (.slice (some ⟨b,off,none⟩) (sLen+n) sCap) (w.setRow b (cur.toList.take (off+sLen*i.size)++news++cur.toList.drop (off+sLen*i.size+news.length)).toArray):=by
 have ci:=run_storeCells_at P b (off+sLen*i.size) te news 0 cur w hC (by simpa using jq) hs.one
 simp only[Nat.add_zero]at ci;rcases hs.kind with⟨e',hk⟩|hk<;>simp[Builtin.append_,run_underlying ht,run_underlying hk,Go.sizeOf,typeInfo,hi,hs.len,jl,hs.cells,Addr.add_lit,ci]
def Ay(z:Array Value)(n:Nat):(Builtin.zeroCells z n).size=n*z.size:=by simp[Builtin.zeroCells]
def Ar{t tx ty e:TypeId}{i:TypeInfo}{z:Value}(S:Sim w0 P Y H w)(ht:P.underlying t=some (.slice e))(hi:P.info? e=some i)(hz:i.zero=some z)(jb:z.cells.size=i.size)
    {base:Option Addr} {sLen sCap:Nat} {old olds:List Value} (hold:(Builtin.firstCells i.size sLen (.slice base sLen sCap)).run P w.drew= .ok olds.toArray w.drew) (qh:olds.length=sLen*i.size) (hor:VRL Y old olds)
    {x:Value} {n:Nat} {xs news:List Value} (hs:Src P i.size tx x n news w) (nq:VRL Y xs news) (hg:sCap<sLen+n) (hb1:1<=i.bytes) (hb:(sLen+n)*i.bytes<=1073741824)
    {id':Nat} {mt:mX} (hid:Y id'=none) (bh:id'<H.next) (hmt:mt.z=i.size) (fa:H.get id'=some (.cells (old++xs) mt)):
    ∃v' w' p,(Builtin.append_ #[t,tx] ty #[.slice base sLen sCap,x]).run P w= .ok v' w'/\VR (upd Y id' p) (.slice (some ⟨id',0,none⟩) (sLen+n) (sLen+n+1)) v'/\Sim w0 P (upd Y id' p) H w':=by
 have gb:sLen+n<=(sLen+n)*i.bytes:=Nat.le_mul_of_pos_right _ (by omega)
 have fo:=run_append_grow_src w t tx ty e i z ht hi hz base sLen sCap olds hold x n news hs hg (by omega) (growslice_fits hg (by omega))
 have fc:=grownCap_ge w (sLen+n) sCap e;refine⟨_,_,⟨w.heap.size,0,grownCap w (sLen+n) sCap e*i.size,i.size⟩,fo,.slc id' 0 _ _ _ _ (kC _ _ _) (λe=>by omega) fc (.inl (by simp)),?_⟩
 refine(S.drawn (w.drawn+1)).alloc hid bh fa ⟨_,e,rfl,λj v hj=>?_,λ_=>?_,by simp[hmt]⟩ rfl rfl
 .obtain⟨u,hu,hr⟩:=(hor.append nq).get hj;refine⟨u,?_,hr⟩;have hjl:j<(olds++news).length:=by
   rcases Nat.lt_or_ge j (olds++news).length with h'|h'
   .exact h'
   .rw[List.getElem?_eq_none h']at hu;cases hu
  rw[Array.getElem?_append_left (by simpa using hjl)]
  simpa using hu
 .constructor
  .rw[(hor.append nq).1];simp only[aZ,qh,hs.newsLen,<-Nat.add_mul];exact Nat.mul_le_mul_right _ fc
  .simp only[Array.size_append,List.size_toArray,aZ,qh,hs.newsLen,Ay,jb,<-Nat.add_mul];exact Nat.mul_le_mul_right _ (by omega)
def MO{c:Call}{ty:TypeId}{s s' x x' v:Value}{H':St}{id':Nat}(S:Sim w0 P Y H w)(rs:VR Y s s')(rx:VR Y x x')(hid:Y id'=none)(bh:id'<H.next)(h:fS P H id' c s x=some (v,H')):
    ∃v' w' Y',(Builtin.append_ c.argTypes ty #[s',x']).run P w= .ok v' w'/\VR Y' v v'/\Sim w0 P Y' H' w'/\(∀k p,Y k=some p->Y' k=some p)/\(∀k,k≠id'->Y' k=Y k)/\H'.next=H.next:=by
 unfold fS at h;split at h<;>try cases h
 rename_i t t1 jy;have hts':c.argTypes= #[t,t1]:=by
  apply Array.toList_inj.1;rw[jy]
 rw[hts'];split at h<;>try cases h
 rename_i e u hu hu1;cases hk:BJ u x with
 |false=>rw[hk]at h;cases h
 |true=>
  rw[hk]at h;simp only[aI]at h;split at h<;>try cases h
  rename_i info hi;split at h<;>try cases h
  rename_i n xs z mo hz;cases hc:(xs.all one&&Nat.ble 1 info.size&&Nat.ble 1 info.bytes&&Nat.beq z.cells.size info.size&&eT s)with
  |false=>rw[hc]at h;cases h
  |true=>
   rw[hc]at h;simp only[aC,qX,cQ,aD]at hc;obtain⟨⟨⟨⟨gw,hz1⟩,hb1⟩,jb⟩,cr⟩:=hc;simp only[aI]at h;obtain⟨news,hs,nq⟩:=MQ S rx hu1 hk gw mo;rw[cQ,Bool.cond_decide]at h;split at h
   .rename_i hn;subst hn;simp only[aA,aB]at h;obtain⟨rfl,rfl⟩:=h;have hnews:news=[]:=by have:=hs.newsLen;simpa using this
    subst hnews;cases s<;>simp only[eT,Bool.false_eq_true]at cr;rename_i a l c';refine⟨s',w,Y,?_,rs,S,λ_ _ h=>h,λ_ _=>rfl,rfl⟩
    have: ∃base len cap,s'= .slice base len cap/\len<=cap:=by
     cases a with
     |none=>obtain⟨rfl,rfl,rfl⟩:=rs.nilslc_inv;exact⟨none,0,0,rfl,aS _⟩
     |some a=>
      cases rs with
      |same _ h=>simp[bR]at h
      |slc id off len c cap p h hc hl he=>exact⟨_,_,_,rfl,hl⟩
      |emp a s cap h=>exact⟨_,_,_,rfl,Nat.zero_le _⟩
    obtain⟨base,len,cap,rfl,hle⟩:=this;exact run_append_nothing w t t1 ty e info hu hi base len cap hle x' hs
   .rename_i hn;unfold gX at h;split at h<;>try cases h
    ·
     obtain⟨rfl,rfl,rfl⟩:=rs.nilslc_inv;rw[qX,Bool.cond_decide]at h;split at h
     .rename_i hb;simp only[aA,aB]at h;obtain⟨rfl,rfl⟩:=h;have S1:Sim w0 P Y (H.put id' (.cells xs (fW info.size id'))) w:=S.put_new hid (λcs m g v e1 e2=>by cases e1;simp only[fW,aA,aB]at e2;omega)
      obtain⟨v',w',p,h1,h2,h3⟩:=Ar (ty:=ty) S1 hu hi hz jb (base:=none) (sLen:=0) (sCap:=0) (old:=[]) (olds:=[]) (run_firstCells_none _ _ _ _ _) (by simp) .nil hs nq (by omega) hb1 (by simpa using hb) hid bh (mt:=fW info.size id') rfl
       (by rw[St.get_put,bI rfl];rfl)
      refine⟨v',w',_,h1,by simpa using h2,h3,lD p hid,λk hk=>iM hk,rfl⟩
     .cases h
    .rename_i id off len k;obtain⟨p,cap,hp,rfl,nd,hlc,he⟩:=rs.slc_inv;rw[qX,Bool.cond_decide]at h;split at h
     .rename_i hb;split at h<;>try cases h
      rename_i cs m bi;obtain⟨hg,bf⟩:=St.row_some bi;have R:=S.row id p cs m hp hg bf;obtain⟨C,te,fr,hC,hcs,htipC⟩:=R.row;split at h<;>try cases h
      rename_i old tb;obtain⟨rfl,hle⟩:=wC tb;have hor:=Ak hcs hle;have qh:((C.toList.drop (p.o+off)).take (len*info.size)).length=len*info.size:=by rw[<-hor.1];simp;omega
      have hold:(Builtin.firstCells info.size len (.slice (some ⟨p.b,p.o+off,none⟩) len cap)).run P w.drew= .ok ((C.toList.drop (p.o+off)).take (len*info.size)).toArray w.drew:=
       run_firstCells_some _ _ _ _ _ _ _ qh (λj v hj=>by
        rw[iX,Au (w:=w.drew) (show w.drew.heap[p.b]?=_ from hC)]
        rw[List.getElem?_take]at hj;split at hj
        .rw[List.getElem?_drop]at hj;simpa using hj
        .cases hj)
      rw[cQ,Bool.cond_decide]at h;split at h
      ·
       rename_i hkl;have fc:=nd hkl;simp only[aA,aB]at h;obtain⟨rfl,rfl⟩:=h;have S1:Sim w0 P Y (H.put id' (.cells ((cs.drop off).take (len*info.size)++xs) (fW info.size id'))) w:=S.put_new hid (λcs m g v e1 e2=>by cases e1;simp only[fW,aA,aB]at e2;omega)
       obtain⟨v',w',q,h1,h2,h3⟩:=Ar (ty:=ty) S1 hu hi hz jb hold qh hor hs nq (by omega) hb1 hb hid bh (mt:=fW info.size id') rfl (by rw[St.get_put,bI rfl])
       exact⟨v',w',_,h1,h2,h3,lD q hid,λk hk=>iM hk,rfl⟩
      .cases hc2:(m.tip&&m.wr&&Nat.beq m.z info.size&&Nat.beq (off+len*info.size) cs.length&&m.grp.isSome)with
       |false=>rw[hc2]at h;cases h
       |true=>
        rw[hc2]at h;simp only[aC,cQ,aD]at hc2;obtain⟨⟨⟨⟨cp,fq⟩,ku⟩,hend⟩,pu⟩:=hc2;simp only[aI,aA,aB]at h;obtain⟨rfl,rfl⟩:=h;have fp:(cs.drop off).take (len*info.size)=cs.drop off:=List.take_of_length_le (by simp;omega)
        have mw:p.z=info.size:=R.z.trans ku;by_cases jl:len+n<=cap
        ·
         have hfr:=R.fz fq C te fr hC;subst hfr;have gr:xs.length=n*info.size:=by rw[nq.1];exact hs.newsLen
         have hmul:(len+n)*info.size<=cap*info.size:=Nat.mul_le_mul_right _ jl;rw[Nat.add_mul]at hmul;have htl:=R.tip cp;have he:p.o+off+cap*info.size<=p.e:=by
          rw[mw]at he;rcases he with he|he
          .exact he
          .rw[he]at hend⊢;omega
         have jq:p.o+cs.length+xs.length<=p.e:=by rw[gr];omega
         have hCe:=htipC cp;have fo:=Uy (ty:=ty) hu hi hs jl hC (off:=p.o+off) (by rw[hs.newsLen];omega)
         have hpos:p.o+off+len*info.size=p.o+cs.length:=by omega
         rw[hpos]at fo;refine⟨_,_,upd Y id' ⟨p.b,p.o+off,p.e,p.z⟩,fo,?_,?_,lD _ hid,λk hk=>iM hk,rfl⟩
         .exact .slc id' 0 (len+n) (len+n+1) cap _ (kC _ _ _) (λe=>by omega) jl (.inl (by rw[mw];simp;omega))
         .rw[fp];exact S.extend hp hg bf cp fq pu hC (by omega) nq jq hid bh
        ·
         have bn:id'≠id:=by intro e;subst e;rw[hid]at hp;cases hp
         have S1:Sim w0 P Y ((H.put id (.cells cs {m with tip:=false})).put id' (.cells ((cs.drop off).take (len*info.size)++xs) {m with lim:=((cs.drop off).take (len*info.size)).length})) w:=
          (S.untip hg).put_new hid (λcx m' g v e1 e2=>by cases e1;exact S.vers id cs m g v hg e2)
         obtain⟨v',w',q,h1,h2,h3⟩:=Ar (ty:=ty) S1 hu hi hz jb hold qh hor hs nq (by omega) hb1 hb hid bh (mt:={m with lim:=((cs.drop off).take (len*info.size)).length}) ku (by rw[St.get_put,bI rfl])
         exact⟨v',w',_,h1,h2,h3,lD q hid,λk hk=>iM hk,rfl⟩
     .cases h
    ·
     rename_i b0 o0 s0 len k;cases hb0:(Nat.beq s0 1&&Nat.ble (n*info.bytes) 1073741824)with
     |false=>rw[hb0]at h;cases h
     |true=>
      rw[hb0]at h;simp only[aC,cQ,qX,aD]at hb0;simp only[aI,aA,aB]at h;obtain⟨rfl,rfl⟩:=h;cases rs with
      |same _ h=>simp[bR]at h
      |emp a s cap fc=>
       obtain rfl:=fc hb0.1;have S1:Sim w0 P Y (H.put id' (.cells xs (fW info.size id'))) w:=S.put_new hid (λcs m g v e1 e2=>by cases e1;simp only[fW,aA,aB]at e2;omega)
       obtain⟨v',w',p,h1,h2,h3⟩:=Ar (ty:=ty) S1 hu hi hz jb (base:=some a) (sLen:=0) (sCap:=0) (old:=[]) (olds:=[]) (run_firstCells_some _ _ _ _ _ _ ([]:List Value) (by simp) (λj v hj=>by simp at hj)) (by simp) .nil hs nq (by omega) hb1 (by simpa using hb0.2) hid bh (mt:=fW info.size id') rfl
        (by rw[St.get_put,bI rfl];rfl)
       refine⟨v',w',_,h1,by simpa using h2,h3,lD p hid,λk hk=>iM hk,rfl⟩
end
end Go.AI
