import Derived.Test.YtmebgielemmehaaGreatDoorKf
set_option linter.unusedVariables false
set_option linter.unusedSimpArgs false
set_option linter.constructorNameAsVariable false
set_option linter.defProp false
namespace Go.AI
section
variable{w0:W0}{P:Program}{Y:Mp}{H:St}{w:World}
structure AR(Y:Mp)(S:Slots)(α:Nat)(a:Act):Prop where
 size:α<=a.tmps.size
 defers:a.defers=[]
 slot: ∀i,VR Y (S.at i) (a.tmps.getD i undef)
def AR.mono{S:Slots}{α:Nat}{a:Act}{Y':Mp}(A:AR Y S α a)(h: ∀k p,Y k=some p->Y' k=some p):AR Y' S α a:=⟨A.size,A.defers,λi=>(A.slot i).mono' h⟩
def Slots.at_store(S:Slots)(d:Option Tmp)(v:Value)(i:Nat):(S.store d v).at i=if d=some i then v else S.at i:=by
 cases d with
 |none=>simp[Slots.store]
 |some d=>
  simp only[Slots.store,Slots.at,Tr.get_set,aA];by_cases e:i=d
  .subst e;simp
  .rw[bH e,bH (Ne.symm e)]
def BE(a:Act)(d:Option Tmp)(v:Value)(i:Nat)(h: ∀t,d=some t->t<a.tmps.size):(a.put d v).tmps.getD i undef=if d=some i then v else a.tmps.getD i undef:=by
 cases d with
 |none=>simp[Act.put]
 |some d=>
  have hd:=h d rfl;simp only[Act.put,aA,Array.getD_eq_getD_getElem?];by_cases e:d=i
  .subst e;rw[bI rfl,Array.getElem?_setIfInBounds_self_of_lt hd];rfl
  .rw[bH e,Array.getElem?_setIfInBounds_ne e]
def AR.put{S:Slots}{α:Nat}{a:Act}(A:AR Y S α a){d:Option Tmp}(hd: ∀t,d=some t->t<α){v v':Value}(r:VR Y v v'):AR Y (S.store d v) α (a.put d v'):=by
 refine⟨?_,?_,λi=>?_⟩
 .have:=A.size;cases d<;>simp[Act.put,this]
 .cases d<;>simp[Act.put,A.defers]
 .rw[Slots.at_store,BE _ _ _ _ (λt e=>Nat.lt_of_lt_of_le (hd t e) A.size)]
  split
  .exact r
  .exact A.slot i
def aGt{S:Slots}{α:Nat}{a:Act}(A:AR Y S α a)(ρ:Sim w0 P Y H w){x:Operand}(h:cI P x=true):VR Y (ev S x) (a.eval x):=by
 cases x with
 |tmp t=>exact A.slot t
 |const v=>exact .same1 h
 |global g=>
  simp only[cI,gQ,aD]at h;obtain⟨p,hp,hb,ho⟩:=ρ.glob g h;have:=VR.ptr (Y:=Y) g 0 p hp;rw[hb,ho]at this;exact this
 |func f=>exact .fn _ _ _ _ _ rfl (λi x u h=>by simp at h) rfl (λi x u h=>by simp at h)
def VR.of_bool{x:Value}{b:Bool}(r:VR Y x (.bool b)):x= .bool b:=by cases r;rfl
def AF{S:Slots}{a:Act}(ops:Array Oper)(o:Oper)(A: ∀j want d,o.guard=some (j,want)->ops[j]?.bind (·.dst)=some d->VR Y (S.at d) (a.tmps.getD d undef)):wanted ops S o=Region.wanted o (yielded ops a.tmps):=by
 unfold wanted Region.wanted;cases hg:o.guard with
 |none=>rfl
 |some jw=>
  obtain⟨j,want⟩:=jw;simp only[yielded];cases hd:ops[j]?.bind (·.dst)with
  |none=>simp
  |some d=>
   simp only[aK,aL];have r:=A j want d hg hd;rw[Array.getD_eq_getD_getElem?]at r;cases ht:a.tmps[d]? with
   |none=>
    rw[ht]at r;simp only[Option.getD_none]at r;cases hs:S.at d<;>first|rfl|skip
    rw[hs]at r;have:=r.bool_inv;cases this
   |some u=>
    rw[ht]at r;simp only[Option.getD_some]at r;cases hs:S.at d with
    |bool b=>rw[hs]at r;rw[r.bool_inv];cases b<;>cases want<;>rfl
    |_=>
     cases u with
     |bool b=>rw[r.of_bool]at hs;cases hs
     |_=>rfl
def RY{S:Slots}{α:Nat}{a:Act}(A:AR Y S α a)(ops:Array Oper)(o:Oper):wanted ops S o=Region.wanted o (yielded ops a.tmps):=
 AF ops o (λ_ _ d _ _=>A.slot d)
def CallOK(w0:W0)(P:Program)(call:FuncId->Array Value->St->Option (Value×St)):Prop:=
 ∀f args args' H H' w Y r,call f args H=some (r,H')->Sim w0 P Y H w->VRL Y args.toList args'.toList->
  (∃fn c,P.funcs[f]?=some fn/\fn.body=some c/\(fn.name== "runtime.NumGoroutine")=false)/\
  Calls P f args' w λe w'=> ∃Y' r',e= .returned r'/\VR Y' r r'/\Sim w0 P Y' H' w'/\Ext H.next Y Y'/\H.next<=H'.next
def ZM(w0:W0)(P:Program)(Y:Mp)(H H':St)(id:Nat)(a:Act)(o:Oper)(v:Value)(a':Act)(w':World):Prop:=
 ∃Y' v',a'=a.put o.dst v'/\VR Y' v v'/\Sim w0 P Y' H' w'/\(∀k p,Y k=some p->Y' k=some p)/\(∀k,k<H.next->k≠id->Y' k=Y k)/\H.next<=H'.next
def rC{a:Act}{o:Oper}{v':Value}{w':World}{K:Act->World->Prop}{Q:Exit->Act->World->Prop}(h:(execOp a.eval o).run P w= .ok (.value v') w')(k:K (a.put o.dst v') w'):o.wp P a w K Q:=by
 unfold Oper.wp;rw[h];exact k
def AC{a:Act}{o:Oper}{w':World}{K:Act->World->Prop}{Q:Exit->Act->World->Prop}(h:(execOp a.eval o).run P w= .ok .skip w')(k:K (a.put o.dst undef) w'):o.wp P a w K Q:=by
 unfold Oper.wp;rw[h];exact k
def Pw{Z:Operand->Value}{a:Act}{o:Oper}{v:Value}{Q:Exit->Act->World->Prop}(id:Nat)(ρ:Sim w0 P Y H w)(hρ: ∀x∈o.op.operands,VR Y (Z x) (a.eval x))(h:iV P H Z o=some v):
    o.wp P a w (ZM w0 P Y H H id a o v) Q:=by
 obtain⟨v',h1,h2⟩:=XK ρ hρ h;exact rC h1 ⟨Y,v',rfl,h2,ρ,λ_ _ h=>h,λ_ _ _=>rfl,aS _⟩
def PU{Z:Operand->Value}{a:Act}{o:Oper}{v:Value}{Q:Exit->Act->World->Prop}(id:Nat)(ρ:Sim w0 P Y H w)(hρ: ∀x∈o.op.operands,VR Y (Z x) (a.eval x))(h:iW P Z o=some v):
    o.wp P a w (ZM w0 P Y H H id a o v) Q:=by
 obtain⟨v',h1,h2⟩:=XM (Y:=Y) hρ h;exact rC (dV h1 w) ⟨Y,v',rfl,h2,ρ,λ_ _ h=>h,λ_ _ _=>rfl,aS _⟩
def KJ{Z:Operand->Value}{a:Act}{o:Oper}{v:Value}{ob:AObj}{id:Nat}{Q:Exit->Act->World->Prop}(ρ:Sim w0 P Y H w)(hρ: ∀x∈o.op.operands,VR Y (Z x) (a.eval x))
    (hid:Y id=none) (bh:id<H.next) (h:eZ P Z o id=some (v,ob)) (fa:H.get id=some ob):o.wp P a w (ZM w0 P Y H H id a o v) Q:=by
 obtain⟨v',O,p,h1,hb,ho,hN,hv⟩:=Tj (Y:=Y) w hρ h;exact rC h1 ⟨upd Y id p,v',rfl,hv _ (kC _ _ _),ρ.alloc hid bh fa hN hb ho,lD p hid,λk _ hk=>iM hk,aS _⟩
def Ch{Z:Operand->Value}{o:Oper}{id:Nat}{v:Value}{ob:AObj}(h:eZ P Z o id=some (v,ob)): ∀cs m g u,ob= .cells cs m->m.grp=some (g,u)->u<=0:=by
 intro cs m g u e hg;subst e;unfold eZ at h;split at h<;>try cases h
 .split at h<;>try cases h
  simp only[cond_eq_ite]at h;split at h<;>cases h;cases hg
 .simp only[cond_eq_ite]at h;split at h<;>cases h;cases hg
 .split at h<;>try cases h
  split at h<;>try cases h
  split at h<;>try cases h
  simp only[cond_eq_ite]at h;split at h<;>try cases h
  rw[aF]at h;obtain⟨_,_,e⟩:=h;cases e;cases hg
 .split at h<;>try cases h
  split at h<;>try cases h
  split at h<;>try cases h
  simp only[cond_eq_ite]at h;split at h<;>try cases h
  split at h<;>cases h
  .cases hg
  .simp only[aA,aB]at hg;omega
 .rename_i t r _;cases hb:Fu P Z t r<;>rw[hb]at h<;>cases h
def WW{call:FuncId->Array Value->St->Option (Value×St)}(bm:CallOK w0 P call){S:Slots}{a:Act}{o:Oper}{v:Value}{H':St}{id:Nat}{Q:Exit->Act->World->Prop}
    (ρ:Sim w0 P Y H w) (hρ: ∀x∈o.op.operands,VR Y (ev S x) (a.eval x)) (hid:Y id=none) (bh:id<H.next) (h:lY P call H (ev S) o id=some (v,H')):
    o.wp P a w (ZM w0 P Y H H' id a o v) Q:=by
 unfold lY at h;cases ho:o.op<;>simp only[ho]at h hρ<;>try cases h
 case store t p x=>
  rw[aF]at h;obtain⟨H1,h,he⟩:=h;cases he;obtain⟨w',h1,h2,h3⟩:=Ta ρ (hρ p (by simp[Op.operands])) (hρ x (by simp[Op.operands])) h
  refine AC (w':=w') ?_ ⟨Y,undef,rfl,.undef,h2,λ_ _ h=>h,λ_ _ _=>rfl,by omega⟩
  unfold execOp;rw[ho];simp[h1]
 case insert t m k x=>
  rw[aF]at h;obtain⟨H1,h,he⟩:=h;cases he;obtain⟨w',h1,h2,h3⟩:=tZ ρ (hρ m (by simp[Op.operands])) (hρ k (by simp[Op.operands])) (hρ x (by simp[Op.operands])) h
  refine AC (w':=w') ?_ ⟨Y,undef,rfl,.undef,h2,λ_ _ h=>h,λ_ _ _=>rfl,by omega⟩
  unfold execOp;rw[ho];simp[h1]
 case mapUpdate t m k x=>
  rw[aF]at h;obtain⟨H1,h,he⟩:=h;cases he;obtain⟨w',h1,h2,h3⟩:=tZ ρ (hρ m (by simp[Op.operands])) (hρ k (by simp[Op.operands])) (hρ x (by simp[Op.operands])) h
  refine AC (w':=w') ?_ ⟨Y,undef,rfl,.undef,h2,λ_ _ h=>h,λ_ _ _=>rfl,by omega⟩
  unfold execOp;rw[ho];simp[h1]
 case call c=>
  have hargs:=Aw (Y:=Y) (Z:=ev S) (Z':=a.eval) c.args.toList (λx hx=>hρ x (hX c x hx))
  split at h
  .rename_i hc;split at h<;>try cases h
   rename_i s x hsx;have fy:c.args= #[s,x]:=by apply Array.toList_inj.1;rw[hsx]
   obtain⟨v',w',Y',h1,h2,h3,h4,h5,h6⟩:=MO (ty:=o.type) ρ (hρ s (hX c s (by rw[hsx];simp))) (hρ x (hX c x (by rw[hsx];simp))) hid bh h
   refine rC (v':=v') (w':=w') ?_ ⟨Y',v',rfl,h2,h3,h4,λk _ hk=>h5 k hk,by omega⟩
   unfold execOp;rw[ho];simp only[resolve,hc,Sem.run_bind,Sem.run_pure,Result.andThen_ok,invoke,builtin];rw[fy];simp[h1]
  .split at h<;>try cases h
   rename_i g args nj;unfold gJ at nj;split at nj<;>try cases nj
   rename_i f hc;split at nj<;>try cases nj
   rename_i first captured hf
   have jt:=hρ f (by simp[Op.operands,Call.operands,hc])
   rw[hf]at jt;have gh: ∃us vs,a.eval f= .func (.func g) us vs/\VRL Y first.toList us.toList/\VRL Y captured.toList vs.toList:=by
    generalize a.eval f=y at jt;cases jt with
    |same _ h=>simp[bR]at h
    |fn _ xs ys us vs hl h dw h'=>exact⟨us,vs,rfl,⟨hl,h⟩,⟨dw,h'⟩⟩
   obtain⟨us,vs,hfe,hr1,hr2⟩:=gh;have dc:VRL Y (first++c.args.map (ev S)++captured).toList (us++c.args.map a.eval++vs).toList:=by
    simp only[Array.toList_append,Array.toList_map];exact(hr1.append hargs).append hr2
   obtain⟨⟨fn,code,gh,hbody,na⟩,hC⟩:=bm g _ _ H H' w Y v h ρ dc;have fo:(execOp a.eval o).run P w= .ok (.enter g (us++c.args.map a.eval++vs)) w:=by
    unfold execOp;rw[ho];simp only[resolve,hc,hfe,Deferred.ofValue,Sem.run_bind,Sem.run_pure,Result.andThen_ok,invoke,callFunc,run_program,gh,na,hbody,Option.isNone_some,Bool.false_eq_true,bN]
   unfold Oper.wp;rw[fo,Oper.upon_enter];refine hC.mono λe w' ⟨Y',r',he,hr,hZ,hE,hn⟩=>?_
   subst he;exact⟨Y',r',rfl,hr,hZ,hE.1,λk hk _=>hE.2 k hk,hn⟩
def aNU{call:FuncId->Array Value->St->Option (Value×St)}(bm:CallOK w0 P call){S:Slots}{α:Nat}{a:Act}{o:Oper}{v:Value}{H':St}{base i:Nat}{Q:Exit->Act->World->Prop}
    (A:AR Y S α a) (ρ:Sim w0 P Y H w) (dq: ∀x∈o.op.operands,cI P x=true) (hid:Y (base+i)=none) (bh:base+i<H.next) (h:tY P call base i o S H=some (v,H')):
    o.wp P a w (ZM w0 P Y H H' (base+i) a o v) Q:=by
 have hρ: ∀x∈o.op.operands,VR Y (ev S x) (a.eval x):=λx hx=>aGt A ρ (dq x hx)
 unfold tY at h;split at h
 .rw[aF]at h;obtain⟨_,h,e⟩:=h;cases e;unfold oO at h;split at h
  .rename_i v' dy;cases h;exact PU _ ρ hρ dy
  .split at h<;>try cases h
   rename_i s d x ho;have h1:=Th ρ (hρ x (by rw[ho];simp[Op.operands])) h
   have di: ∃ba,v= .string ba:=by
    unfold oP at h;split at h<;>try cases h
    split at h<;>try cases h
    split at h<;>try cases h
    .split at h<;>try cases h
     split at h<;>try cases h
     rw[aF]at h;obtain⟨ns,_,rfl⟩:=h;exact⟨_,rfl⟩
    .exact⟨_,rfl⟩
   obtain⟨ba,rfl⟩:=di;refine rC (v':= .string ba) ?_ ⟨Y,_,rfl,.same _ rfl,ρ,λ_ _ h=>h,λ_ _ _=>rfl,aS _⟩
   unfold execOp;rw[ho];simp[h1]
 .rw[aF]at h;obtain⟨_,h,e⟩:=h;cases e;exact Pw _ ρ hρ h
 .rw[aF]at h;obtain⟨⟨v1,ob⟩,h,e⟩:=h;cases e;have Z1:Sim w0 P Y (H.put (base+i) ob) w:=ρ.put_new hid (λcs m g u e1 e2=>by have:=Ch h cs m g u e1 e2;omega)
  exact KJ Z1 hρ hid bh h (by rw[St.get_put,bI rfl])
 .exact WW bm ρ hρ hid bh h
def uJ{α:Nat}{o:Oper}(h:pY P α o=true): ∀t,o.dst=some t->t<α:=by
 intro t e;unfold pY at h;simp only[e,gQ,aC,aD]at h;exact h.1
def Bi{α:Nat}{o:Oper}(h:pY P α o=true): ∀x∈o.op.operands,cI P x=true:=by
 intro x hx;unfold pY at h;simp only[aC]at h;have:=h.2;rw[Array.all_eq_true']at this;exact this x hx
def qS(w0:W0)(P:Program)(Y:Mp)(n:Nat)(α:Nat)(S':Slots)(H':St)(Q:Act->World->Prop):Prop:=
 ∀a' w' Y',AR Y' S' α a'->Sim w0 P Y' H' w'->Ext n Y Y'->n<=H'.next->Q a' w'
def Sl{call:FuncId->Array Value->St->Option (Value×St)}(bm:CallOK w0 P call){ops:Array Oper}{base α n0:Nat}{Q:Exit->Act->World->Prop}(hn0:n0<=base)(bw: ∀o∈ops.toList,pY P α o=true):
    ∀(l:List Oper) (i:Nat) (S S':Slots) (H H':St) (a:Act) (w:World) (Y Y0:Mp),(∀j,l[j]?=ops[i+j]?)->i+l.length=ops.size->
      AR Y S α a->Sim w0 P Y H w->Ext n0 Y0 Y->base+ops.size<=H.next->(∀j,i<=j->j<ops.size->Y (base+j)=none)->
      eN P call ops base l i S H=some (S',H')->qS w0 P Y0 n0 α S' H' (Q .normal)->wpOps P ops Q (List.range' i l.length) a w:=by
 intro l;induction l with
 |nil=>
  intro i S S' H H' a w Y Y0 hl hlen A ρ E jf ch h dj;simp only[eN,aA,aB]at h;obtain⟨rfl,rfl⟩:=h;exact dj a w Y A ρ E (by omega)
 |cons o l ih=>
  intro i S S' H H' a w Y Y0 hl hlen A ρ E jf ch h dj;have qi:ops[i]?=some o:=by simpa using (hl 0).symm
  have nb:o∈ops.toList:=by
   have:ops.toList[i]?=some o:=by simpa using qi
   exact List.mem_of_getElem? this
  have lf:=bw o nb;simp only[aM]at hlen;have dw: ∀j,l[j]?=ops[i+1+j]?:=λj=>by have:=hl (j+1);rw[show i+1+j=i+(j+1) by omega,<-this];simp
  simp only[aM,List.range'_succ,wpOps,qi];unfold eN at h;rw[RY A ops o]at h;cases hw:Region.wanted o (yielded ops a.tmps)with
  |false=>
   rw[hw]at h;simp only[aJ]at h;simp only[Bool.false_eq_true,bN];exact ih (i+1) _ S' H H' _ w Y Y0 dw (by omega) (A.put (uJ lf) .undef) ρ E jf (λj hj lz=>ch j (by omega) lz) h dj
  |true=>
   rw[hw]at h;simp only[aI]at h;simp only[bO];split at h<;>try cases h
   rename_i v H1 lx;refine .inl (Oper.wp_mono (λa' w' hL=>?_) (aNU bm A ρ (Bi lf) (ch i (aS _) (by omega)) (by omega) lx (Q:=Q)))
   obtain⟨Y',v',rfl,hv,hZ,bz,cb,hnx'⟩:=hL;exact ih (i+1) _ S' H1 H' _ w' Y' Y0 dw (by omega) ((A.mono bz).put (uJ lf) hv) hZ
    ⟨λk p hk=>bz k p (E.1 k p hk),λk hk=>(cb k (by omega) (by omega)).trans (E.2 k hk)⟩ (by omega)
    (λj hj lz=>(cb (base+j) (by omega) (by omega)).trans (ch j (by omega) lz)) h dj
end
end Go.AI
namespace Go.AI
mutual
def oW: ∀(a b:Value),fB a b=true->a=b
 | .bool a,b,h=>by cases b<;>simp[fB]at h;rw[h]
 | .int j a,b,h=>by cases b<;>simp[fB]at h;rw[h.1,h.2]
 | .float j a,b,h=>by cases b<;>simp[fB]at h;rw[h.1,h.2]
 | .complex j a c,b,h=>by cases b<;>simp[fB]at h;rw[h.1.1,h.1.2,h.2]
 | .string a,b,h=>by
  cases b with
  |string b=>
   simp only[fB,beq_iff_eq]at h;cases a;cases b;have:=Array.toList_inj.1 h;simp only at this;rw[this]
  |_=>simp[fB]at h
 | .pointer a,b,h=>by cases b<;>simp[fB]at h;rw[h]
 | .slice a l c,b,h=>by cases b<;>simp[fB]at h;rw[h.1.1,h.1.2,h.2]
 | .map a,b,h=>by cases b<;>simp[fB]at h;rw[h]
 | .chan a,b,h=>by cases b<;>simp[fB]at h;rw[h]
 | .func f ⟨xs⟩ ⟨ys⟩,b,h=>by
  cases b with
  |func g us vs=>
   obtain⟨us⟩:=us;obtain⟨vs⟩:=vs;simp[fB]at h;rw[h.1.1,oX xs us h.1.2,oX ys vs h.2]
  |_=>simp[fB]at h
 | .nilFunc,b,h=>by cases b<;>simp[fB]at h;rfl
 | .iface t v,b,h=>by
  cases b with
  |iface u w=>simp[fB]at h;rw[h.1,oW v w h.2]
  |_=>simp[fB]at h
 | .nilIface,b,h=>by cases b<;>simp[fB]at h;rfl
 | .agg ⟨xs⟩,b,h=>by
  cases b with
  |agg ys=>obtain⟨ys⟩:=ys;simp[fB]at h;rw[oX xs ys h]
  |_=>simp[fB]at h
 | .tuple ⟨xs⟩,b,h=>by
  cases b with
  |tuple ys=>obtain⟨ys⟩:=ys;simp[fB]at h;rw[oX xs ys h]
  |_=>simp[fB]at h
def oX: ∀(a b:List Value),oY a b=true->a=b
 |[],b,h=>by cases b<;>simp[oY]at h;rfl
 |x::xs,b,h=>by
  cases b with
  |nil=>simp[oY]at h
  |cons y ys=>simp[oY]at h;rw[oW x y h.1,oX xs ys h.2]
end
def HD{m n:mX}(h:rL m n=true):m=n:=by
 simp only[rL,cQ,aC,beq_iff_eq,aD]at h;cases m;cases n;simp_all
def HG: ∀(a b:List (Value×Value)),vH a b=true->a=b
 |[],b,h=>by cases b<;>simp[vH]at h;rfl
 |x::xs,b,h=>by
  cases b with
  |nil=>simp[vH]at h
  |cons y ys=>
   simp only[vH,aC]at h;rw[Prod.ext (oW _ _ h.1.1) (oW _ _ h.1.2),HG xs ys h.2]
def AY{a b:AObj}(h:nU a b=true):a=b:=by
 cases a with
 |cells cs m=>cases b with
  |cells ds n=>simp only[nU,aC]at h;rw[oX _ _ h.1,HD h.2]
  |map _=>simp[nU]at h
 |map es=>cases b with
  |cells _ _=>simp[nU]at h
  |map fs=>rw[HG es fs h]
section
variable{P:Program}{call:FuncId->Array Value->St->Option (Value×St)}{ops:Array Oper}{ms:List Nat}{base:Nat}{S':Slots}{H':St}
structure zO where
 i:Nat
 o:Oper
 S:Slots
 v:Value
def CN(P:Program)(base:Nat)(H:St)(r:iB):Prop:=
 match r.ob with
 |none=>iV P H (ev r.S) r.o=some r.v
 |some ob=>H.get (base+r.i)=some ob
def Ko{H:St}{r:iB}(h:check P base H r=true):CN P base H r:=by
 unfold check at h;unfold CN;cases hr:r.ob with
 |none=>
  simp only[hr]at h⊢;split at h
  .rename_i v hv;rw[hv,oW _ _ h]
  .cases h
 |some ob=>
  simp only[hr]at h⊢;split at h
  .rename_i v hv;rw[hv,AY h]
  .cases h
inductive Cert(P:Program)(call:FuncId->Array Value->St->Option (Value×St))(ops:Array Oper)(ms:List Nat)(base:Nat)(S':Slots)(H':St):List zO->List St->List Nat->List iB->Slots->St->Prop where
 |nil (pend:List iB) (h: ∀p∈pend,CN P base H' p):Cert P call ops ms base S' H' [] [H'] [] pend S' H'
 |skip (r:zO) (rs:List zO) (Cs:List St) (Es:List Nat) (pend:List iB) (H:St) (ho:ops[r.i]?=some r.o) (hw:wanted ops r.S r.o=false) (hv:r.v=undef)
      (h:Cert P call ops ms base S' H' rs Cs Es pend (r.S.store r.o.dst r.v) H):Cert P call ops ms base S' H' (r::rs) Cs Es pend r.S H
 |pure (r:zO) (rs:List zO) (Cs:List St) (Es:List Nat) (pend:List iB) (H:St) (ho:ops[r.i]?=some r.o) (hw:wanted ops r.S r.o=true) (hk:cL r.o= .pure) (hv:iW P (ev r.S) r.o=some r.v)
      (h:Cert P call ops ms base S' H' rs Cs Es pend (r.S.store r.o.dst r.v) H):Cert P call ops ms base S' H' (r::rs) Cs Es pend r.S H
 |read (r:zO) (rs:List zO) (Cs:List St) (Es:List Nat) (pend:List iB) (H:St) (ho:ops[r.i]?=some r.o) (hw:wanted ops r.S r.o=true) (hk:cL r.o= .read)
      (h:Cert P call ops ms base S' H' rs Cs Es (⟨r.i,r.o,r.S,r.v,none⟩::pend) (r.S.store r.o.dst r.v) H):Cert P call ops ms base S' H' (r::rs) Cs Es pend r.S H
 |alloc (r:zO) (rs:List zO) (Cs:List St) (Es:List Nat) (pend:List iB) (H:St) (ob:AObj) (ho:ops[r.i]?=some r.o) (hw:wanted ops r.S r.o=true) (hk:cL r.o= .alloc) (hv:eZ P (ev r.S) r.o (base+r.i)=some (r.v,ob))
      (h:Cert P call ops ms base S' H' rs Cs Es (⟨r.i,r.o,r.S,r.v,some ob⟩::pend) (r.S.store r.o.dst r.v) (H.put (base+r.i) ob)):Cert P call ops ms base S' H' (r::rs) Cs Es pend r.S H
 |eff (r:zO) (rs:List zO) (Cs:List St) (Es:List Nat) (pend:List iB) (H H1:St) (ho:ops[r.i]?=some r.o) (hw:wanted ops r.S r.o=true) (hk:cL r.o= .eff) (hc: ∀p∈pend,CN P base H p)
      (hv:lY P call H (ev r.S) r.o (base+r.i)=some (r.v,H1)) (h:Cert P call ops ms base S' H' rs Cs Es (pend.filter λp=> !kK (ms.getD r.i 0) p.i) (r.S.store r.o.dst r.v) H1):
      Cert P call ops ms base S' H' (r::rs) (H::Cs) (r.i::Es) pend r.S H
def Kp: ∀(order:List Nat) (pend:List iB) (S:Slots) (H:St),fD P call ops ms base order pend S H=some (S',H')->
    ∃rs Cs Es,rs.map (·.i)=order/\Cert P call ops ms base S' H' rs Cs Es pend S H:=by
 intro order;induction order with
 |nil=>
  intro pend S H h;simp only[fD]at h;cases hc:pend.all (check P base H)with
  |false=>rw[hc]at h;cases h
  |true=>
   rw[hc]at h;simp only[aI,aA,aB]at h;obtain⟨rfl,rfl⟩:=h;exact⟨[],_,[],rfl,.nil pend λp hp=>Ko (bJ.1 hc p hp)⟩
 |cons i rest ih=>
  intro pend S H h;simp only[fD]at h;split at h<;>try cases h
  rename_i o ho;cases hw:wanted ops S o with
  |false=>
   rw[hw]at h;simp only[aJ]at h;obtain⟨rs,Cs,Es,hm,hC⟩:=ih _ _ _ h;exact⟨⟨i,o,S,undef⟩::rs,Cs,Es,by simp[hm],.skip ⟨i,o,S,undef⟩ rs Cs Es pend H ho hw rfl hC⟩
  |true=>
   rw[hw]at h;simp only[aI]at h;split at h
   .rename_i hk;split at h<;>try cases h
    rename_i v hv;obtain⟨rs,Cs,Es,hm,hC⟩:=ih _ _ _ h;exact⟨⟨i,o,S,v⟩::rs,Cs,Es,by simp[hm],.pure ⟨i,o,S,v⟩ rs Cs Es pend H ho hw hk hv hC⟩
   .rename_i hk;split at h<;>try cases h
    rename_i v hv;obtain⟨rs,Cs,Es,hm,hC⟩:=ih _ _ _ h;exact⟨⟨i,o,S,v⟩::rs,Cs,Es,by simp[hm],.read ⟨i,o,S,v⟩ rs Cs Es pend H ho hw hk hC⟩
   .rename_i hk;split at h<;>try cases h
    rename_i v ob hv;obtain⟨rs,Cs,Es,hm,hC⟩:=ih _ _ _ h;exact⟨⟨i,o,S,v⟩::rs,Cs,Es,by simp[hm],.alloc ⟨i,o,S,v⟩ rs Cs Es pend H ob ho hw hk hv hC⟩
   .rename_i hk;cases hc:pend.all (check P base H)with
    |false=>rw[hc]at h;cases h
    |true=>
     rw[hc]at h;simp only[aI]at h;split at h<;>try cases h
     rename_i v H1 hv;obtain⟨rs,Cs,Es,hm,hC⟩:=ih _ _ _ h;exact⟨⟨i,o,S,v⟩::rs,H::Cs,i::Es,by simp[hm],.eff ⟨i,o,S,v⟩ rs Cs Es pend H H1 ho hw hk (λp hp=>Ko (bJ.1 hc p hp)) hv hC⟩
def Cert.lens{rs:List zO}{Cs:List St}{Es:List Nat}{pend:List iB}{S:Slots}{H:St}(h:Cert P call ops ms base S' H' rs Cs Es pend S H):Cs.length=Es.length+1/\Cs[Es.length]?=some H':=by
 induction h with
 |nil=>exact⟨rfl,rfl⟩
 |skip=>assumption
 |pure=>assumption
 |read=>assumption
 |alloc=>assumption
 |eff r rs Cs Es pend H H1 ho hw hk hc hv h ih=>exact⟨by simp[ih.1],by simpa using ih.2⟩
def Cert.pending{rs:List zO}{Cs:List St}{Es:List Nat}{pend:List iB}{S:Slots}{H:St}(h:Cert P call ops ms base S' H' rs Cs Es pend S H):
    ∀p∈pend,∀(j:Nat) (s:St),Cs[j]?=some s->(∀(q e:Nat),q<j->Es[q]?=some e->kK (ms.getD e 0) p.i=false)->CN P base s p:=by
 induction h with
 |nil pend h=>
  intro p hp j s hj _;cases j with
  |zero=>simp at hj;subst hj;exact h p hp
  |succ j=>simp at hj
 |skip r rs Cs Es pend H ho hw hv h ih=>exact ih
 |pure r rs Cs Es pend H ho hw hk hv h ih=>exact ih
 |read r rs Cs Es pend H ho hw hk h ih=>exact λp hp=>ih p (aG _ hp)
 |alloc r rs Cs Es pend H ob ho hw hk hv h ih=>exact λp hp=>ih p (aG _ hp)
 |eff r rs Cs Es pend H H1 ho hw hk hc hv h ih=>
  intro p hp j s hj hq;cases j with
  |zero=>simp at hj;subst hj;exact hc p hp
  |succ j=>
   have hb:=hq 0 r.i (by omega) (by simp)
   exact ih p (List.mem_filter.2 ⟨hp,by simp only[hb,Bool.not_false]⟩) j s (by simpa using hj) (λq e hqj he=>hq (q+1) e (by omega) (by simpa using he))
variable{w0:W0}
def Cert.first{rs:List zO}{Cs:List St}{Es:List Nat}{pend:List iB}{S:Slots}{H:St}(h:Cert P call ops ms base S' H' rs Cs Es pend S H):
    ∃s,Cs[0]?=some s/\s.next=H.next/\∀(Y:Mp) (w:World),(∀r∈rs,Y (base+r.i)=none)->Sim w0 P Y H w->Sim w0 P Y s w:=by
 induction h with
 |nil pend h=>exact⟨_,rfl,rfl,λ_ _ _ h=>h⟩
 |skip r rs Cs Es pend H ho hw hv h ih=>obtain⟨s,h1,h2,h3⟩:=ih;exact⟨s,h1,h2,λY w hn hS=>h3 Y w (λr hr=>hn r (aG _ hr)) hS⟩
 |pure r rs Cs Es pend H ho hw hk hv h ih=>obtain⟨s,h1,h2,h3⟩:=ih;exact⟨s,h1,h2,λY w hn hS=>h3 Y w (λr hr=>hn r (aG _ hr)) hS⟩
 |read r rs Cs Es pend H ho hw hk h ih=>obtain⟨s,h1,h2,h3⟩:=ih;exact⟨s,h1,h2,λY w hn hS=>h3 Y w (λr hr=>hn r (aG _ hr)) hS⟩
 |alloc r rs Cs Es pend H ob ho hw hk hv h ih=>
  obtain⟨s,h1,h2,h3⟩:=ih;exact⟨s,h1,h2,λY w hn hS=>h3 Y w (λr hr=>hn r (aG _ hr)) (hS.put_new (hn r (by simp)) (λcs m g u e1 e2=>by have:=Ch hv cs m g u e1 e2;omega))⟩
 |eff r rs Cs Es pend H H1 ho hw hk hc hv h ih=>exact⟨H,rfl,rfl,λ_ _ _ h=>h⟩
def Cert.at_eff{rs:List zO}{Cs:List St}{Es:List Nat}{pend:List iB}{S:Slots}{H:St}(h:Cert P call ops ms base S' H' rs Cs Es pend S H){q e:Nat}(he:Es[q]?=some e):
    e<ops.size/\∃r∈rs,r.i=e/\ops[e]?=some r.o/\cL r.o= .eff/\wanted ops r.S r.o=true:=by
 induction h generalizing q with
 |nil=>simp at he
 |skip r rs Cs Es pend H ho hw hv h ih=>obtain⟨h1,r',h2,h3⟩:=ih he;exact⟨h1,r',aG _ h2,h3⟩
 |pure r rs Cs Es pend H ho hw hk hv h ih=>obtain⟨h1,r',h2,h3⟩:=ih he;exact⟨h1,r',aG _ h2,h3⟩
 |read r rs Cs Es pend H ho hw hk h ih=>obtain⟨h1,r',h2,h3⟩:=ih he;exact⟨h1,r',aG _ h2,h3⟩
 |alloc r rs Cs Es pend H ob ho hw hk hv h ih=>obtain⟨h1,r',h2,h3⟩:=ih he;exact⟨h1,r',aG _ h2,h3⟩
 |eff r rs Cs Es pend H H1 ho hw hk hc hv h ih=>
  cases q with
  |zero=>simp at he;subst he;exact⟨(Array.getElem?_eq_some_iff.1 ho).1,r,by simp,rfl,ho,hk,hw⟩
  |succ q=>obtain⟨h1,r',h2,h3⟩:=ih (q:=q) (by simpa using he);exact⟨h1,r',aG _ h2,h3⟩
def Cert.effs_nodup{rs:List zO}{Cs:List St}{Es:List Nat}{pend:List iB}{S:Slots}{H:St}(h:Cert P call ops ms base S' H' rs Cs Es pend S H)(hn:(rs.map (·.i)).Nodup):Es.Nodup:=by
 induction h with
 |nil=>exact List.nodup_nil
 |skip r rs Cs Es pend H ho hw hv h ih=>exact ih (List.nodup_cons.1 hn).2
 |pure r rs Cs Es pend H ho hw hk hv h ih=>exact ih (List.nodup_cons.1 hn).2
 |read r rs Cs Es pend H ho hw hk h ih=>exact ih (List.nodup_cons.1 hn).2
 |alloc r rs Cs Es pend H ob ho hw hk hv h ih=>exact ih (List.nodup_cons.1 hn).2
 |eff r rs Cs Es pend H H1 ho hw hk hc hv h ih=>
  have hn':=List.nodup_cons.1 hn;refine List.nodup_cons.2 ⟨λhm=>hn'.1 ?_,ih hn'.2⟩
  obtain⟨q,hq⟩:=List.getElem?_of_mem hm;obtain⟨_,r',h2,h3,_⟩:=h.at_eff hq;exact List.mem_map.2 ⟨r',h2,h3⟩
def Bn{N:Type}: ∀(l:List N),(∀l1 i l2,l=l1++i::l2->i∉l1)->l.Nodup:=by
 intro l;induction l with
 |nil=>intro _;exact List.nodup_nil
 |cons a t ih=>
  intro h;refine List.nodup_cons.2 ⟨λhm=>?_,ih λl1 i l2 e=>λhi=>h (a::l1) i l2 (by rw[e];rfl) (aG _ hi)⟩
  obtain⟨m1,m2,e⟩:=List.append_of_mem hm;exact h (a::m1) a m2 (by rw[e];rfl) (by simp)
def gO(w0:W0)(P:Program)(call:FuncId->Array Value->St->Option (Value×St))(ops:Array Oper)(ms:List Nat)(base:Nat)(Cs:List St)(Es:List Nat)(later:List zO)(r:zO)(je:Nat):Prop:=
 (wanted ops r.S r.o=false/\r.v=undef)∨
 (wanted ops r.S r.o=true/\cL r.o= .pure/\iW P (ev r.S) r.o=some r.v)∨
 (wanted ops r.S r.o=true/\cL r.o= .read/\∀(j:Nat) (s:St),je<=j->Cs[j]?=some s->(∀(q e:Nat),je<=q->q<j->Es[q]?=some e->kK (ms.getD e 0) r.i=false)->iV P s (ev r.S) r.o=some r.v)∨
 (wanted ops r.S r.o=true/\cL r.o= .alloc/\∃ob,eZ P (ev r.S) r.o (base+r.i)=some (r.v,ob)/\
  ∀(j:Nat) (s:St),je<=j->Cs[j]?=some s->(∀(q e:Nat),je<=q->q<j->Es[q]?=some e->kK (ms.getD e 0) r.i=false)->s.get (base+r.i)=some ob)∨
 (wanted ops r.S r.o=true/\cL r.o= .eff/\Es[je]?=some r.i/\∃s H1 s',Cs[je]?=some s/\lY P call s (ev r.S) r.o (base+r.i)=some (r.v,H1)/\Cs[je+1]?=some s'/\s'.next=H1.next/\
  ∀(Y:Mp) (w:World),(∀r∈later,Y (base+r.i)=none)->Sim w0 P Y H1 w->Sim w0 P Y s' w)
def Cert.at: ∀(l1:List zO) (r:zO) (l2:List zO) (Cs:List St) (Es:List Nat) (pend:List iB) (S:Slots) (H:St),Cert P call ops ms base S' H' (l1++r::l2) Cs Es pend S H->
    ops[r.i]?=some r.o/\∃je,je<=Es.length/\(∀q e,q<je->Es[q]?=some e->∃r'∈l1,r'.i=e/\jX r'.o=true/\ops[r'.i]?=some r'.o)/\gO w0 P call ops ms base Cs Es l2 r je:=by
 intro l1;induction l1 with
 |nil=>
  intro r l2 Cs Es pend S H h;simp only[aW]at h;cases h with
  |skip _ _ _ _ _ _ ho hw hv h=>exact⟨ho,0,Nat.zero_le _,λq e hq=>by omega,.inl ⟨hw,hv⟩⟩
  |pure _ _ _ _ _ _ ho hw hk hv h=>exact⟨ho,0,Nat.zero_le _,λq e hq=>by omega,.inr (.inl ⟨hw,hk,hv⟩)⟩
  |read _ _ _ _ _ _ ho hw hk h=>
   refine⟨ho,0,Nat.zero_le _,λq e hq=>by omega,.inr (.inr (.inl ⟨hw,hk,λj s _ hj hq=>?_⟩))⟩
   exact h.pending _ (aH) j s hj (λq e hqj he=>hq q e (by omega) hqj he)
  |alloc _ _ _ _ _ _ ob ho hw hk hv h=>
   refine⟨ho,0,Nat.zero_le _,λq e hq=>by omega,.inr (.inr (.inr (.inl ⟨hw,hk,ob,hv,λj s _ hj hq=>?_⟩)))⟩
   exact h.pending _ (aH) j s hj (λq e hqj he=>hq q e (by omega) hqj he)
  |eff _ _ Cs' Es' _ _ H1 ho hw hk hc hv h=>
   obtain⟨s',h1,h2,h3⟩:=h.first (w0:=w0)
   exact⟨ho,0,Nat.zero_le _,λq e hq=>by omega,.inr (.inr (.inr (.inr ⟨hw,hk,rfl,H,H1,s',rfl,hv,by simpa using h1,h2,h3⟩)))⟩
 |cons r0 l1 ih=>
  intro r l2 Cs Es pend S H h;simp only[aY]at h;have lift: ∀{Cs Es pend S H},Cert P call ops ms base S' H' (l1++r::l2) Cs Es pend S H->ops[r.i]?=some r.o/\∃je,je<=Es.length/\(∀q e,q<je->Es[q]?=some e->∃r'∈r0::l1,r'.i=e/\jX r'.o=true/\ops[r'.i]?=some r'.o)/\gO w0 P call ops ms base Cs Es l2 r je:=by
   intro Cs Es pend S H h;obtain⟨h1,je,h0,h2,h3⟩:=ih r l2 Cs Es pend S H h;exact⟨h1,je,h0,λq e hq he=>let ⟨r',ca,hh⟩:=h2 q e hq he;⟨r',aG _ ca,hh⟩,h3⟩
  cases h with
  |skip _ _ _ _ _ _ ho hw hv h=>exact lift h
  |pure _ _ _ _ _ _ ho hw hk hv h=>exact lift h
  |read _ _ _ _ _ _ ho hw hk h=>exact lift h
  |alloc _ _ _ _ _ _ ob ho hw hk hv h=>exact lift h
  |eff _ _ Cs' Es' _ _ H1 ho hw hk hc hv h=>
   obtain⟨h1,je,h0,h2,h3⟩:=ih r l2 Cs' Es' _ _ _ h;refine⟨h1,je+1,by simp;omega,λq e hq he=>?_,?_⟩
   .cases q with
    |zero=>simp at he;subst he;exact⟨r0,by simp,rfl,by simp[jX,hk],ho⟩
    |succ q=>obtain⟨r',ca,hh⟩:=h2 q e (by omega) (by simpa using he);exact⟨r',aG _ ca,hh⟩
   .rcases h3 with h3|h3|⟨a,b,c⟩|⟨a,b,ob,c,d⟩|⟨a,b,c,s,H2,s',d⟩
    .exact .inl h3
    .exact .inr (.inl h3)
    .refine .inr (.inr (.inl ⟨a,b,λj s hj hs hq=>?_⟩))
     cases j with
     |zero=>omega
     |succ j=>exact c j s (by omega) (by simpa using hs) (λq e h1 h2 he=>hq (q+1) e (by omega) (by omega) (by simpa using he))
    .refine .inr (.inr (.inr (.inl ⟨a,b,ob,c,λj s hj hs hq=>?_⟩)))
     cases j with
     |zero=>omega
     |succ j=>exact d j s (by omega) (by simpa using hs) (λq e h1 h2 he=>hq (q+1) e (by omega) (by omega) (by simpa using he))
    .exact .inr (.inr (.inr (.inr ⟨a,b,by simpa using c,s,H2,s',by simpa using d⟩)))
def Cert.slots: ∀(l1:List zO) (l2:List zO) (Cs:List St) (Es:List Nat) (pend:List iB) (S:Slots) (H:St) (T:Slots),Cert P call ops ms base S' H' (l1++l2) Cs Es pend S H->
    (∀r l3,l2=r::l3->r.S=T)->(l2=[]->S'=T)->∀x,((∀r∈l1,r.o.dst≠some x)->T.at x=S.at x)/\
      (∀p1 r p2,l1=p1++r::p2->r.o.dst=some x->(∀r'∈p2,r'.o.dst≠some x)->T.at x=r.v):=by
 intro l1;induction l1 with
 |nil=>
  intro l2 Cs Es pend S H T h hT hT' x;simp only[aW]at h;have:T=S:=by
   cases l2 with
   |nil=>rw[<-hT' rfl];cases h;rfl
   |cons r l3=>rw[<-hT r l3 rfl];cases h<;>rfl
  subst this;exact⟨λ_=>rfl,λp1 r p2 e=>by simp at e⟩
 |cons r0 l1 ih=>
  intro l2 Cs Es pend S H T h hT hT' x;simp only[aY]at h;have main: ∀{Cs Es pend H},Cert P call ops ms base S' H' (l1++l2) Cs Es pend (S.store r0.o.dst r0.v) H->((∀r∈r0::l1,r.o.dst≠some x)->T.at x=S.at x)/\
   (∀p1 r p2,r0::l1=p1++r::p2->r.o.dst=some x->(∀r'∈p2,r'.o.dst≠some x)->T.at x=r.v):=by
   intro Cs Es pend H h;obtain⟨h1,h2⟩:=ih l2 Cs Es pend _ H T h hT hT' x;refine⟨λhn=>?_,λp1 r p2 e hd hn=>?_⟩
   .rw[h1 (λr hr=>hn r (aG _ hr)),Slots.at_store,bH (hn r0 (by simp))]
   .cases p1 with
    |nil=>
     simp only[aW,List.cons.injEq]at e;obtain⟨rfl,rfl⟩:=e;rw[h1 hn,Slots.at_store,bI hd]
    |cons p p1=>
     simp only[aY,List.cons.injEq]at e;exact h2 p1 r p2 e.2 hd hn
  cases h with
  |skip _ _ _ _ _ _ ho hw hv h=>exact main h
  |pure _ _ _ _ _ _ ho hw hk hv h=>exact main h
  |read _ _ _ _ _ _ ho hw hk h=>exact main h
  |alloc _ _ _ _ _ _ ob ho hw hk hv h=>exact main h
  |eff _ _ Cs' Es' _ _ H1 ho hw hk hc hv h=>exact main h
def aNE(a b i:Nat):kK (a|||b) i=(kK a i||kK b i):=by
 have h: ∀m,kK m i=m.testBit i:=by
  intro m;unfold kK;rw[cQ,Nat.testBit_eq_decide_div_mod_eq,Nat.shiftRight_eq_div_pow]
 rw[h,h,h,Nat.testBit_or]
def S8(j i:Nat):kK (1<<<j) i=decide (i=j):=by
 unfold kK;have:(1<<<j>>>i)%2=if i=j then 1 else 0:=by
  have h:=Nat.testBit_eq_decide_div_mod_eq (x:=1<<<j) (i:=i);rw[<-Nat.shiftRight_eq_div_pow]at h;have h2:(1<<<j).testBit i=decide (i=j):=by
   rw[Nat.one_shiftLeft,Nat.testBit_two_pow];by_cases e:j=i
   .subst e;simp
   .simp[e,Ne.symm e]
  rw[h2]at h;by_cases e:i=j
  .rw[bI e];simp only[e,bM]at h;have:=bK h.symm;rw[e];exact this
  .rw[bH e];simp only[e,decide_false]at h;have:=bL h.symm;omega
 rw[this,cQ];by_cases e:i=j<;>simp[e]
def KC(i:Nat):kK 0 i=false:=by simp[kK,cQ]
def IR(ps:List Nat)(o:Oper)(j:Nat)(h:kK (qE ps o) j=true): ∃e∈o.after,Region.binds .any e=true/\(e.on=j∨(e.on<ps.length/\kK (ps.getD e.on 0) j=true)):=by
 unfold qE at h;have main: ∀(l:List Edge) (m:Nat),kK (l.foldl (λm e=>bif Region.binds .any e then(m|||(1<<<e.on))|||ps.getD e.on 0 else m) m) j=true->kK m j=true∨∃e∈l,Region.binds .any e=true/\(e.on=j∨(e.on<ps.length/\kK (ps.getD e.on 0) j=true)):=by
  intro l;induction l with
  |nil=>intro m h;exact .inl h
  |cons e l ih=>
   intro m h;simp only[List.foldl_cons]at h;rcases ih _ h with h|⟨e',dz,h⟩
   .cases hb:Region.binds .any e with
    |false=>rw[hb]at h;exact .inl h
    |true=>
     rw[hb]at h;simp only[aI,aNE,S8,Bool.or_eq_true,aD]at h;rcases h with(h|h)|h
     .exact .inl h
     .exact .inr ⟨e,by simp,hb,.inl h.symm⟩
     .refine .inr ⟨e,by simp,hb,.inr ⟨?_,h⟩⟩
      rcases Nat.lt_or_ge e.on ps.length with hl|hl
      .exact hl
      .rw[List.getD_eq_getElem?_getD,List.getElem?_eq_none hl]at h;simp[KC]at h
   .exact .inr ⟨e',aG _ dz,h⟩
 rcases main _ _ h with h|⟨e,he,h⟩
 .rw[KC]at h;cases h
 .exact⟨e,Array.mem_toList_iff.1 he,h⟩
def SE: ∀(l:List Oper) (ps:List Nat) (i:Nat),(∀(h:i<ps.length),(fL l ps).getD i 0=ps.getD i 0)/\(∀(k:Nat) (o:Oper),i=ps.length+k->l[k]?=some o->∃qs,(fL l ps).getD i 0=qE qs o/\qs.length=i/\∀j,j<i->qs.getD j 0=(fL l ps).getD j 0):=by
 intro l;induction l with
 |nil=>intro ps i;exact⟨λ_=>rfl,λk o _ h=>by simp at h⟩
 |cons o l ih=>
  intro ps i;simp only[fL];have hpre: ∀j,j<ps.length->(ps++ [qE ps o]).getD j 0=ps.getD j 0:=λj hj=>by
   simp only[List.getD_eq_getElem?_getD,List.getElem?_append_left hj]
  refine⟨λh=>?_,λk o' hi hk=>?_⟩
  .rw[(ih (ps++ [qE ps o]) i).1 (by simp;omega),hpre i h]
  .cases k with
   |zero=>
    simp only[aU,aA]at hk;subst hk;refine⟨ps,?_,by omega,λj hj=>?_⟩
    .rw[(ih (ps++ [qE ps o]) i).1 (by simp;omega)]
     simp[List.getD_eq_getElem?_getD,hi]
    .rw[(ih (ps++ [qE ps o]) j).1 (by simp;omega),hpre j (by omega)]
   |succ k=>exact(ih (ps++ [qE ps o]) i).2 k o' (by simp;omega) (by simpa using hk)
structure CM(ops:Array Oper)(ms:List Nat)(order:List Nat):Prop where
 edge: ∃rk:Nat->Nat,∀i o e,ops[i]?=some o->e∈o.after->Region.binds .any e=true->rk e.on<rk i/\e.on<ops.size
 mask: ∀i o j,ops[i]?=some o->kK (ms.getD i 0) j=true->∃e∈o.after,Region.binds .any e=true/\(e.on=j∨(e.on<i/\kK (ms.getD e.on 0) j=true))
 guard: ∀i o j b,ops[i]?=some o->o.guard=some (j,b)->kK (ms.getD i 0) j=true/\j<ops.size
 haz: ∀(i j:Nat) (o o':Oper) (d:Tmp),i≠j->ops[i]?=some o->ops[j]?=some o'->o'.dst=some d->d∈o.looksAt ops->kK (ms.getD i 0) j=true∨kK (ms.getD j 0) i=true
 dsts: ∀(i j:Nat) (o o':Oper) (d:Tmp),i≠j->ops[i]?=some o->ops[j]?=some o'->o.dst=some d->o'.dst=some d->False
 split: ∀l1 i l2,order=l1++i::l2->i<ops.size/\i∉l1/\(∀j,j<ops.size->kK (ms.getD i 0) j=true->j∈l1)/\(∀e o,e∈l1->ops[e]?=some o->jX o=true->kK (ms.getD i 0) e=true)
 all: ∀i,i<ops.size->i∈order
def R7: ∀(order done:List Nat),GY ops ms order done=true->
    (∀l1 i l2,order=l1++i::l2->i<ops.size/\i∉l1/\i∉done/\(∀j,j<ops.size->kK (ms.getD i 0) j=true->j∈l1∨j∈done)/\(∀e o,(e∈l1∨e∈done)->ops[e]?=some o->jX o=true->kK (ms.getD i 0) e=true))/\
    (∀i,i<ops.size->i∈order∨i∈done):=by
 intro order;induction order with
 |nil=>
  intro done h;simp only[GY,bJ,List.mem_range,List.contains_iff_mem]at h;exact⟨λl1 i l2 e=>by simp at e,λi hi=> .inr (h i hi)⟩
 |cons a rest ih=>
  intro done h;simp only[GY,aC,gQ,aD,bJ,List.mem_range,Bool.or_eq_true,Bool.not_eq_true',List.contains_iff_mem]at h;obtain⟨⟨⟨⟨h1,h2⟩,h3⟩,h4⟩,h5⟩:=h;obtain⟨g1,g2⟩:=ih _ h5;have ge:a∉done:=by intro hm;rw[List.contains_iff_mem.2 hm]at h2;cases h2
  refine⟨λl1 i l2 e=>?_,λi hi=>?_⟩
  .cases l1 with
   |nil=>
    simp only[aW,List.cons.injEq]at e;obtain⟨rfl,rfl⟩:=e;refine⟨h1,by simp,ge,λj hj hb=>?_,λe o he ho hef=>?_⟩
    .rcases h3 j hj with hh|hh
     .rw[hb]at hh;cases hh
     .exact .inr hh
    .rcases he with he|he
     .cases he
     .rcases h4 e he with hh|hh
      .simp[aGu,ho,hef]at hh
      .exact hh
   |cons b l1=>
    simp only[aY,List.cons.injEq]at e;obtain⟨rfl,e⟩:=e;obtain⟨k1,k2,k3,k4,k5⟩:=g1 l1 i l2 e;simp only[List.mem_cons,not_or]at k3;refine⟨k1,by simp only[List.mem_cons,not_or];exact⟨k3.1,k2⟩,k3.2,λj hj hb=>?_,λe o he=>k5 e o ?_⟩
    .rcases k4 j hj hb with h|h
     .exact .inl (aG _ h)
     .rcases List.mem_cons.1 h with h|h
      .exact .inl (by simp[h])
      .exact .inr h
    .rcases he with he|he
     .rcases List.mem_cons.1 he with h|h
      .exact .inr (by simp[h])
      .exact .inl h
     .exact .inr (aG _ he)
  .rcases g2 i hi with h|h
   .exact .inl (aG _ h)
   .rcases List.mem_cons.1 h with h|h
    .exact .inl (by simp[h])
    .exact .inr h
def aCX{rk:Nat->Nat}{order:List Nat}(h:Ap rk ops order=true):CM ops (fL ops.toList []) order:=by
 unfold Ap at h;simp only[aC,bJ]at h;obtain⟨ht,hl⟩:=h;obtain⟨t1,t2⟩:=R7 _ _ ht;have mem: ∀{i o},ops[i]?=some o->(o,i)∈ops.toList.zipIdx:=by
  intro i o ho;rw[List.mem_zipIdx_iff_getElem?];simpa using ho
 refine⟨?_,?_,?_,?_,?_,?_,?_⟩
 .refine⟨rk,?_⟩;intro i o e ho he hb;have:=(hl _ (mem ho)).1.1;have:=this e (Array.mem_toList_iff.2 he);simp only[hb,bD,Bool.false_or,gQ,aC,aD]at this;exact this
 .intro i o j ho hb;have hlo:ops.toList[i]?=some o:=by simpa using ho
  obtain⟨qs,h1,h2,h3⟩:=(SE ops.toList [] i).2 i o (by simp) hlo
  rw[h1]at hb;obtain⟨e,he,kx,hor⟩:=IR qs o j hb;refine⟨e,he,kx,hor.imp id λ⟨bh,qa⟩=>⟨by omega,?_⟩⟩
  rw[h3 e.on (by omega)]at qa;exact qa
 .intro i o j b ho hg;have:=(hl _ (mem ho)).1.2;simp only[hg,aC,gQ,aD]at this;exact this
 .intro i j o o' d bj ho jd hd kw;have:=(hl _ (mem ho)).2 _ (mem jd);simp only[Fv,cQ,bj,decide_false,Bool.false_or,hd,aC,Bool.or_eq_true]at this;rcases this.1 with(h|h)|h
  .exact .inl h
  .exact .inr h
  .rw[List.contains_iff_mem.2 kw]at h;cases h
 .intro i j o o' d bj ho jd hd mc;have:=(hl _ (mem ho)).2 _ (mem jd);simp only[Fv,cQ,bj,decide_false,Bool.false_or,hd,mc,aC,bM,bD]at this;exact absurd this.2 (by simp)
 .intro l1 i l2 e;obtain⟨h1,h2,h3,h4,h5⟩:=t1 l1 i l2 e;exact⟨h1,h2,λj hj hb=>(h4 j hj hb).resolve_right (by simp),λe o he=>h5 e o (.inl he)⟩
 .intro i hi;exact(t2 i hi).resolve_right (by simp)
def Vn(h:Bj ops=true):Ap (λi=>i) ops (canon ops (fL ops.toList []))=true:=by
 unfold Bj at h;unfold Ap;simp only[aC,bJ]at h⊢;obtain⟨ht,hl⟩:=h;refine⟨ht,λx hx=>?_⟩
 obtain⟨⟨h1,h2⟩,h3⟩:=hl x hx;refine⟨⟨λe he=>?_,h2⟩,h3⟩
 have h4:=h1 e he;cases hb:Region.binds .any e with
 |false=>rfl
 |true=>
  rw[hb]at h4;simp only[bD,Bool.false_or,gQ,aD,aC]at h4⊢;have lp:ops.toList[x.2]?=some x.1:=by
   have:=List.mem_zipIdx_iff_getElem?.1 (show(x.1,x.2)∈ops.toList.zipIdx from hx)
   exact this
  have hi:=(List.getElem?_eq_some_iff.1 lp).1;exact⟨h4,by have:ops.toList.length=ops.size:=Array.length_toList;omega⟩
def aMX(h:Bj ops=true):CM ops (fL ops.toList []) (canon ops (fL ops.toList [])):=aCX (Vn h)
structure EB(w0:W0)(P:Program)(ops:Array Oper)(base α n0:Nat)(S0:Slots)(rs:List zO)(Cs:List St)(Es:List Nat)(Y0:Mp)(listed:Array Bool)(a:Act)(w:World)(Y:Mp)(k:Nat)(s:St):Prop where
 size:listed.size=ops.size
 closed: ∀(i:Nat) (o:Oper) (e:Edge),ops[i]?=some o->listed.getD i false=true->e∈o.after->Region.binds .any e=true->listed.getD e.on false=true
 count: ∀(q e:Nat),Es[q]?=some e->(listed.getD e false=true↔q<k)
 state:Cs[k]?=some s
 sim:Sim w0 P Y s w
 next:base+ops.size<=s.next
 none: ∀i,i<ops.size->listed.getD i false=false->Y (base+i)=none
 ext:Ext n0 Y0 Y
 tsize:α<=a.tmps.size
 defers:a.defers=[]
 here: ∀r∈rs,listed.getD r.i false=true->∀x,r.o.dst=some x->VR Y r.v (a.tmps.getD x undef)
 there: ∀x,(∀r∈rs,listed.getD r.i false=true->r.o.dst≠some x)->VR Y (S0.at x) (a.tmps.getD x undef)
def WC(listed:Array Bool)(i j:Nat)(h:i<listed.size):(listed.setIfInBounds i true).getD j false=if j=i then true else listed.getD j false:=by
 by_cases e:j=i
 .subst e;rw[bI rfl];simp[Array.getD_eq_getD_getElem?,h]
 .rw[bH e,getD_set_ne false (Ne.symm e)]
def nX{order:List Nat}(D:CM ops ms order){listed:Array Bool}
    (closed: ∀(i:Nat) (o:Oper) (e:Edge),ops[i]?=some o->listed.getD i false=true->e∈o.after->Region.binds .any e=true->listed.getD e.on false=true):
    ∀(i j:Nat) (o:Oper),ops[i]?=some o->(∀e∈o.after,Region.binds .any e=true->listed.getD e.on false=true)->kK (ms.getD i 0) j=true->listed.getD j false=true:=by
 intro i;induction i using Nat.strongRecOn with
 |_ i ih=>
  intro j o ho dc hb;obtain⟨e,he,kx,hor⟩:=D.mask i o j ho hb;have hl:=dc e he kx;rcases hor with rfl|⟨bh,qa⟩
  .exact hl
  .have hio:i<ops.size:=(Array.getElem?_eq_some_iff.1 ho).1;have hoe:ops[e.on]?=some (ops[e.on]'(by omega)):=Array.getElem?_eq_getElem _
   exact ih e.on bh j _ hoe (λe' dz bv=>closed e.on _ e' hoe hl dz bv) qa
def jP{listed:Array Bool}{i:Nat}(h:listed.getD i true=false):listed.getD i false=false/\i<listed.size:=by
 rw[Array.getD_eq_getD_getElem?]at h⊢;cases hc:listed[i]? with
 |none=>simp[hc]at h
 |some b=>simp[hc]at h⊢;exact⟨h,(Array.getElem?_eq_some_iff.1 hc).1⟩
def aJv(listed:Array Bool):Nat:=(listed.toList.filter λb=> !b).length
def Pb{listed:Array Bool}{i:Nat}(h:listed.getD i true=false):aJv (listed.setIfInBounds i true)+1=aJv listed:=by
 obtain⟨_,hi⟩:=jP h;have hv:listed[i]=false:=by rw[Array.getD_eq_getD_getElem?,Array.getElem?_eq_getElem hi]at h;simpa using h
 unfold aJv;rw[Array.toList_setIfInBounds];have main: ∀(l:List Bool) (i:Nat) (hi:i<l.length),l[i]=false->((l.set i true).filter λb=> !b).length+1=(l.filter λb=> !b).length:=by
  intro l;induction l with
  |nil=>intro i hi;simp at hi
  |cons b l ih=>
   intro i hi hv;cases i with
   |zero=>simp at hv;subst hv;simp
   |succ i=>
    have:=ih i (by simpa using hi) (by simpa using hv)
    cases b<;>simp[List.filter_cons]<;>omega
 exact main listed.toList i (by simpa using hi) (by simpa using hv)
def eR{N:Type}{l:List N}{x:N}(h:x∈l): ∃l1 l2,l=l1++x::l2:=List.append_of_mem h
def LV(bm:CallOK w0 P call){order:List Nat}(D:CM ops ms order){α n0:Nat}(bw: ∀o∈ops.toList,pY P α o=true){rs:List zO}{Cs:List St}{Es:List Nat}{S0:Slots}{H0:St}{Y0:Mp}(hn0:n0<=base)
    (C:Cert P call ops ms base S' H' rs Cs Es [] S0 H0) (la:rs.map (·.i)=order) {Q:Exit->Act->World->Prop} (dj:qS w0 P Y0 n0 α S' H' (Q .normal)):
    (∀(listed:Array Bool) (a:Act) (w:World) (Y:Mp) (k:Nat) (s:St),EB w0 P ops base α n0 S0 rs Cs Es Y0 listed a w Y k s->(∀i,i<ops.size->listed.getD i false=true)->Q .normal a w)/\
    ∀(listed:Array Bool) (a:Act) (w:World) (Y:Mp) (k:Nat) (s:St),EB w0 P ops base α n0 S0 rs Cs Es Y0 listed a w Y k s->∀i∈Region.ready .any ops listed,
      wpOp P ops Q i (λa' w'=> ∃Y' k' s',EB w0 P ops base α n0 S0 rs Cs Es Y0 (listed.setIfInBounds i true) a' w' Y' k' s') a w:=by
 have hrec: ∀i,i<ops.size->∃l1 r l2,rs=l1++r::l2/\r.i=i:=by
  intro i hi;have:=D.all i hi;rw[<-la]at this;obtain⟨r,hr,rfl⟩:=List.mem_map.1 this;obtain⟨l1,l2,e⟩:=eR hr;exact⟨l1,r,l2,e,rfl⟩
 have jk: ∀{l1 r l2},rs=l1++r::l2->r.i<ops.size/\(∀r'∈l1,r'.i≠r.i)/\(∀j,j<ops.size->kK (ms.getD r.i 0) j=true->∃r'∈l1,r'.i=j)/\(∀r' o,r'∈l1->ops[r'.i]?=some o->jX o=true->kK (ms.getD r.i 0) r'.i=true):=by
  intro l1 r l2 e;obtain⟨h1,h2,h3,h4⟩:=D.split (l1.map (·.i)) r.i (l2.map (·.i)) (by rw[<-la,e];simp)
  refine⟨h1,λr' ca e'=>h2 (List.mem_map.2 ⟨r',ca,e'⟩),λj hj hb=>?_,λr' o ca ho he=>h4 r'.i o (List.mem_map.2 ⟨r',ca,rfl⟩) ho he⟩
  obtain⟨r',ca,e'⟩:=List.mem_map.1 (h3 j hj hb);exact⟨r',ca,e'⟩
 have lu: ∀r∈rs,ops[r.i]?=some r.o:=by
  intro r hr;obtain⟨l1,l2,e⟩:=eR hr;rw[e]at C;exact(C.at (w0:=w0) l1 r l2).1
 have jj: ∀r1∈rs,∀r2∈rs,r1.i=r2.i->r1=r2:=by
  intro r1 h1 r2 h2 e;obtain⟨l1,l2,e1⟩:=eR h1;rw[e1]at h2;rcases List.mem_append.1 h2 with h|h
  .exact absurd e.symm ((jk e1).2.1 r2 h)
  .rcases List.mem_cons.1 h with h|h
   .exact h.symm
   .obtain⟨m1,m2,e2⟩:=eR h;exact absurd e ((jk (l1:=l1++r1::m1) (r:=r2) (l2:=m2) (by rw[e1,e2];simp)).2.1 r1 (by simp))
 have iG: ∀(listed:Array Bool) (a:Act) (w:World) (Y:Mp) (k:Nat) (s:St),EB w0 P ops base α n0 S0 rs Cs Es Y0 listed a w Y k s->(∀i,i<ops.size->listed.getD i false=true)->Q .normal a w:=by
  intro listed a w Y k s G dc;have hk:k=Es.length:=by
   obtain⟨hl,_⟩:=C.lens;have h1:k<Cs.length:=by
    rcases Nat.lt_or_ge k Cs.length with h|h
    .exact h
    .have:=G.state;rw[List.getElem?_eq_none h]at this;cases this
   rcases Nat.lt_or_ge k Es.length with h|h
   .have he:=aV h;have bh:Es[k]<ops.size:=by
     rcases Nat.lt_or_ge Es[k] ops.size with h'|h'
     .exact h'
     .have:listed.getD Es[k] false=false:=by rw[Array.getD_eq_getD_getElem?,Array.getElem?_eq_none (by rw[G.size];exact h')];rfl
      exact absurd ((C.at_eff he).1) (by omega)
    have:=(G.count k _ he).1 (dc _ bh);omega
   .omega
  subst hk;have hs:s=H':=by have:=G.state;rw[C.lens.2]at this;cases this;rfl
  subst hs;refine dj a w Y ⟨G.tsize,G.defers,λx=>?_⟩ G.sim G.ext (by have:=G.next;omega)
  have hs:=Cert.slots rs [] Cs Es [] S0 H0 S' (by simpa using C) (λr l3 e=>by cases e) (λ_=>rfl) x
  by_cases hx: ∃r∈rs,r.o.dst=some x
  .obtain⟨r,hr,hd⟩:=hx;obtain⟨l1,l2,e⟩:=eR hr;rw[hs.2 l1 r l2 e hd (λr' ca mc=>by
    have bn:r.i≠r'.i:=by
     obtain⟨m1,m2,e2⟩:=eR ca;exact(jk (l1:=l1++r::m1) (r:=r') (l2:=m2) (by rw[e,e2];simp)).2.1 r (by simp)
    exact D.dsts r.i r'.i r.o r'.o x bn (lu r hr) (lu r' (by rw[e];simp[ca])) hd mc)]
   exact G.here r hr (dc _ (jk e).1) x hd
  .have lp: ∀r∈rs,r.o.dst≠some x:=λr hr hd=>hx ⟨r,hr,hd⟩
   rw[hs.1 lp];exact G.there x (λr hr _=>lp r hr)
 refine⟨iG,?_⟩;intro listed a w Y k s G i hi;obtain⟨h1,o,ho,dc⟩:=mem_ready.1 hi;obtain⟨h2,h3⟩:=jP h1;have hio:i<ops.size:=by rw[<-G.size];exact h3
 obtain⟨l1,r,l2,bg,hri⟩:=hrec i hio;subst hri;have jm:r∈rs:=by rw[bg];simp
 have hor:r.o=o:=by have:=lu r jm;rw[ho]at this;cases this;rfl
 subst hor;have lf:=bw r.o (by have:ops.toList[r.i]?=some r.o:=(by simpa using ho);exact List.mem_of_getElem? this)
 obtain⟨sp1,sp2,sp3,sp4⟩:=jk bg;have hml:=nX D G.closed r.i;have cr:=Cert.slots l1 (r::l2) Cs Es [] S0 H0 r.S (by rw[<-bg];exact C) (λr' l3 e=>by cases e;rfl) (λe=>by cases e)
 have kw: ∀x,x∈r.o.looksAt ops->VR Y (r.S.at x) (a.tmps.getD x undef):=by
  intro x hx;by_cases hex: ∃r'∈rs,r'.o.dst=some x
  .obtain⟨r',ca,mc⟩:=hex;have only: ∀r''∈rs,r''.o.dst=some x->r''=r':=by
    intro r'' dg ja;by_cases e:r''.i=r'.i
    .exact jj _ dg _ ca e
    .exact(D.dsts _ _ _ _ x e (lu _ dg) (lu _ ca) ja mc).elim
   by_cases e:r'.i=r.i
   .have:r'=r:=jj _ ca _ jm e;subst this;rw[(cr x).1 (λr'' dg ja=>by
     have:=only r'' (by rw[bg];simp[dg]) ja
     subst this;exact sp2 r'' dg rfl)]
    exact G.there x (λr'' dg hl ja=>by
     have:=only r'' dg ja;subst this;rw[h2]at hl;cases hl)
   .rcases D.haz r.i r'.i r.o r'.o x (Ne.symm e) ho (lu _ ca) mc hx with hb|hb
    ·
     have hlst:=hml r'.i r.o ho dc hb;have bh:r'.i<ops.size:=(Array.getElem?_eq_some_iff.1 (lu _ ca)).1;obtain⟨r'',dg,e''⟩:=sp3 r'.i bh hb;have:r''=r':=jj _ (by rw[bg];simp[dg]) _ ca e''
     subst this;obtain⟨p1,p2,ep⟩:=eR dg;rw[(cr x).2 p1 r'' p2 ep mc (λq hq hdq=>by
      have hqr:q∈rs:=by rw[bg,ep];simp[hq]
      have:=only q hqr hdq;subst this;obtain⟨m1,m2,e2⟩:=eR hq;exact(jk (l1:=p1++q::m1) (r:=q) (l2:=m2++r::l2) (by rw[bg,ep,e2];simp)).2.1 q (by simp) rfl)]
     exact G.here r'' ca hlst x mc
    ·
     have gb:listed.getD r'.i false=false:=by
      cases hc:listed.getD r'.i false with
      |false=>rfl
      |true=>
       have:=nX D G.closed r'.i r.i r'.o (lu _ ca) (λe he kx=>G.closed r'.i r'.o e (lu _ ca) hc he kx) hb
       rw[h2]at this;cases this
     have pj:r'∉l1:=by
      intro hm;obtain⟨p1,p2,ep⟩:=eR hm;obtain⟨q,hq,eq⟩:=(jk (l1:=p1) (r:=r') (l2:=p2++r::l2) (by rw[bg,ep];simp)).2.2.1 r.i hio hb
      exact sp2 q (by rw[ep];simp[hq]) eq
     rw[(cr x).1 (λr'' dg ja=>by
      have:=only r'' (by rw[bg];simp[dg]) ja
      subst this;exact pj dg)]
     exact G.there x (λr'' dg hl ja=>by
      have:=only r'' dg ja;subst this;rw[gb]at hl;cases hl)
  .have hex': ∀r'∈rs,r'.o.dst≠some x:=λr' ca mc=>hex ⟨r',ca,mc⟩
   rw[(cr x).1 (λr' ca=>hex' r' (by rw[bg];simp[ca]))]
   exact G.there x (λr' ca _=>hex' r' ca)
 have hρ: ∀x∈r.o.op.operands,VR Y (ev r.S x) (a.eval x):=by
  intro x hx;have rv:=Bi lf x hx;cases x with
  |tmp t=>
   refine kw t ?_;unfold Oper.looksAt;exact List.mem_append.2 (.inl (List.mem_filterMap.2 ⟨.tmp t,Array.mem_toList_iff.2 hx,rfl⟩))
  |const v=>exact .same1 rv
  |global g=>
   simp only[cI,gQ,aD]at rv;obtain⟨p,hp,hb,jd⟩:=G.sim.glob g rv;have:=VR.ptr (Y:=Y) g 0 p hp;rw[hb,jd]at this;exact this
  |func f=>exact .fn _ _ _ _ _ rfl (λi x u h=>by simp at h) rfl (λi x u h=>by simp at h)
 have hwant:wanted ops r.S r.o=Region.wanted r.o (yielded ops a.tmps):=by
  refine AF (Y:=Y) ops r.o (λj want d hg hd=>kw d ?_)
  unfold Oper.looksAt;rw[hg];exact List.mem_append.2 (.inr (by simp[hd]))
 have fb: ∀j,(listed.setIfInBounds r.i true).getD j false=if j=r.i then true else listed.getD j false:=λj=>WC listed r.i j h3
 have step: ∀(a':Act) (w':World) (Y':Mp) (k':Nat) (s':St) (v':Value),a'=a.put r.o.dst v'->VR Y' r.v v'->Cs[k']?=some s'->Sim w0 P Y' s' w'->base+ops.size<=s'.next->
      (∀k p,Y k=some p->Y' k=some p)->(∀j,j<base+ops.size->j≠base+r.i->Y' j=Y j)->
      (∀(q e:Nat),Es[q]?=some e->((e=r.i∨listed.getD e false=true)↔q<k'))->EB w0 P ops base α n0 S0 rs Cs Es Y0 (listed.setIfInBounds r.i true) a' w' Y' k' s':=by
  intro a' w' Y' k' s' v' dd dy ci hsim jf bz cb hcnt;have hdst:=uJ lf;refine⟨by simp[G.size],?_,?_,ci,hsim,jf,?_,?_,?_,?_,?_,?_⟩
  .intro j oj e hoj hl he kx;rw[fb]at hl⊢;split
   .rfl
   .split at hl
    .rename_i ej;subst ej;rw[ho]at hoj;cases hoj;exact dc e he kx
    .exact G.closed j oj e hoj hl he kx
  .intro q e hq;rw[fb];rw[<-hcnt q e hq];by_cases he:e=r.i
   .simp[he]
   .simp[he]
  .intro j hj hl;rw[fb]at hl;split at hl
   .cases hl
   .rename_i bn;rw[cb (base+j) (by omega) (by omega)]
    exact G.none j hj hl
  .exact⟨λk p hk=>bz k p (G.ext.1 k p hk),λk hk=>(cb k (by omega) (by omega)).trans (G.ext.2 k hk)⟩
  .subst dd;have:=G.tsize;cases r.o.dst<;>simp[Act.put,this]
  .subst dd;cases r.o.dst<;>simp[Act.put,G.defers]
  .intro q hq hl x hd;subst dd;rw[BE _ _ _ _ (λt e=>Nat.lt_of_lt_of_le (hdst t e) G.tsize)]
   rw[fb]at hl;by_cases e:q.i=r.i
   .have:q=r:=jj _ hq _ jm e;subst this;rw[bI hd];exact dy
   .rw[bH e]at hl;have ge:r.o.dst≠some x:=λmc=>D.dsts q.i r.i q.o r.o x e (lu _ hq) ho hd mc
    rw[bH ge];exact(G.here q hq hl x hd).mono' bz
  .intro x hx;subst dd;rw[BE _ _ _ _ (λt e=>Nat.lt_of_lt_of_le (hdst t e) G.tsize)]
   have ge:r.o.dst≠some x:=hx r jm (by rw[fb,bI rfl])
   rw[bH ge];refine(G.there x λq hq hl=>hx q hq ?_).mono' bz
   rw[fb];split
   .rfl
   .exact hl
 obtain⟨_,je,hjl,hje,hR⟩:=Cert.at (w0:=w0) l1 r l2 Cs Es [] S0 H0 (by rw[<-bg];exact C)
 have hjek: ∀q,q<je->∀e,Es[q]?=some e->q<k:=by
  intro q hq e he;obtain⟨r',ca,e',hef,jd⟩:=hje q e hq he;have hb:=sp4 r' r'.o ca jd hef;have:=hml r'.i r.o ho dc hb;rw[e']at this;exact(G.count q e he).1 this
 have hkl:k<=Es.length:=by
  have h1:k<Cs.length:=by
   rcases Nat.lt_or_ge k Cs.length with h|h
   .exact h
   .have:=G.state;rw[List.getElem?_eq_none h]at this;cases this
  have:=C.lens.1;omega
 have hjk:je<=k:=by
  rcases Nat.lt_or_ge k je with h|h
  .have bh:k<Es.length:=by omega
   have:=hjek k h _ (aV bh);omega
  .exact h
 have kn:(wanted ops r.S r.o=false∨cL r.o≠ .eff)->∀(q e:Nat),Es[q]?=some e->((e=r.i∨listed.getD e false=true)↔q<k):=by
  intro bn q e he;have:e≠r.i:=by
   intro ee;obtain⟨_,r',h1',h2',h3',h4',h5'⟩:=C.at_eff he;have:r'=r:=jj _ h1' _ jm (by rw[h2',ee])
   subst this;rcases bn with h|h
   .rw[h]at h5';cases h5'
   .exact h h4'
  simp only[this,false_or];exact G.count q e he
 have qo: ∀(q e:Nat),je<=q->q<k->Es[q]?=some e->kK (ms.getD e 0) r.i=false:=by
  intro q e _ hqk he;cases hb:kK (ms.getD e 0) r.i with
  |false=>rfl
  |true=>
   obtain⟨_,r',h1',h2',h3',_⟩:=C.at_eff he;have hle:=(G.count q e he).2 hqk;have:=nX D G.closed e r.i r'.o h3' (λe' dz kx=>G.closed e r'.o e' h3' hle dz kx) hb
   rw[h2]at this;cases this
 have ch:=G.none r.i hio h2;have hltn:base+r.i<s.next:=by have:=G.next;omega
 unfold wpOp;rw[ho];simp only;rw[<-hwant];rcases hR with⟨hw,hv⟩|⟨hw,hk,hv⟩|⟨hw,hk,hv⟩|⟨hw,hk,ob,hv,fa⟩|⟨hw,hk,hEs,s0,H1,s',hCs,hv,hCs',hnx',htr⟩
 .rw[hw];simp only[Bool.false_eq_true,bN];exact⟨Y,k,s,step _ w Y k s undef rfl (by rw[hv];exact .undef) G.state G.sim G.next (λ_ _ h=>h) (λ_ _ _=>rfl) (kn (.inl hw))⟩
 .rw[hw];simp only[bO];refine .inl (Oper.wp_mono (λa' w' hL=>?_) (PU (base+r.i) G.sim hρ hv (Q:=Q)))
  obtain⟨Y',v',dd,dy,hZ,bz,cb,jf⟩:=hL;exact⟨Y',k,s,step a' w' Y' k s v' dd dy G.state hZ G.next bz (λj hj bn=>cb j (by have:=G.next;omega) bn) (kn (.inr (by rw[hk];simp)))⟩
 .rw[hw];simp only[bO];refine .inl (Oper.wp_mono (λa' w' hL=>?_) (Pw (base+r.i) G.sim hρ (hv k s hjk G.state qo) (Q:=Q)))
  obtain⟨Y',v',dd,dy,hZ,bz,cb,jf⟩:=hL;exact⟨Y',k,s,step a' w' Y' k s v' dd dy G.state hZ G.next bz (λj hj bn=>cb j (by have:=G.next;omega) bn) (kn (.inr (by rw[hk];simp)))⟩
 .rw[hw];simp only[bO];refine .inl (Oper.wp_mono (λa' w' hL=>?_) (KJ G.sim hρ ch hltn hv (fa k s hjk G.state qo) (Q:=Q)))
  obtain⟨Y',v',dd,dy,hZ,bz,cb,jf⟩:=hL;exact⟨Y',k,s,step a' w' Y' k s v' dd dy G.state hZ G.next bz (λj hj bn=>cb j (by have:=G.next;omega) bn) (kn (.inr (by rw[hk];simp)))⟩
 .rw[hw];simp only[bO];have hje':je=k:=by
   rcases Nat.lt_or_ge je k with h|h
   .have:=(G.count je r.i hEs).2 h;rw[h2]at this;cases this
   .omega
  subst hje';have hs0:s0=s:=by have:=G.state;rw[hCs]at this;cases this;rfl
  subst hs0;refine .inl (Oper.wp_mono (λa' w' hL=>?_) (WW bm G.sim hρ ch hltn hv (Q:=Q)))
  obtain⟨Y',v',dd,dy,hZ,bz,cb,jf⟩:=hL;have sd: ∀r'∈l2,Y' (base+r'.i)=none:=by
   intro r' ca;obtain⟨m1,m2,e2⟩:=eR ca;obtain⟨q1,q2,q3,q4⟩:=jk (l1:=l1++r::m1) (r:=r') (l2:=m2) (by rw[bg,e2];simp)
   have hb:=q4 r r.o (by simp) ho (by simp[jX,hk])
   have bn:r.i≠r'.i:=q2 r (by simp)
   have gb:listed.getD r'.i false=false:=by
    cases hc:listed.getD r'.i false with
    |false=>rfl
    |true=>
     have hr'm:r'∈rs:=by rw[bg];simp[ca]
     have:=nX D G.closed r'.i r.i r'.o (lu _ hr'm) (λe he kx=>G.closed r'.i r'.o e (lu _ hr'm) hc he kx) hb
     rw[h2]at this;cases this
   rw[cb (base+r'.i) (by have:=G.next;omega) (by omega)]
   exact G.none r'.i q1 gb
  have ge:Es.Nodup:=C.effs_nodup (by rw[la];exact Bn _ (λl1 i l2 e=>(D.split l1 i l2 e).2.1))
  refine⟨Y',je+1,s',step a' w' Y' (je+1) s' v' dd dy hCs' (htr Y' w' sd hZ) (by have:=G.next;omega) bz (λj hj bn=>cb j (by have:=G.next;omega) bn) (λq e he=>?_)⟩
  constructor
  .rintro(h|h)
   .subst h;have hq:q<Es.length:=(List.getElem?_eq_some_iff.1 he).1;have hj:je<Es.length:=(List.getElem?_eq_some_iff.1 hEs).1;have e1:Es[q]=r.i:=(List.getElem?_eq_some_iff.1 he).2;have e2:Es[je]=r.i:=(List.getElem?_eq_some_iff.1 hEs).2;rcases Nat.lt_or_ge q je with h'|h'
    .omega
    .rcases Nat.eq_or_lt_of_le h' with h'|h'
     .omega
     .exact absurd (e2.trans e1.symm) (List.pairwise_iff_getElem.1 ge je q hj hq h')
   .have:=(G.count q e he).1 h;omega
  .intro h;rcases Nat.lt_or_ge q je with h'|h'
   .exact .inr ((G.count q e he).2 h')
   .have:q=je:=by omega
    subst this;rw[hEs]at he;cases he;exact .inl rfl
def aCW(bm:CallOK w0 P call){order:List Nat}(D:CM ops ms order){α n0:Nat}(bw: ∀o∈ops.toList,pY P α o=true){rs:List zO}{Cs:List St}{Es:List Nat}{S0:Slots}{H0:St}{Y0:Mp}(hn0:n0<=base)
    (C:Cert P call ops ms base S' H' rs Cs Es [] S0 H0) (la:rs.map (·.i)=order) {Q:Exit->Act->World->Prop} (dj:qS w0 P Y0 n0 α S' H' (Q .normal)):
    ∀(fuel:Nat) (listed:Array Bool) (a:Act) (w:World) (Y:Mp) (k:Nat) (s:St),aJv listed<=fuel->EB w0 P ops base α n0 S0 rs Cs Es Y0 listed a w Y k s->wpAny P .any ops Q fuel listed a w:=by
 obtain⟨iG,step⟩:=LV bm D bw hn0 C la dj;intro fuel;induction fuel with
 |zero=>
  intro listed a w Y k s hu G;have dc: ∀i,i<ops.size->listed.getD i false=true:=by
   intro i hi;cases hb:listed.getD i false with
   |true=>rfl
   |false=>
    have h1:listed.getD i true=false:=by
     rw[Array.getD_eq_getD_getElem?,Array.getElem?_eq_getElem (by rw[G.size];exact hi)]at hb⊢;simpa using hb
    have:=Pb h1;omega
  refine⟨?_,iG listed a w Y k s G dc⟩;cases hr:Region.ready .any ops listed with
  |nil=>rfl
  |cons i l=>
   have hm:i∈Region.ready .any ops listed:=by rw[hr];simp
   obtain⟨h1,o,ho,_⟩:=mem_ready.1 hm;obtain⟨h2,h3⟩:=jP h1;rw[dc i (by rw[<-G.size];exact h3)]at h2;cases h2
 |succ fuel ih=>
  intro listed a w Y k s hu G;refine⟨λhr=>?_,λi hi=>?_⟩
  ·
   refine iG listed a w Y k s G ?_;obtain⟨rk,hrk⟩:=D.edge;have main: ∀(m i:Nat),rk i=m->i<ops.size->listed.getD i false=true:=by
    intro m;induction m using Nat.strongRecOn with
    |_ m ihi=>
     intro i hm hi;cases hb:listed.getD i false with
     |true=>rfl
     |false=>
      exfalso;have h1:listed.getD i true=false:=by
       rw[Array.getD_eq_getD_getElem?,Array.getElem?_eq_getElem (by rw[G.size];exact hi)]at hb⊢;simpa using hb
      have ho:ops[i]?=some ops[i]:=Array.getElem?_eq_getElem hi;have:i∈Region.ready .any ops listed:=mem_ready.2 ⟨h1,ops[i],ho,λe he kx=>by
       obtain⟨g1,g2⟩:=hrk i _ e ho he kx;exact ihi (rk e.on) (by omega) e.on rfl g2⟩
      rw[hr]at this;cases this
   exact λi hi=>main _ i rfl hi
  .have jx:aJv (listed.setIfInBounds i true)<=fuel:=by have:=Pb (mem_ready.1 hi).1;omega
   exact wpOp_mono (λa' w' ⟨Y',k',s',G'⟩=>ih _ a' w' Y' k' s' jx G') (step listed a w Y k s G i hi)
end
end Go.AI
namespace Go.PI
open Go.AI
section
variable{P:Program}{J J':Nu}{I I1 I':Ga}{H H':St}{S:PS}{A:Slots}
def qO{z:Nat}: ∀(n:Nat) (l:List PV),l.length=n*z->eD (mS z n l)=l/\(mS z n l).length=n/\∀e∈mS z n l,e.cells.length=z/\(l.all PV.pur=true->e.cells.all PV.pur=true):=by
 intro n;induction n with
 |zero=>intro l h;simp at h;subst h;exact⟨rfl,rfl,λe he=>by simp[mS]at he⟩
 |succ n ih=>
  intro l h;rw[Nat.succ_mul]at h;obtain⟨h1,h2,h3⟩:=ih (l.drop z) (by simp;omega)
  refine⟨?_,by simp[mS,h2],λe he=>?_⟩
  .simp only[mS,eD,aN,PV.cells];have:List.flatMap PV.cells (mS z n (l.drop z))=l.drop z:=h1;rw[this,List.take_append_drop]
  .simp only[mS,List.mem_cons]at he;rcases he with rfl|he
   .refine⟨by simp[PV.cells];omega,λhp=>?_⟩
    simp only[PV.cells,bJ]at hp⊢;exact λx hx=>hp x (List.mem_of_mem_take hx)
   .refine⟨(h3 e he).1,λhp=>(h3 e he).2 ?_⟩
    rw[bJ]at hp⊢;exact λx hx=>hp x (List.mem_of_mem_drop hx)
def Uo(S:PS)(t:Nat):S.set t (S.at t)=S:=by
 cases S with|mk f=>simp only[PS.set,PS.at,PS.mk.injEq];funext k;rw[cQ,Bool.cond_decide];split<;>simp_all
def uH{p p':PSt}(M:Mem J I p H)(F:FR J I H S A){t:Nat}{S':PS}(h:jI p S t=some (S',p')):
    ∃J',Mem J' I p' H/\FR J' I H S' A/\Adv J I p H J' I p' H:=by
 have kf:S'=S->p'=p->∃J',Mem J' I p' H/\FR J' I H S' A/\Adv J I p H J' I p' H:=by
  rintro rfl rfl;exact⟨J,M,F,.refl J I p' H⟩
 have hF:=F t;unfold jI at h;split at h<;>try cases h
 rename_i rr mu;unfold aV2 at mu;split at mu
 .rename_i id off len b hS;split at mu
  .rename_i z a cs hg;cases hc:Nat.ble (off+len*z) cs.length&&Nat.ble 1 z&&(a||Nat.beq z 1)&&cs.all PV.pur with
   |false=>rw[hc,aJ]at mu;cases mu
   |true=>
    rw[hc,aI]at mu;simp only[aA]at mu;subst mu;simp only[aC]at hc;obtain⟨⟨⟨hc1,hc2⟩,hc3⟩,hc4⟩:=hc;have hlen:=bP hc1;have hl:((cs.drop off).take (len*z)).length=len*z:=by simp;omega
    have hz:=bP hc2;have hid:=LN hg;obtain⟨ai,us,h1,h2,h3,h5,h4⟩:=M.get id _ hg;rw[hS]at hF;have gf:Mon H J (λk=>if k=id then some none else J k):=by
     refine⟨λk x hk=>?_,λk a' hk=>?_⟩
     .by_cases e:k=id
      .right;show(if k=id then some none else J k)=some none;rw[bI e]
      .left;show(if k=id then some none else J k)=some x;rw[bH e];exact hk
     .by_cases e:k=id
      .simp only[e,bO]at hk;cases hk
      .simp only[e,bN]at hk;exact .inl hk
    have hkp:Keep J jS H H:= .refl J jS H;have mb:Fz (λk=>if k=id then some none else J k) H ai us (cS z):=by
     refine⟨row_of_get h2 rfl,λk hk=>?_⟩
     by_cases e:k=id
     .simp only[e,bO]at hk;cases hk
     .simp only[e,bN]at hk;exact e (M.inj k id ai hk h1)
    refine⟨λk=>if k=id then some none else J k,⟨λk x hk=>?_,λk a' hk=>?_,λi j a' hi hj=>?_,λk a' hk=>?_,λk o hk=>?_,M.free,M.ver⟩,λk=>?_,⟨.refl J I H,gf,.refl H I,.upd p id .gone,λa cs m h=>⟨cs,m.tip,h⟩,λk a' hk hd=>⟨rfl,by
     have bn:k≠id:=λe=>hd (by subst e;exact Fg)
     show(if k=id then some none else J k)=_
     rw[bH bn];exact hk⟩⟩⟩
    .show k<p.next
     by_cases e:k=id
     .omega
     .simp only[e,bN]at hk;exact M.le _ _ hk
    .by_cases e:k=id
     .simp only[e,bO]at hk;cases hk
     .simp only[e,bN]at hk;exact M.lt _ _ hk
    .by_cases e:i=id
     .simp only[e,bO]at hi;cases hi
     .by_cases e':j=id
      .simp only[e',bO]at hj;cases hj
      .simp only[e,e',bN]at hi hj;exact M.inj _ _ _ hi hj
    .by_cases e:k=id
     .simp only[e,bO]at hk;cases hk
     .simp only[e,bN]at hk;rw[kG hid,bH e];exact M.live _ _ hk
    .rw[kG hid]at hk;by_cases e:k=id
     .simp only[e,bO,aA]at hk;subst hk;subst e;show(if k=k then some none else J k)=some none;simp
     .simp only[e,bN]at hk;exact(M.get k o hk).keep hkp gf (by simp[e]) (λ_ _=>rfl) λi fh hi _=>⟨rfl,hi⟩
    .rw[mU];by_cases e:k=t
     .subst e;rw[bI rfl];refine⟨?_,λh=>by cases h⟩
      have hr:=hF.1;generalize A.at k=w at hr;cases hr with
      |rs0 _ _ _ c a' hν=>rw[h1]at hν;cases hν
      |rs _ _ _ c a' hν=>
       rw[h1]at hν;simp only[aA]at hν;subst hν;have di:((cs.drop off).take (len*z)).all PV.pur=true:=by
        rw[bJ]at hc4⊢;exact λx hx=>hc4 x (List.mem_of_mem_drop (List.mem_of_mem_take hx))
       have qz: ∀(i:Nat) (x:PV) (u:Value),((cs.drop off).take (len*z))[i]?=some x->us[off+i]?=some u->R (λk=>if k=id then some none else J k) H x u:=by
        intro i x u hx hu;rw[List.getElem?_take]at hx;split at hx
        .rw[List.getElem?_drop]at hx;exact(h4 _ x u hx hu).keep hkp gf
        .cases hx
       cases a with
       |true=>
        obtain⟨k1,k2,k3⟩:=qO (z:=z) len _ hl;simp only[aI];have:=R.sl (J:=λk=>if k=id then some none else J k) (H:=H) z (mS z len ((cs.drop off).take (len*z))) ai off c us (cS z) hz (λe he=>⟨(k3 e he).1,(k3 e he).2 di⟩) mb rfl (by rw[k2,h3];exact hlen) (by rw[k1];exact qz)
        rw[k2]at this;have h6:=E9 (es:=mS z len ((cs.drop off).take (len*z))) (by rw[k2];exact this)
        rw[k2]at h6;exact h6
       |false=>
        simp only[Bool.false_or]at hc3;have hz1:=aE hc3;subst hz1;simp only[aJ];rw[Nat.mul_one]at hl qz hlen di⊢;have fm: ∀l:List PV,l.all PV.pur=true->eD l=l:=by
         intro l;induction l with
         |nil=>intro _;rfl
         |cons x l ih=>
          intro hp;simp only[aP,aC]at hp;have:=ih hp.2;simp only[eD,aN]at this⊢;rw[this,yD (Al hp.1)];rfl
        have:=R.sl (J:=λk=>if k=id then some none else J k) (H:=H) 1 ((cs.drop off).take len) ai off c us (cS 1) hz (λe he=>by
         have:=(bJ.1 di) e he;rw[yD (Al this)];exact⟨rfl,by simpa using this⟩) mb rfl (by rw[hl,h3];omega) (by rw[fm _ di];exact qz)
        have h6:=E9 this;rw[hl]at h6;exact h6
     .rw[bH e];exact⟨(F k).1.keep hkp gf,λhb=>((F k).2 hb).keep hkp gf λi hi _=>⟨rfl,hi⟩⟩
  .cases mu
 .simp only[aA]at mu;subst mu;exact kf (Uo S t) rfl
def pU(F:FR J I H S A){ops:Array Oper}{o:Oper}{b:Bool}(h:lE ops S o=some b):wanted ops A o=b:=by
 unfold lE at h;unfold wanted;split at h
 .simp only[aA]at h;subst h;rename_i e;rw[e]
 .rename_i j want e;rw[e];simp only;cases hd:ops[j]?.bind (·.dst)with
  |none=>rw[hd]at h;simp at h
  |some d=>
   rw[hd]at h;simp only[aK]at h;split at h
   .rename_i b' hb;simp only[aA]at h hb;subst h;have:=(F d).1;rw[hb]at this;simp only[aK];generalize A.at d=w at this;cases this;rfl
   .rename_i hb;simp only[aA]at h hb;subst h;have:=(F d).1;rw[hb]at this;simp only[aK];obtain⟨us,hu,hl⟩:=this.tup_inv;rw[hu]
   .cases h
def Pm{pc:fI}{ac:FuncId->Array Value->St->Option (Value×St)}(bm:jD pc ac){p p':PSt}{base i:Nat}(M:Mem J I p H)(F:FR J I H S A)(hf:H.get (base+i)=none)(bh:base+i<H.next)
    {o:Oper} (ho:o.op.operands.all (cI P)=true) {sq take own:Bool} {v:PV} {S':PS} (h:DH P pc sq o take S p=some (v,own,S',p')):
    ∃u H' J' I',tY P ac base i o A H=some (u,H')/\R J' H' v u/\Mem J' I' p' H'/\FR J' I' H' (S'.put o.dst v own) (A.store o.dst u)/\Adv J I p H J' I' p' H'/\
      (∀j,j<H.next->j≠base+i->H.get j=none->H'.get j=none):=by
 obtain⟨u,H',J',I',h1,h2,h3,h4,h5,h6,h7⟩:=aK4 bm M F hf bh ho h;obtain⟨I'',F'',g⟩:=h4.put h2 h5 o.dst;exact⟨u,H',J',I'',h1,h2,h3.g2 g,F'',h6.trans (.g g.out),h7⟩
def Pn{p:PSt}(M:Mem J I p H)(F:FR J I H S A)(d:Option Tmp): ∃I',Mem J I' p H/\FR J I' H (S.put d (.tup []) false) (A.store d undef)/\Adv J I p H J I' p H:=by
 obtain⟨I',F',g⟩:=F.put (v:= .tup []) (u:=undef) (own:=false) (.tup [] #[] rfl (λi x u h=>by simp at h)) (λh=>by cases h) d
 exact⟨I',M.g2 g,F',.g g.out⟩
def fT:List wJ->List Nat
 |[]=>[]
 | .op i _::r=>i::fT r
 | .app a i s::r=>a::i::s::fT r
 | .freeze _::r=>fT r
def aBG{pc:fI}{ac:FuncId->Array Value->St->Option (Value×St)}(bm:jD pc ac){ops:Array Oper}{base:Nat}(dq: ∀o∈ops.toList,o.op.operands.all (cI P)=true):
    ∀(sc:List wJ) (i:Nat) (J:Nu) (I:Ga) (S:PS) (p:PSt) (A:Slots) (H:St) (S':PS) (p':PSt),fT sc=List.range' i (ops.size-i)->i<=ops.size->base+ops.size<=H.next->
      (∀j,i<=j->j<ops.size->H.get (base+j)=none)->Mem J I p H->FR J I H S A->tK P pc ops sc S p=some (S',p')->
      ∃A' H' J' I',eN P ac ops base (ops.toList.drop i) i A H=some (A',H')/\Mem J' I' p' H'/\FR J' I' H' S' A'/\Adv J I p H J' I' p' H'/\(∀j,j<base->H.get j=none->H'.get j=none):=by
 intro sc;induction sc with
 |nil=>
  intro i J I S p A H S' p' du hi hb cj M F h;simp only[fT]at du;have:ops.size-i=0:=by
   cases hh:ops.size-i with
   |zero=>rfl
   |succ n=>rw[hh]at du;simp[List.range']at du
  simp only[tK,aA,aB]at h;obtain⟨rfl,rfl⟩:=h;rw[List.drop_eq_nil_of_le (by simp;omega)]
  exact⟨A,H,J,I,rfl,M,F,.refl J I p H,λj _ hj=>hj⟩
 |cons s sc ih=>
  intro i J I S p A H S' p' du hi hb cj M F h;cases s with
  |freeze t=>
   simp only[tK]at h;split at h
   .rename_i S1 p1 h1;obtain⟨J1,M1,F1,A1⟩:=uH M F h1;obtain⟨A',H',J',I',k1,k2,k3,k4,k5⟩:=ih i J1 I S1 p1 A H S' p' du hi hb cj M1 F1 h;exact⟨A',H',J',I',k1,k2,k3,A1.trans k4,k5⟩
   .cases h
  |app a k s=>
   simp only[fT]at du;have hn3:i+2<ops.size:=by
    have:=congrArg List.length du;simp only[aM,List.length_range']at this;omega
   rw[show ops.size-i=(ops.size-(i+3))+1+1+1 by omega,List.range'_succ,List.range'_succ,List.range'_succ]at du
   simp only[List.cons.injEq]at du;obtain⟨rfl,rfl,rfl,du⟩:=du;simp only[tK]at h;have hopA:ops[a]?=some ops[a]:=Array.getElem?_eq_getElem (by omega)
   have hopI:ops[a+1]?=some ops[a+1]:=Array.getElem?_eq_getElem (by omega)
   have hopS:ops[a+1+1]?=some ops[a+1+1]:=Array.getElem?_eq_getElem (by omega)
   rw[hopA,hopI,hopS]at h;simp only at h;split at h
   .rename_i S1 h1;obtain⟨u1,u2,H1,H2,I2,q1,q2,q3,q4,q5,q6,q7,q8,q9,q10,q11,M2,F2,A2,_,_,q12,q13⟩:=IC (ac:=ac) (base:=base) (iA:=a) (iI:=a+1) (iS:=a+1+1) M F (cj a (aS _) (by omega)) (by omega) (dq _ (by simp)) (dq _ (by simp)) (dq _ (by simp)) h1
    have fp:ops.toList.drop a=ops[a]::ops[a+1]::ops[a+1+1]::ops.toList.drop (a+1+1+1):=by
     rw[List.drop_eq_getElem_cons (by simp;omega),List.drop_eq_getElem_cons (by simp;omega),List.drop_eq_getElem_cons (by simp;omega)];simp
    rw[fp];obtain⟨A',H',J',I',j1,j2,j3,j4,j5⟩:=ih (a+1+1+1) J I2 _ p _ H2 S' p' (by simpa using du) (by omega) (Nat.le_trans hb A2.keep.next) (λj hj lz=>(q13 _ (by omega) (cj j (by omega) lz)).2) M2 F2 h
    refine⟨A',H',J',I',?_,j2,j3,A2.trans j4,λj hj hn=>j5 j hj (q13 j (by omega) hn).2⟩
    have hw: ∀{o:Oper} {A0:Slots},o.guard=none->wanted ops A0 o=true:=λhg=>by simp only[wanted,hg]
    simp only[eN,hw q7,hw q8,hw q9,aI,tY,q4,q5,q6,q1,oO,q2,aK];simp only[q3];rw[q10];exact j1
   .cases h
  |op k take=>
   simp only[fT]at du;have bh:i<ops.size:=by
    rcases Nat.lt_or_ge i ops.size with h'|h'
    .exact h'
    .rw[show ops.size-i=0 by omega]at du;simp at du
   rw[show ops.size-i=(ops.size-(i+1))+1 by omega,List.range'_succ]at du
   simp only[List.cons.injEq]at du;obtain⟨rfl,du⟩:=du;simp only[tK]at h;have lx:ops[k]?=some ops[k]:=Array.getElem?_eq_getElem bh;rw[lx]at h;simp only at h;have fp:ops.toList.drop k=ops[k]::ops.toList.drop (k+1):=by
    rw[List.drop_eq_getElem_cons (by simpa using bh)];simp
   rw[fp];simp only[eN];split at h
   .rename_i hw;rw[pU F hw,aI];split at h
    .rename_i v own S1 p1 h1;obtain⟨u,H1,J1,I1,k1,k2,k3,k4,k5,k6⟩:=Pm bm M F (cj k (aS _) bh) (by omega) (dq _ (by simp)) h1
     simp only[k1];obtain⟨A',H',J',I',j1,j2,j3,j4,j5⟩:=ih (k+1) J1 I1 _ p1 _ H1 S' p' du bh (Nat.le_trans hb k5.keep.next) (λj hj lz=>k6 _ (by omega) (by omega) (cj j (by omega) lz)) k3 k4 h
     exact⟨A',H',J',I',j1,j2,j3,k5.trans j4,λj hj hn=>j5 j hj (k6 j (by omega) (by omega) hn)⟩
    .cases h
   .rename_i hw;rw[pU F hw,aJ];obtain⟨I1,M1,F1,A1⟩:=Pn M F ops[k].dst;obtain⟨A',H',J',I',j1,j2,j3,j4,j5⟩:=ih (k+1) J I1 _ p _ H S' p' du bh hb (λj hj lz=>cj j (by omega) lz) M1 F1 h
    exact⟨A',H',J',I',j1,j2,j3,A1.trans j4,j5⟩
   .cases h
end
end Go.PI
namespace Go.AI
def eI{H:St}{id:Nat}{cs:List Value}{m:mX}(h:H.row id=some (cs,m)):H.get id=some (.cells cs m)/\H.good m=true:=by
 unfold St.row at h;split at h
 .rename_i cx m' e;cases hg:H.good m' with
  |true=>rw[hg,aI]at h;simp only[aA,aB]at h;obtain⟨rfl,rfl⟩:=h;exact⟨e,hg⟩
  |false=>rw[hg,aJ]at h;cases h
 .cases h
def row_of_get{H:St}{id:Nat}{cs:List Value}{m:mX}(h:H.get id=some (.cells cs m))(hg:H.good m=true):H.row id=some (cs,m):=by
 simp only[St.row,h,hg,aI]
end Go.AI
