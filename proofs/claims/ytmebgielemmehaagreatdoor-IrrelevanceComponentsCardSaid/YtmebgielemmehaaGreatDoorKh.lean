import Derived.Test.YtmebgielemmehaaGreatDoorKg
set_option linter.unusedVariables false
set_option linter.unusedSimpArgs false
set_option linter.constructorNameAsVariable false
set_option linter.defProp false
namespace Go.AI
section
variable{w0:W0}{P:Program}{call:FuncId->Array Value->St->Option (Value×St)}
def Sn(bm:CallOK w0 P call)(dt:P.toTables.follows .mixedOrders=true){α id:Nat}{ops:Array Oper}{draw:Bool}{S S':Slots}{H H':St}{a:Act}{w:World}{Y:Mp}{Q:Exit->Act->World->Prop}
    (h:iC P call ops draw S H=some (S',H')) (bw:dX P α (.region id ops draw)=true) (A:AR Y S α a) (ρ:Sim w0 P Y H w) (dj:qS w0 P Y H.next α S' H' (Q .normal)):
    (Code.region id ops draw).wp P Q a w:=by
 simp only[dX,aC,bJ,Bool.or_eq_true,Bool.not_eq_true']at bw;obtain⟨dq,hdr⟩:=bw;unfold iC at h;have ch: ∀j,Y (H.next+j)=none:=λj=>ρ.dom _ (by omega)
 cases draw with
 |false=>
  simp only[aJ]at h;refine wp_region ?_;rw[List.range_eq_range'];have:=Sl (Q:=Q) (w0:=w0) bm (ops:=ops) (base:=H.next) (α:=α) (n0:=H.next) (aS _) dq ops.toList 0 S S' {H with next:=H.next+ops.size} H' a w Y Y (by simp) (by simp) A (ρ.next (Nat.le_add_right _ _))
   (Ext.refl _ _) (aS _) (λj _ _=>ch j) h dj
  simpa using this
 |true=>
  simp only[aI]at h;have hD:=hdr.resolve_left (by simp)
  have ρ':Sim w0 P Y {H with next:=H.next+ops.size} {w with drawn:=w.drawn+1}:=(ρ.next (Nat.le_add_right _ _)).drawn _
  have ro: ∀i,(Array.replicate ops.size false).getD i false=false:=λi=>by
   rw[Array.getD_eq_getD_getElem?];by_cases hi:i<ops.size
   .simp[hi]
   .simp[hi]
  have hunl:aJv (Array.replicate ops.size false)<=ops.size:=by
   unfold aJv;simp only[Array.toList_replicate];exact Nat.le_trans (List.length_filter_le _ _) (by simp)
  unfold Ao at hD;cases ht:R6 ops with
  |none=>
   rw[ht]at hD;simp only at hD;have h':fD P call ops (fL ops.toList []) H.next (canon ops (fL ops.toList [])) [] S {H with next:=H.next+ops.size}=some (S',H'):=by
    cases hr:fD P call ops (fL ops.toList []) H.next (canon ops (fL ops.toList [])) [] S {H with next:=H.next+ops.size}with
    |none=>rw[hr]at h;cases h
    |some r=>
     rw[hr]at h;simp only[WH,aCd,ht,aI]at h;exact h
   obtain⟨rs,Cs,Es,la,C⟩:=Kp _ _ _ _ h';obtain⟨s,hs0,hsn,htr⟩:=C.first (w0:=w0)
   refine wp_region_any dt (aCW bm (aMX hD) dq (aS _) C la dj ops.size (Array.replicate ops.size false) a _ Y 0 s hunl ?_);refine⟨by simp,λi o e _ hl=>?_,λq e _=>?_,hs0,htr Y _ (λr _=>ch r.i) ρ',?_,λi _ _=>ch i,Ext.refl _ _,A.size,A.defers,λr _ hl=>?_,λx _=>A.slot x⟩
   .rw[ro]at hl;cases hl
   .rw[ro];simp
   .rw[hsn];exact aS _
   .rw[ro]at hl;cases hl
  |some ab=>rw[ht]at hD;simp at hD
def Fl.out:Fl->Exit
 | .normal=> .normal
 | .exit n=> .exit n
 | .ret=> .ret
def Post(w0:W0)(P:Program)(Y:Mp)(n α:Nat)(S':Slots)(H':St)(K:Act->World->Prop):Prop:=
 ∀a' w' Y',AR Y' S' α a'->Sim w0 P Y' H' w'->Ext n Y Y'->n<=H'.next->K a' w'
def Post.later{Y Y':Mp}{n n' α:Nat}{S':Slots}{H':St}{K:Act->World->Prop}(h:Post w0 P Y n α S' H' K)(hE:Ext n Y Y')(hn:n<=n'):Post w0 P Y' n' α S' H' K:=
 λa' w' Y'' A ρ E hl=>h a' w' Y'' A ρ (hE.trans E hn) (by omega)
def At(bm:CallOK w0 P call)(dt:P.toTables.follows .mixedOrders=true)(L α:Nat): ∀(c:Code) (S:Slots) (H:St) (fl:Fl) (S':Slots) (H':St) (a:Act) (w:World) (Y:Mp) (Q:Exit->Act->World->Prop),
    cR P call L c S H=some (fl,S',H')->dX P α c=true->AR Y S α a->Sim w0 P Y H w->Post w0 P Y H.next α S' H' (Q fl.out)->c.wp P Q a w:=by
 intro c;induction c with
 |skip=>
  intro S H fl S' H' a w Y Q h _ A ρ hp;simp only[cR,aA,aB]at h;obtain⟨rfl,rfl,rfl⟩:=h;exact wp_skip (hp a w Y A ρ (Ext.refl _ _) (aS _))
 |label l=>
  intro S H fl S' H' a w Y Q h _ A ρ hp;simp only[cR,aA,aB]at h;obtain⟨rfl,rfl,rfl⟩:=h;exact wp_label (hp a w Y A ρ (Ext.refl _ _) (aS _))
 |region id ops draw=>
  intro S H fl S' H' a w Y Q h bw A ρ hp;simp only[cR,aF]at h;obtain⟨⟨S1,H1⟩,h,e⟩:=h;cases e;exact Sn bm dt h bw A ρ hp
 |seq x y mh ny=>
  intro S H fl S' H' a w Y Q h bw A ρ hp;simp only[dX,aC]at bw;simp only[cR]at h;refine wp_seq ?_;cases hx:cR P call L x S H with
  |none=>simp[hx]at h
  |some r=>
   obtain⟨f1,S1,H1⟩:=r;simp only[hx]at h;cases f1 with
   |normal=>
    simp only at h;exact mh S H .normal S1 H1 a w Y _ hx bw.1 A ρ (λa' w' Y' A' ρ' E hn=>ny S1 H1 fl S' H' a' w' Y' Q h bw.2 A' ρ' (hp.later E hn))
   |exit n=>
    simp only[aA,aB]at h;obtain⟨rfl,rfl,rfl⟩:=h;exact mh S H (.exit n) S1 H1 a w Y _ hx bw.1 A ρ hp
   |ret=>
    simp only[aA,aB]at h;obtain⟨rfl,rfl,rfl⟩:=h;exact mh S H .ret S1 H1 a w Y _ hx bw.1 A ρ hp
 |cond c x y mh ny=>
  intro S H fl S' H' a w Y Q h bw A ρ hp;simp only[dX,aC]at bw;simp only[cR]at h;have hv:=aGt A ρ bw.1.1;split at h<;>try cases h
  .rename_i hc;rw[hc]at hv;exact wp_cond_true hv.bool_inv (mh S H fl S' H' a w Y Q h bw.1.2 A ρ hp)
  .rename_i hc;rw[hc]at hv;exact wp_cond_false hv.bool_inv (ny S H fl S' H' a w Y Q h bw.2 A ρ hp)
 |block id c ih=>
  intro S H fl S' H' a w Y Q h bw A ρ hp;simp only[dX]at bw;simp only[cR]at h;refine wp_block ?_;cases hx:cR P call L c S H with
  |none=>simp[hx]at h
  |some r=>
   obtain⟨f1,S1,H1⟩:=r;simp only[hx]at h;cases f1 with
   |normal=>
    simp only[aA,aB]at h;obtain⟨rfl,rfl,rfl⟩:=h;exact ih S H .normal S1 H1 a w Y _ hx bw A ρ hp
   |ret=>
    simp only[aA,aB]at h;obtain⟨rfl,rfl,rfl⟩:=h;exact ih S H .ret S1 H1 a w Y _ hx bw A ρ hp
   |exit n=>
    simp only[cQ,Bool.cond_decide]at h;split at h
    .rename_i hn;simp only[aA,aB]at h;obtain⟨rfl,rfl,rfl⟩:=h;exact ih S H (.exit n) S1 H1 a w Y _ hx bw A ρ (λa' w' Y' A' ρ' E hl=>by
      show Exit.inBlock id Q (.exit n) a' w';simp only[Exit.inBlock,bI hn];exact hp a' w' Y' A' ρ' E hl)
    .rename_i hn;simp only[aA,aB]at h;obtain⟨rfl,rfl,rfl⟩:=h;exact ih S H (.exit n) S1 H1 a w Y _ hx bw A ρ (λa' w' Y' A' ρ' E hl=>by
      show Exit.inBlock id Q (.exit n) a' w';simp only[Exit.inBlock,bH hn];exact hp a' w' Y' A' ρ' E hl)
 |loop c ih=>
  intro S H fl S' H' a w Y Q h bw A ρ hp;simp only[dX]at bw;simp only[cR]at h;refine wp_loop_rounds L ?_;have main: ∀(n:Nat) (S:Slots) (H:St) (a:Act) (w:World) (Y:Mp),sA (λS H=>cR P call L c S H) n S H=some (fl,S',H')->AR Y S α a->Sim w0 P Y H w->Post w0 P Y H.next α S' H' (Q fl.out)->Code.rounds P c Q n a w:=by
   intro n;induction n with
   |zero=>intro S H a w Y h;simp[sA]at h
   |succ n ihn=>
    intro S H a w Y h A ρ hp;rw[rounds_succ];simp only[sA]at h;cases hx:cR P call L c S H with
    |none=>simp[hx]at h
    |some r=>
     obtain⟨f1,S1,H1⟩:=r;simp only[hx]at h;cases f1 with
     |normal=>
      simp only at h;exact ih S H .normal S1 H1 a w Y _ hx bw A ρ (λa' w' Y' A' ρ' E hl=>ihn S1 H1 a' w' Y' h A' ρ' (hp.later E hl))
     |exit n=>
      simp only[aA,aB]at h;obtain⟨rfl,rfl,rfl⟩:=h;exact ih S H (.exit n) S1 H1 a w Y _ hx bw A ρ hp
     |ret=>
      simp only[aA,aB]at h;obtain⟨rfl,rfl,rfl⟩:=h;exact ih S H .ret S1 H1 a w Y _ hx bw A ρ hp
  exact main L S H a w Y h A ρ hp
 |exit n=>
  intro S H fl S' H' a w Y Q h _ A ρ hp;simp only[cR,aA,aB]at h;obtain⟨rfl,rfl,rfl⟩:=h;exact wp_exit (hp a w Y A ρ (Ext.refl _ _) (aS _))
 |ret=>
  intro S H fl S' H' a w Y Q h _ A ρ hp;simp only[cR,aA,aB]at h;obtain⟨rfl,rfl,rfl⟩:=h;exact wp_ret (hp a w Y A ρ (Ext.refl _ _) (aS _))
 |scope c ih=>
  intro S H fl S' H' a w Y Q h bw A ρ hp;simp only[dX]at bw;simp only[cR]at h;refine wp_scope_straight (ih S H fl S' H' a w Y _ h bw A ρ ?_);cases fl<;>exact hp
 |goto l=>intro S H fl S' H' a w Y Q h;simp[cR]at h
 |refuse s=>intro S H fl S' H' a w Y Q h;simp[cR]at h
 |rangeFunc x ts c d _ _=>intro S H fl S' H' a w Y Q h;simp[cR]at h
def BL: ∀(l:List Value) (i:Nat) (S:Slots) (k:Nat),(fU l i S).at k=if i<=k/\k<i+l.length then(l[k-i]?).getD undef else S.at k:=by
 intro l;induction l with
 |nil=>intro i S k;rw[fU,bH (by simp)]
 |cons v l ih=>
  intro i S k;rw[fU,ih];simp only[aM];by_cases h1:i+1<=k/\k<i+1+l.length
  .rw[bI h1,bI (by omega),show k-i=(k-(i+1))+1 by omega];simp
  .rw[bH h1];by_cases h2:k=i
   .subst h2;rw[bI (by omega)]
    simp[Slots.at,Tr.get_set]
   .rw[bH (by omega)]
    simp[Slots.at,Tr.get_set,h2]
def Sm{S:Slots}{α:Nat}{a:Act}{H:St}{w:World}{Y:Mp}(A:AR Y S α a)(ρ:Sim w0 P Y H w){r:ResultVar}{v:Value}(h:oH P S H r=some v):
    ∃v',(match r with| .tmp t=>(pure (a.tmps.getD t undef):Sem Value)| .cell x t=>do loadVar t (<-asAddr (a.tmps.getD x undef))).run P w= .ok v' w/\VR Y v v':=by
 cases r with
 |tmp t=>simp only[oH,aA]at h;subst h;exact⟨_,rfl,A.slot t⟩
 |cell x t=>
  simp only[oH]at h;have hx:=A.slot x;obtain⟨v',h1,h2⟩:=KI ρ hx h;refine⟨v',?_,h2⟩;unfold hY at h;split at h<;>try cases h
  rename_i id off hS;rw[hS]at hx;obtain⟨p,hp,hu⟩:=hx.ptr_inv;rw[hu]at h1;simp only;rw[hu];simpa [Instr.loadAt,Instr.sureAddr,asAddr]using h1
def Ln{S:Slots}{α:Nat}{a:Act}{H:St}{w:World}{Y:Mp}(A:AR Y S α a)(ρ:Sim w0 P Y H w): ∀(l:List ResultVar) (vs:List Value),cO P S H l=some vs->
    ∃us,(l.mapM (λ(r:ResultVar)=>(match r with| .tmp t=>(pure (a.tmps.getD t undef):Sem Value)| .cell x t=>do loadVar t (<-asAddr (a.tmps.getD x undef))))).run P w= .ok us w/\VRL Y vs us:=by
 intro l;induction l with
 |nil=>intro vs h;simp only[cO,aA]at h;subst h;exact⟨[],rfl,.nil⟩
 |cons r l ih=>
  intro vs h;simp only[cO]at h;split at h<;>try cases h
  rename_i v nn hv jv;obtain⟨u,h1,h2⟩:=Sm A ρ hv;obtain⟨us,h3,h4⟩:=ih nn jv;refine⟨u::us,?_,.cons h2 h4⟩;rw[List.mapM_cons];simp only[Sem.run_bind,h1,Result.andThen_ok,h3,Sem.run_pure]
def Eo{fn:Func}{S:Slots}{α:Nat}{a:Act}{H:St}{w:World}{Y:Mp}(A:AR Y S α a)(ρ:Sim w0 P Y H w){vs:List Value}(h:cO P S H fn.results.toList=some vs):
    ∃v',(results fn a.tmps).run P w= .ok v' w/\VR Y (kN vs) v':=by
 obtain⟨us,h1,h2⟩:=Ln A ρ _ _ h;unfold results;rw[Array.mapM_eq_mapM_toList];simp only[Sem.run_bind,Sem.run_map];have h1':(List.mapM (λ(r:ResultVar)=>(match r with| .tmp t=>(pure (a.tmps.getD t undef):Sem Value)| .cell x t=>do let __do_lift<-asAddr (a.tmps.getD x undef);loadVar t __do_lift)) fn.results.toList).run P w= .ok us w:=h1
 erw[h1'];simp only[Result.andThen_ok,Sem.run_pure];refine⟨_,rfl,?_⟩
 match vs,us,h2 with
 |[],us,h2=>rw[h2.nil_inv];exact .mkTuple .nil
 |[v],us,h2=>
  obtain⟨u,gm,rfl,h3,h4⟩:=h2.cons_inv;rw[h4.nil_inv];exact h3
 |v1::v2::vs,us,h2=>
  have hl:=h2.1;rw[dif_neg (by simp only[List.size_toArray,<-hl,aM];omega)]
  exact .mkTuple h2
end
end Go.AI
namespace Go.AI
section
variable{w0:W0}{P:Program}{call:FuncId->Array Value->St->Option (Value×St)}
def Kept.trans{a b c:World}(h:Kept a b)(k:Kept b c):Kept a c:=by
 refine⟨k.os.trans h.os,k.output.trans h.output,Nat.le_trans h.size k.size,λi hi=>?_⟩
 have:=h.size;rw[k.old i (by omega),h.old i hi]
def mE{w:World}{b:Nat}{o:Obj}(h:w.heap[b]?=some o):b<w.heap.size:=by
 by_cases hb:b<w.heap.size
 .exact hb
 .rw[Array.getElem?_eq_none (by omega)]at h;cases h
def Sim.keep{Y:Mp}{H:St}{w w':World}(S:Sim w0 P Y H w)(K:Kept w w'):Sim w0 P Y H w':=by
 refine⟨⟨S.kept.toKept.trans K,λk o hk=>⟨by have h1:=(S.kept.oth k o hk).1;rw[K.old k (mE h1)];exact h1,(S.kept.oth k o hk).2⟩,λid p h=>Nat.lt_of_lt_of_le (S.kept.bnd id p h) K.size⟩,S.dom,S.glob,λid p cs m h1 h2 h3=>?_,λid p es h1 h2=>?_,S.off,S.tip,S.maps,S.vers,S.lim⟩
 .obtain⟨⟨C,t,fr,r1,r2,r3⟩,r4,r5,r6,r7⟩:=S.row id p cs m h1 h2 h3;exact⟨⟨C,t,fr,by rw[K.old _ (mE r1)];exact r1,r2,r3⟩,r4,r5,r6,λhw C1 t1 fr1 e1=>r7 hw C1 t1 fr1 (by rw[<-K.old _ (mE r1)];exact e1)⟩
 .obtain⟨⟨ES,clock,r1,r2⟩,r3⟩:=S.map id p es h1 h2;exact⟨⟨ES,clock,by rw[K.old _ (mE r1)];exact r1,r2⟩,r3⟩
structure CJ where
 n:Nat
 s:Int->Int->Option (List UInt8)
 m:Nat
 w:Option (Nat×Nat)
inductive OV where
 |s (l:List UInt8)
 |t
def OV.v:OV->Value
 | .s l=> .string ⟨l.toArray⟩
 | .t=> .bool true
def aOE(O:CJ)(f:FuncId)(args:Array Value):Option Value:=
 bif Nat.beq f O.n then(match args.toList with
 |[.int .i64 a,.int .i64 b]=>((O.s a b).map OV.s).map OV.v
 |_=>none)else bif Nat.beq f O.m then(match args.toList with
 |[]=>some (.bool true)
 |_=>none)else none
def aF2:mX:={cS 1 with wr:=false}
def aXE(O:CJ)(f:FuncId)(args:Array Value)(H:St):Option (Value×St):=match O.w with
 |none=>none
 |some (g,k)=>bif Nat.beq f g then(match args.toList with
  |[.int .u32 n]=>bif decide (n=0)then some (.slice (some ⟨H.next,0,none⟩) k (k+1),({H with next:=H.next+1}:St).put H.next (.cells [] aF2))else none
  |_=>none)else none
def Sim.opq{Y:Mp}{H:St}{w:World}(S:Sim w0 P Y H w){p:Place}{C:Array Value}{t:TypeId}{fr:Nat×Nat}(hb:w.heap[p.b]?=some (.cells C t fr))(ho: ∀k o,w0.O k=some o->p.b≠k)(hz:p.z=1):
    Sim w0 P (upd Y H.next p) (({H with next:=H.next+1}:St).put H.next (.cells [] aF2)) w:=by
 have hid:Y H.next=none:=S.dom _ (aS _)
 have bg: ∀{k q},upd Y H.next p k=some q->(k=H.next/\q=p)∨(k≠H.next/\Y k=some q):=by
  intro k q hk;by_cases e:k=H.next
  .subst e;rw[kC]at hk;cases hk;exact .inl ⟨rfl,rfl⟩
  .rw[iM e]at hk;exact .inr ⟨e,hk⟩
 have gc:(({H with next:=H.next+1}:St).put H.next (.cells [] aF2)).get H.next=some (.cells [] aF2):=by rw[St.get_put,bI rfl]
 have hold: ∀{k},k≠H.next->(({H with next:=H.next+1}:St).put H.next (.cells [] aF2)).get k=H.get k:=by
  intro k hk;rw[St.get_put,bH hk];rfl
 have bf: ∀m,(({H with next:=H.next+1}:St).put H.next (.cells [] aF2)).good m=H.good m:=λ_=>rfl
 have bz:=lD p hid;have qd: ∀{cs m},(({H with next:=H.next+1}:St).put H.next (.cells [] aF2)).get H.next=some (.cells cs m)->cs=[]/\m=aF2:=by
  intro cs m h;rw[gc]at h;cases h;exact⟨rfl,rfl⟩
 refine⟨S.kept.upd ho (mE hb),λid hi=>?_,λg hg=>?_,?_,?_,?_,?_,?_,?_,?_⟩
 .have:H.next+1<=id:=hi
  rw[iM (by omega)];exact S.dom id (by omega)
 .obtain⟨q,h1,h2⟩:=S.glob g hg;exact⟨q,bz _ _ h1,h2⟩
 .intro k q cs m hq hg hm;rcases bg hq with⟨rfl,rfl⟩|⟨hk,fk⟩
  .obtain⟨rfl,rfl⟩:=qd hg;exact⟨⟨C,t,fr,hb,(λi v h=>by simp at h),(λh=>by cases h)⟩,(λh=>by cases h),(λh=>by cases h),hz,λh=>by cases h⟩
  .rw[hold hk]at hg;rw[bf]at hm;obtain⟨⟨C',t',qu,r1,r2,r3⟩,r4,r5,r6,r7⟩:=S.row k q cs m fk hg hm;exact⟨⟨C',t',qu,r1,λi v h=>by obtain⟨u,h1,h2⟩:=r2 i v h;exact⟨u,h1,h2.mono' bz⟩,r3⟩,r4,r5,r6,r7⟩
 .intro k q es hq hg;rcases bg hq with⟨rfl,rfl⟩|⟨hk,fk⟩
  .rw[gc]at hg;cases hg
  .rw[hold hk]at hg;obtain⟨⟨ES,cl,r1,r2,r3⟩,r4⟩:=S.map k q es fk hg;exact⟨⟨ES,cl,r1,r2.mono' bz,r3.mono' bz⟩,r4⟩
 .intro i j q r cs ds m n bj hq hr hg bp hm hn hw hs;rcases bg hq with⟨rfl,rfl⟩|⟨hi,fk⟩
  .obtain⟨rfl,rfl⟩:=qd hg;cases hw
  .rcases bg hr with⟨rfl,rfl⟩|⟨hj,ca⟩
   .obtain⟨rfl,rfl⟩:=qd bp;exact λ_ x _ _ h3 h4=>by simp at h4;omega
   .rw[hold hi]at hg;rw[hold hj]at bp;exact S.off i j q r cs ds m n bj fk ca hg bp hm hn hw hs
 .intro i j q r cs ds m n bj hq hr hg bp hm hn hw;rcases bg hq with⟨rfl,rfl⟩|⟨hi,fk⟩
  .obtain⟨rfl,rfl⟩:=qd hg;cases hw
  .rcases bg hr with⟨rfl,rfl⟩|⟨hj,ca⟩
   .obtain⟨rfl,rfl⟩:=qd bp;exact⟨λ_ x _ _ h3 h4=>by simp at h4;omega,λh=>by cases h⟩
   .rw[hold hi]at hg;rw[hold hj]at bp;exact S.tip i j q r cs ds m n bj fk ca hg bp hm hn hw
 .intro i j q r es fs bj hq hr hg bp;rcases bg hq with⟨rfl,rfl⟩|⟨hi,fk⟩
  .rw[gc]at hg;cases hg
  .rcases bg hr with⟨rfl,rfl⟩|⟨hj,ca⟩
   .rw[gc]at bp;cases bp
   .rw[hold hi]at hg;rw[hold hj]at bp;exact S.maps i j q r es fs bj fk ca hg bp
 .intro k cs m g v hg jg;by_cases hk:k=H.next
  .subst hk;obtain⟨rfl,rfl⟩:=qd hg;cases jg
  .rw[hold hk]at hg;exact S.vers k cs m g v hg jg
 .intro i j q r cs ds m n bj hq hr hg bp hm hn hw;rcases bg hq with⟨rfl,rfl⟩|⟨hi,fk⟩
  .obtain⟨rfl,rfl⟩:=qd hg;cases hw
  .rcases bg hr with⟨rfl,rfl⟩|⟨hj,ca⟩
   .obtain⟨rfl,rfl⟩:=qd bp;exact λ_ x _ _ h3 h4=>by simp at h4;omega
   .rw[hold hi]at hg;rw[hold hj]at bp;exact S.lim i j q r cs ds m n bj fk ca hg bp hm hn hw
def Gd(P:Program)(f:FuncId)(n:Nat):Bool:=match P.funcs[f]? with
 |some fn=>Nat.beq (fn.params.size+fn.nfree) n
 |none=>false
def pM(P:Program)(fn:Func):Option (Fl×Slots×St)->Option (Value×St)
 |some (.exit _,_,_)=>none
 |some (_,S,H')=>(cO P S H' fn.results.toList).map λvs=>(kN vs,H')
 |none=>none
def wG(P C:Program)(O:CJ)(L:Nat):Nat->FuncId->Array Value->St->Option (Value×St)
 |0,_,_,_=>none
 |n+1,f,args,H=>match aOE O f args with
  |some v=>some (v,H)
  |none=>match aXE O f args H with
   |some x=>some x
   |none=>bif Gd P f args.size then(match C.funcs[f]? with
    |some fn=>match fn.body with
     |some c=>pM P fn (cR P (wG P C O L n) L c (fU args.toList 0 .nil) H)
     |none=>none
    |none=>none)else none
def aW6(w0:W0)(P:Program)(f:FuncId)(fn:Func)(c:Code):Prop:=
 (∃fn c,P.funcs[f]?=some fn/\fn.body=some c/\(fn.name== "runtime.NumGoroutine")=false)/\
 ∀(call:FuncId->Array Value->St->Option (Value×St)) (L:Nat),(∀w1:W0,w1.toWorld=w0.toWorld->CallOK w1 P call)->∀(args args':Array Value) (H H':St) (w:World) (Y:Mp) (r:Value),
  pM P fn (cR P call L c (fU args.toList 0 .nil) H)=some (r,H')->Sim w0 P Y H w->VRL Y args.toList args'.toList->Gd P f args.size=true->
  Calls P f args' w λe w'=> ∃Y' r',e= .returned r'/\VR Y' r r'/\Sim w0 P Y' H' w'/\Ext H.next Y Y'/\H.next<=H'.next
def NX(w0:W0)(P C:Program):Prop:= ∀f fn c,C.funcs[f]?=some fn->fn.body=some c->(P.funcs[f]?=some fn/\pZ P fn=true)∨aW6 w0 P f fn c
def Re(P:Program)(w0:World)(O:CJ):Prop:=(∀a b s,O.s a b=some s->∀w,Kept w0 w->
 (∃fn c,P.funcs[O.n]?=some fn/\fn.body=some c/\(fn.name== "runtime.NumGoroutine")=false)/\Calls P O.n #[.int .i64 a,.int .i64 b] w λe w'=>e= .returned (.string ⟨s.toArray⟩)/\Kept w w')/\
 (O.m=O.n∨∀w,Kept w0 w->(∃fn c,P.funcs[O.m]?=some fn/\fn.body=some c/\(fn.name== "runtime.NumGoroutine")=false)/\Calls P O.m #[] w λe w'=>e= .returned (.bool true)/\Kept w w')/\
 ∀g k,O.w=some (g,k)->∀w,Kept w0 w->(∃fn c,P.funcs[g]?=some fn/\fn.body=some c/\(fn.name== "runtime.NumGoroutine")=false)/\Calls P g #[.int .u32 0] w λe w'=>
  (∃b off cap C t fr,e= .returned (.slice (some ⟨b,off,none⟩) k cap)/\k<=cap/\w'.heap[b]?=some (.cells C t fr)/\(b<P.globals.size∨w.heap.size<=b))/\Kept w w'
def DB(dt:P.toTables.follows .mixedOrders=true){L:Nat}{f:FuncId}{fn:Func}{c:Code}(hf:P.funcs[f]?=some fn)(hb:fn.body=some c)(gh:pZ P fn=true)(ih1:CallOK w0 P call)
    {args args':Array Value} {H H':St} {w:World} {Y:Mp} {r:Value} (h:pM P fn (cR P call L c (fU args.toList 0 .nil) H)=some (r,H')) (ρ:Sim w0 P Y H w) (hargs:VRL Y args.toList args'.toList):
    (∃fn c,P.funcs[f]?=some fn/\fn.body=some c/\(fn.name== "runtime.NumGoroutine")=false)/\
    Calls P f args' w λe w'=> ∃Y' r',e= .returned r'/\VR Y' r r'/\Sim w0 P Y' H' w'/\Ext H.next Y Y'/\H.next<=H'.next:=by
 simp only[pZ,hb,aC,Bool.not_eq_true']at gh;refine⟨⟨fn,c,hf,hb,gh.2⟩,?_⟩;cases hx:cR P call L c (fU args.toList 0 .nil) H with
 |none=>simp[hx,pM]at h
 |some x=>
  obtain⟨fl,S',H1⟩:=x;have A0:AR Y (fU args.toList 0 .nil) fn.ntmps {tmps:=args'++Array.replicate (fn.ntmps-args'.size) undef,defers:=[]}:=by
   have cq:=hargs.size;refine⟨by simp;omega,rfl,λi=>?_⟩
   rw[BL];simp only[Nat.zero_le,true_and,Nat.zero_add,Nat.sub_zero,Array.length_toList];rw[Array.getD_eq_getD_getElem?];by_cases hi:i<args.size
   .rw[bI hi,Array.getElem?_append_left (by omega)]
    have h1:args.toList[i]?=some args[i]:=by simp[hi]
    obtain⟨u,hu,hr⟩:=hargs.get h1;have jx:args'[i]?=some u:=by simpa using hu
    rw[h1,jx];exact hr
   .rw[bH hi,Array.getElem?_append_right (by omega)]
    have:((Array.replicate (fn.ntmps-args'.size) undef)[i-args'.size]?).getD undef=undef:=by
     by_cases h2:i-args'.size<fn.ntmps-args'.size
     .simp[h2]
     .simp[h2]
    rw[this];exact .undef
  have iG: ∀(R:Exit),R= .normal∨R= .ret->(cO P S' H1 fn.results.toList).map (λvs=>(kN vs,H1))=some (r,H')->
        Post w0 P Y H.next fn.ntmps S' H1 (bodyPost P fn (λe w'=> ∃Y' r',e= .returned r'/\VR Y' r r'/\Sim w0 P Y' H' w'/\Ext H.next Y Y'/\H.next<=H'.next) R):=by
   intro R hR df a' w' Y' A' ρ' E hl;rw[aF]at df;obtain⟨vs,jv,he⟩:=df;cases he;obtain⟨v',h1,h2⟩:=Eo A' ρ' jv;rcases hR with rfl|rfl
   .exact⟨A'.defers,v',h1,Y',v',rfl,h2,ρ',E,hl⟩
   .exact⟨A'.defers,v',h1,Y',v',rfl,h2,ρ',E,hl⟩
  refine calls_of_wp hf hb ?_;cases fl with
  |exit k=>simp[hx,pM]at h
  |normal=>simp only[hx,pM]at h;exact At ih1 dt L fn.ntmps c _ H .normal S' H1 _ w Y _ hx gh.1 A0 ρ (iG .normal (.inl rfl) h)
  |ret=>simp only[hx,pM]at h;exact At ih1 dt L fn.ntmps c _ H .ret S' H1 _ w Y _ hx gh.1 A0 ρ (iG .ret (.inr rfl) h)
def B9{C:Program}(dt:P.toTables.follows .mixedOrders=true){β:World}(hC: ∀w0:W0,w0.toWorld=β->NX w0 P C){O:CJ}(hO:Re P β O)(L:Nat): ∀n (w0:W0),w0.toWorld=β->CallOK w0 P (wG P C O L n):=by
 intro n;induction n with
 |zero=>intro w0 hw f args args' H H' w Y r h;simp[wG]at h
 |succ n ih=>
  intro w0 hw;have hC1:=hC w0 hw;have ih1:=ih w0 hw;subst hw;intro f args args' H H' w Y r h ρ hargs;simp only[wG]at h;split at h
  .rename_i v hv;simp only[aA,aB]at h;obtain⟨rfl,rfl⟩:=h;unfold aOE at hv;cases hf:Nat.beq f O.n with
   |false=>
    rw[hf,aJ]at hv;cases hm:Nat.beq f O.m with
    |false=>rw[hm]at hv;cases hv
    |true=>
    rw[hm,aI]at hv;have hfm:=aE hm;subst hfm;split at hv
    .rename_i he;cases hv;rw[he]at hargs;have q3:args'= #[]:=by rw[<-Array.toArray_toList (xs:=args'),hargs.nil_inv]
     subst q3;rcases hO.2.1 with h7|h7
     .rw[h7,Nat.beq_refl]at hf;cases hf
     .obtain⟨g1,g2⟩:=h7 w ρ.kept.toKept;exact⟨g1,g2.mono λe w' ⟨h5,h6⟩=>⟨Y,_,h5,.same _ rfl,ρ.keep h6,.refl _ _,aS _⟩⟩
    .cases hv
   |true=>
   rw[hf,aI]at hv;rw[aE hf];split at hv
   .rename_i a b he;rw[aF]at hv;obtain⟨x,hx,rfl⟩:=hv;rw[aF]at hx;obtain⟨s,hs,rfl⟩:=hx;rw[he]at hargs;obtain⟨u,us,e1,r1,h3⟩:=hargs.cons_inv;obtain⟨u2,us2,rfl,r2,h4⟩:=h3.cons_inv;rw[h4.nil_inv]at e1;have q1:u= .int .i64 a:=by cases r1;rfl
    have q2:u2= .int .i64 b:=by cases r2;rfl
    subst q1;subst q2;have q3:args'= #[.int .i64 a,.int .i64 b]:=by rw[<-Array.toArray_toList (xs:=args'),e1]
    subst q3;obtain⟨g1,g2⟩:=hO.1 a b s hs w ρ.kept.toKept;exact⟨g1,g2.mono λe w' ⟨h5,h6⟩=>⟨Y,_,h5,.same _ rfl,ρ.keep h6,.refl _ _,aS _⟩⟩
   .cases hv
  split at h
  .rename_i x hx;simp only[aA]at h;subst h;unfold aXE at hx;split at hx
   .cases hx
   .rename_i g k hg;cases sm:Nat.beq f g with
    |false=>rw[sm]at hx;cases hx
    |true=>
     rw[sm,aI]at hx;rw[aE sm];split at hx
     .rename_i n0 he;cases hn0:decide (n0=(0:Int))with
      |false=>rw[hn0]at hx;cases hx
      |true=>
      rw[hn0]at hx;simp only[aI,aA,aB]at hx;obtain⟨rfl,rfl⟩:=hx;rw[bK hn0]at he;rw[he]at hargs;obtain⟨u,us,e1,r1,h3⟩:=hargs.cons_inv;rw[h3.nil_inv]at e1;have q1:u= .int .u32 0:=by cases r1;rfl
      subst q1;have q3:args'= #[.int .u32 0]:=by rw[<-Array.toArray_toList (xs:=args'),e1]
      subst q3;obtain⟨g1,g2⟩:=hO.2.2 g k hg w ρ.kept.toKept;refine⟨g1,g2.mono ?_⟩;rintro e w' ⟨⟨b,off,cap,C,t,fr,rfl,hk,hb,hbg⟩,h6⟩;have ρ':=ρ.keep h6;have hO': ∀j o,w0.O j=some o->(⟨b,off,off+cap,1⟩:Place).b≠j:=λj o hj=>by
       show b≠j;have h7:=ρ.kept.oth j o hj;rcases hbg with h8|h8
       .obtain⟨q,h9,h10,_⟩:=ρ.glob b h8;have:=h7.2 b q h9;omega
       .have:=mE h7.1;omega
      refine⟨_,.slice (some ⟨b,off,none⟩) k cap,rfl,?_,ρ'.opq (p:=⟨b,off,off+cap,1⟩) hb hO' rfl,⟨lD _ (ρ.dom _ (aS _)),λid hi=>iM (by omega)⟩,Nat.le_succ _⟩
      exact .slc H.next 0 k (k+1) cap ⟨b,off,off+cap,1⟩ (kC _ _ _) (λe=>by omega) hk (.inl (by simp))
     .cases hx
  cases nk:Gd P f args.size with
  |false=>rw[nk]at h;cases h
  |true=>
  rw[nk,aI]at h;split at h<;>try cases h
  rename_i fn hf;split at h<;>try cases h
  rename_i c hb;rcases hC1 f fn c hf hb with⟨hf,gh⟩|⟨g1,g2⟩
  rotate_left
  .exact⟨g1,g2 _ L ih _ _ _ _ _ _ _ h ρ hargs nk⟩
  exact DB dt hf hb gh ih1 h ρ hargs
end
end Go.AI
namespace Go.AI
def a0H:CJ:=⟨187,λa b=>bif decide (b=10)then(bif decide (a= -1)then some [45,49]else bif decide (a= -2)then some [45,50]else bif decide (a= -3)then some [45,51]else none)else none,187,none⟩
def a05(f:FuncId)(args:List Value):Option (List UInt8×List UInt8):=
 bif Nat.beq f 81 then(match args with
  |[.int .i64 a]=>bif decide (a=0)then some ([48],[49])else bif decide (a=1)then some ([49],[49])else bif decide (a=2)then some ([50],[49])else bif decide (a=3)then some ([51],[49])
   else bif decide (a= -1)then some ([45,49],[49])else bif decide (a= -2)then some ([45,50],[49])else bif decide (a= -3)then some ([45,51],[49])else none
  |_=>none)
 else bif Nat.beq f 104 then(match args with
  |[.string a,.string b]=>bif decide (a=⟨#[49]⟩)&&decide (b=⟨#[50]⟩)then some ([49],[50])else bif decide (a=⟨#[45,53]⟩)&&decide (b=⟨#[51]⟩)then some ([45,53],[51])else none
  |_=>none)else none
def a0T(p:List UInt8×List UInt8):Value:= .agg #[.int .i64 1,.string ⟨p.1.toArray⟩,.string ⟨p.2.toArray⟩,.string ⟨#[]⟩,.string ⟨#[]⟩,.string ⟨#[]⟩,.slice none 0 0]
def a3z(f:FuncId)(args:Array Value):Option Value:=match aOE a0H f args with
 |some v=>some v
 |none=>(a05 f args.toList).map a0T
def lO(P:Program)(L:Nat):Nat->FuncId->Array Value->St->Option (Value×St)
 |0,_,_,_=>none
 |n+1,f,args,H=>match a3z f args with
  |some v=>some (v,H)
  |none=>match P.funcs[f]? with
   |some fn=>match fn.body with
    |some c=>match cR P (lO P L n) L c (fU args.toList 0 .nil) H with
     |some (.exit _,_,_)=>none
     |some (_,S,H')=>(cO P S H' fn.results.toList).map λvs=>(kN vs,H')
     |none=>none
    |none=>none
   |none=>none
end Go.AI
namespace Go.AI
section
variable{P:Program}
abbrev uC:=FuncId->Array Value->St->Option (Value×St)
def Le(c k:uC):Prop:= ∀f args H r,c f args H=some r->k f args H=some r
def QI{c k:uC}(h:Le c k){H:St}{Z:Operand->Value}{o:Oper}{id:Nat}{r:Value×St}(e:lY P c H Z o id=some r):lY P k H Z o id=some r:=by
 unfold lY at e⊢;split at e<;>try exact e
 split at e<;>try exact e
 rename_i c' _ _ _;cases hc:gJ Z c' with
 |none=>simp[hc]at e
 |some x=>obtain⟨g,args⟩:=x;simp only[hc]at e⊢;exact h _ _ _ _ e
def aNW{c k:uC}(h:Le c k){base i:Nat}{o:Oper}{S:Slots}{H:St}{r:Value×St}(e:tY P c base i o S H=some r):tY P k base i o S H=some r:=by
 unfold tY at e⊢;cases hk:cL o with
 |pure=>simp only[hk]at e⊢;exact e
 |read=>simp only[hk]at e⊢;exact e
 |alloc=>simp only[hk]at e⊢;exact e
 |eff=>simp only[hk]at e⊢;exact QI h e
def DC{c k:uC}(h:Le c k){ops:Array Oper}{base:Nat}: ∀(l:List Oper) (i:Nat) (S:Slots) (H:St) (r:Slots×St),eN P c ops base l i S H=some r->eN P k ops base l i S H=some r:=by
 intro l;induction l with
 |nil=>intro i S H r e;exact e
 |cons o l ih=>
  intro i S H r e;simp only[eN]at e⊢;cases hw:wanted ops S o with
  |false=>simp only[hw,aJ]at e⊢;exact ih _ _ _ _ e
  |true=>
   simp only[hw,aI]at e⊢;cases ha:tY P c base i o S H with
   |none=>simp[ha]at e
   |some x=>obtain⟨v,H'⟩:=x;simp only[ha]at e;simp only[aNW h ha];exact ih _ _ _ _ e
def Lm{c k:uC}(h:Le c k){ops:Array Oper}{ms:List Nat}{base:Nat}: ∀(l:List Nat) (pend:List iB) (S:Slots) (H:St) (r:Slots×St),fD P c ops ms base l pend S H=some r->fD P k ops ms base l pend S H=some r:=by
 intro l;induction l with
 |nil=>intro pend S H r e;exact e
 |cons i l ih=>
  intro pend S H r e;simp only[fD]at e⊢;cases ho:ops[i]? with
  |none=>simp[ho]at e
  |some o=>
   simp only[ho]at e⊢;cases hw:wanted ops S o with
   |false=>simp only[hw,aJ]at e⊢;exact ih _ _ _ _ e
   |true=>
    simp only[hw,aI]at e⊢;cases hk:cL o with
    |pure=>
     simp only[hk]at e⊢;cases ha:iW P (ev S) o with
     |none=>simp[ha]at e
     |some v=>simp only[ha]at e⊢;exact ih _ _ _ _ e
    |read=>
     simp only[hk]at e⊢;cases ha:iV P H (ev S) o with
     |none=>simp[ha]at e
     |some v=>simp only[ha]at e⊢;exact ih _ _ _ _ e
    |alloc=>
     simp only[hk]at e⊢;cases ha:eZ P (ev S) o (base+i)with
     |none=>simp[ha]at e
     |some v=>simp only[ha]at e⊢;exact ih _ _ _ _ e
    |eff=>
     simp only[hk]at e⊢;cases hc:pend.all (check P base H)with
     |false=>simp[hc]at e
     |true=>
      simp only[hc,aI]at e⊢;cases ha:lY P c H (ev S) o (base+i)with
      |none=>simp[ha]at e
      |some v=>simp only[ha]at e;simp only[QI h ha];exact ih _ _ _ _ e
def EN{c k:uC}(h:Le c k){ops:Array Oper}{draw:Bool}{S:Slots}{H:St}{r:Slots×St}(e:iC P c ops draw S H=some r):iC P k ops draw S H=some r:=by
 unfold iC at e⊢;cases draw with
 |false=>exact DC h _ _ _ _ _ e
 |true=>
  simp only[aI]at e⊢;cases hr:fD P c ops (fL ops.toList []) H.next (canon ops (fL ops.toList [])) [] S {H with next:=H.next+ops.size}with
  |none=>rw[hr]at e;cases e
  |some x=>rw[Lm h _ _ _ _ _ hr];rw[hr]at e;exact e
def Qf{b d:Slots->St->Option (Fl×Slots×St)}(h: ∀S H r,b S H=some r->d S H=some r): ∀(n m:Nat) (S:Slots) (H:St) (r:Fl×Slots×St),n<=m->sA b n S H=some r->sA d m S H=some r:=by
 intro n;induction n with
 |zero=>intro m S H r _ e;simp[sA]at e
 |succ n ih=>
  intro m S H r hm e;obtain⟨m,rfl⟩: ∃m',m=m'+1:=⟨m-1,by omega⟩
  simp only[sA]at e⊢;cases hb:b S H with
  |none=>simp[hb]at e
  |some x=>
   obtain⟨fl,S',H'⟩:=x;rw[hb]at e;rw[h _ _ _ hb];cases fl with
   |normal=>exact ih m S' H' r (by omega) e
   |exit k=>exact e
   |ret=>exact e
def qM{c k:uC}(h:Le c k){L M:Nat}(hL:L<=M): ∀(code:Code) (S:Slots) (H:St) (r:Fl×Slots×St),cR P c L code S H=some r->cR P k M code S H=some r:=by
 intro code;induction code with
 |skip=>intro S H r e;exact e
 |label l=>intro S H r e;exact e
 |region id ops draw=>
  intro S H r e;simp only[cR,aF]at e⊢;obtain⟨x,h1,h2⟩:=e;exact⟨x,EN h h1,h2⟩
 |seq a b cy fi=>
  intro S H r e;simp only[cR]at e⊢;cases ha:cR P c L a S H with
  |none=>simp[ha]at e
  |some x=>
   obtain⟨fl,S',H'⟩:=x;rw[ha]at e;rw[cy _ _ _ ha];cases fl with
   |normal=>exact fi _ _ _ e
   |exit k=>exact e
   |ret=>exact e
 |cond x a b cy fi=>
  intro S H r e;simp only[cR]at e⊢;split at e<;>try cases e
  .exact cy _ _ _ e
  .exact fi _ _ _ e
 |block id a cy=>
  intro S H r e;simp only[cR]at e⊢;cases ha:cR P c L a S H with
  |none=>simp[ha]at e
  |some x=>rw[ha]at e;rw[cy _ _ _ ha];exact e
 |loop a cy=>
  intro S H r e;simp only[cR]at e⊢;exact Qf (λS H r=>cy S H r) L M S H r hL e
 |exit n=>intro S H r e;exact e
 |ret=>intro S H r e;exact e
 |scope a cy=>intro S H r e;exact cy S H r e
 |goto l=>intro S H r e;simp[cR]at e
 |refuse s=>intro S H r e;simp[cR]at e
 |rangeFunc x ts a b _ _=>intro S H r e;simp[cR]at e
def Xo{L M:Nat}(hL:L<=M): ∀(n m:Nat),n<=m->Le (lO P L n) (lO P M m):=by
 intro n;induction n with
 |zero=>intro m _ f args H r e;simp[lO]at e
 |succ n ih=>
  intro m hm f args H r e;obtain⟨m,rfl⟩: ∃m',m=m'+1:=⟨m-1,by omega⟩
  simp only[lO]at e⊢;cases ho:a3z f args with
  |some v=>simp only[ho]at e⊢;exact e
  |none=>
  simp only[ho]at e⊢;cases hf:P.funcs[f]? with
  |none=>simp[hf]at e
  |some fn=>
   simp only[hf]at e⊢;cases hb:fn.body with
   |none=>simp[hb]at e
   |some c=>
    simp only[hb]at e⊢;cases hx:cR P (lO P L n) L c (fU args.toList 0 .nil) H with
    |none=>simp[hx]at e
    |some x=>rw[hx]at e;rw[qM (ih m (by omega)) hL _ _ _ _ hx];exact e
def aOx(P:Program)(f:FuncId)(args:Array Value)(H:St)(Q:Value->St->Prop):Prop:= ∃n r H',lO P n n f args H=some (r,H')/\Q r H'
def pP(P:Program)(c:Code)(S:Slots)(H:St)(Q:Fl->Slots->St->Prop):Prop:= ∃n fl S' H',cR P (lO P n n) n c S H=some (fl,S',H')/\Q fl S' H'
def a3o(P:Program)(ops:Array Oper)(draw:Bool)(S:Slots)(H:St)(Q:Slots->St->Prop):Prop:= ∃n S' H',iC P (lO P n n) ops draw S H=some (S',H')/\Q S' H'
def dW(P:Program)(ops:Array Oper)(base:Nat)(l:List Oper)(i:Nat)(S:Slots)(H:St)(Q:Slots->St->Prop):Prop:= ∃n S' H',eN P (lO P n n) ops base l i S H=some (S',H')/\Q S' H'
def TU{c:Code}{S:Slots}{H:St}{Q R:Fl->Slots->St->Prop}(h:pP P c S H Q)(hq: ∀fl S' H',Q fl S' H'->R fl S' H'):pP P c S H R:=by
 obtain⟨n,fl,S',H',h1,h2⟩:=h;exact⟨n,fl,S',H',h1,hq _ _ _ h2⟩
def GZ(P:Program)(c:Code)(Q:Fl->Slots->St->Prop):Fl->Slots->St->Prop
 | .normal,S,H=>pP P c S H Q
 |fl,S,H=>Q fl S H
def gV{a b:Nat}(h:a<=b):Le (lO P a a) (lO P b b):=Xo h a b h
def aBf{a b:Code}{S:Slots}{H:St}{Q:Fl->Slots->St->Prop}(h:pP P a S H (GZ P b Q)):pP P (.seq a b) S H Q:=by
 obtain⟨n,fl,S',H',h1,h2⟩:=h;cases fl with
 |normal=>
  obtain⟨m,fl2,S2,H2,h3,h4⟩:=h2;refine⟨max n m,fl2,S2,H2,?_,h4⟩;simp only[cR,qM (gV (Nat.le_max_left n m)) (Nat.le_max_left n m) _ _ _ _ h1];exact qM (gV (Nat.le_max_right n m)) (Nat.le_max_right n m) _ _ _ _ h3
 |exit k=>exact⟨n,.exit k,S',H',by simp only[cR,h1],h2⟩
 |ret=>exact⟨n,.ret,S',H',by simp only[cR,h1],h2⟩
def TR{S:Slots}{H:St}{Q:Fl->Slots->St->Prop}(h:Q .normal S H):pP P .skip S H Q:=⟨0,_,_,_,rfl,h⟩
def RV{l:Nat}{S:Slots}{H:St}{Q:Fl->Slots->St->Prop}(h:Q .normal S H):pP P (.label l) S H Q:=⟨0,_,_,_,rfl,h⟩
def TX{k:Nat}{S:Slots}{H:St}{Q:Fl->Slots->St->Prop}(h:Q (.exit k) S H):pP P (.exit k) S H Q:=⟨0,_,_,_,rfl,h⟩
def aBg{S:Slots}{H:St}{Q:Fl->Slots->St->Prop}(h:Q .ret S H):pP P .ret S H Q:=⟨0,_,_,_,rfl,h⟩
def GS{x:Operand}{a b:Code}{S:Slots}{H:St}{Q:Fl->Slots->St->Prop}{t:Bool}(ht:ev S x= .bool t)(h:pP P (if t=true then a else b) S H Q):pP P (.cond x a b) S H Q:=by
 obtain⟨n,fl,S',H',h1,h2⟩:=h;refine⟨n,fl,S',H',?_,h2⟩;cases t with
 |true=>simp only[cR,ht];exact h1
 |false=>simp only[cR,ht];exact h1
def K9{x:Operand}{a b:Code}{S:Slots}{H:St}{Q:Fl->Slots->St->Prop}(ht:ev S x= .bool true)(h:pP P a S H Q):pP P (.cond x a b) S H Q:=GS ht h
def La{x:Operand}{a b:Code}{S:Slots}{H:St}{Q:Fl->Slots->St->Prop}(ht:ev S x= .bool false)(h:pP P b S H Q):pP P (.cond x a b) S H Q:=GS ht h
def lL(id:Nat)(Q:Fl->Slots->St->Prop):Fl->Slots->St->Prop
 | .exit k,S,H=>if k=id then Q .normal S H else Q (.exit k) S H
 |fl,S,H=>Q fl S H
def RW{id:Nat}{c:Code}{S:Slots}{H:St}{Q:Fl->Slots->St->Prop}(h:pP P c S H (lL id Q)):pP P (.block id c) S H Q:=by
 obtain⟨n,fl,S',H',h1,h2⟩:=h;cases fl with
 |normal=>exact⟨n,.normal,S',H',by simp only[cR,h1],h2⟩
 |ret=>exact⟨n,.ret,S',H',by simp only[cR,h1],h2⟩
 |exit k=>
  by_cases e:k=id
  .refine⟨n,.normal,S',H',?_,by simpa [lL,e]using h2⟩
   simp[cR,h1,cQ,e]
  .refine⟨n,.exit k,S',H',?_,by simpa [lL,e]using h2⟩
   simp[cR,h1,cQ,e]
def TW{c:Code}{Q:Fl->Slots->St->Prop}(γ:Nat->Slots->St->Prop)
    (h: ∀m S H,γ m S H->pP P c S H λfl S' H'=>match fl with| .normal=> ∃m',m'<m/\γ m' S' H'|fl=>Q fl S' H'):
    ∀(m:Nat) (S:Slots) (H:St),γ m S H->pP P (.loop c) S H Q:=by
 have main: ∀(m:Nat) (S:Slots) (H:St),γ m S H->∃n fl S' H',sA (λS H=>cR P (lO P n n) n c S H) n S H=some (fl,S',H')/\Q fl S' H':=by
  intro m;induction m using Nat.strongRecOn with
  |_ m ih=>
   intro S H hI;obtain⟨n,fl,S',H',h1,h2⟩:=h m S H hI;cases fl with
   |normal=>
    obtain⟨m',hm,hI'⟩:=h2;obtain⟨k,fl2,S2,H2,h3,h4⟩:=ih m' hm S' H' hI';refine⟨max n k+1,fl2,S2,H2,?_,h4⟩;simp only[sA];rw[qM (gV (show n<=max n k+1 by omega)) (by omega) _ _ _ _ h1]
    exact Qf (λS H r e=>qM (gV (show k<=max n k+1 by omega)) (by omega) _ _ _ _ e) k (max n k) S' H' _ (by omega) h3
   |exit j=>refine⟨n+1,.exit j,S',H',?_,h2⟩;simp only[sA];rw[qM (gV (Nat.le_succ n)) (Nat.le_succ n) _ _ _ _ h1]
   |ret=>refine⟨n+1,.ret,S',H',?_,h2⟩;simp only[sA];rw[qM (gV (Nat.le_succ n)) (Nat.le_succ n) _ _ _ _ h1]
 intro m S H hI;obtain⟨n,fl,S',H',h1,h2⟩:=main m S H hI;exact⟨n,fl,S',H',by simpa only[cR]using h1,h2⟩
def K8{id:Nat}{ops:Array Oper}{draw:Bool}{S:Slots}{H:St}{Q:Fl->Slots->St->Prop}(h:a3o P ops draw S H (Q .normal)):pP P (.region id ops draw) S H Q:=by
 obtain⟨n,S',H',h1,h2⟩:=h;exact⟨n,.normal,S',H',by simp[cR,h1],h2⟩
def TY{ops:Array Oper}{S:Slots}{H:St}{Q:Slots->St->Prop}(h:dW P ops H.next ops.toList 0 S {H with next:=H.next+ops.size} Q):a3o P ops false S H Q:=h
def aBh{ops:Array Oper}{base i:Nat}{S:Slots}{H:St}{Q:Slots->St->Prop}(h:Q S H):dW P ops base [] i S H Q:=⟨0,S,H,rfl,h⟩
def oR{ops:Array Oper}{base i:Nat}{o:Oper}{l:List Oper}{S:Slots}{H:St}{Q:Slots->St->Prop}(hw:wanted ops S o=false)(h:dW P ops base l (i+1) (S.store o.dst undef) H Q):dW P ops base (o::l) i S H Q:=by
 obtain⟨n,S',H',h1,h2⟩:=h;exact⟨n,S',H',by simp only[eN,hw,aJ];exact h1,h2⟩
def T1{ops:Array Oper}{base i:Nat}{o:Oper}{l:List Oper}{S:Slots}{H:St}{Q:Slots->St->Prop}{v:Value}(hw:wanted ops S o=true)(hk:cL o= .pure)(hv:iW P (ev S) o=some v)
    (h:dW P ops base l (i+1) (S.store o.dst v) H Q):dW P ops base (o::l) i S H Q:=by
 obtain⟨n,S',H',h1,h2⟩:=h;exact⟨n,S',H',by simp only[eN,hw,aI,tY,hk,oO,hv,aK];exact h1,h2⟩
def TZ{ops:Array Oper}{base i:Nat}{o:Oper}{l:List Oper}{S:Slots}{H:St}{Q:Slots->St->Prop}{v:Value}(hw:wanted ops S o=true)(hk:cL o= .read)(hv:iV P H (ev S) o=some v)
    (h:dW P ops base l (i+1) (S.store o.dst v) H Q):dW P ops base (o::l) i S H Q:=by
 obtain⟨n,S',H',h1,h2⟩:=h;exact⟨n,S',H',by simp only[eN,hw,aI,tY,hk,hv,aK];exact h1,h2⟩
def RX{ops:Array Oper}{base i:Nat}{o:Oper}{l:List Oper}{S:Slots}{H:St}{Q:Slots->St->Prop}{v:Value}{ob:AObj}(hw:wanted ops S o=true)(hk:cL o= .alloc)(hv:eZ P (ev S) o (base+i)=some (v,ob))
    (h:dW P ops base l (i+1) (S.store o.dst v) (H.put (base+i) ob) Q):dW P ops base (o::l) i S H Q:=by
 obtain⟨n,S',H',h1,h2⟩:=h;exact⟨n,S',H',by simp only[eN,hw,aI,tY,hk,hv,aK];exact h1,h2⟩
def aBi{ops:Array Oper}{base i:Nat}{o:Oper}{l:List Oper}{S:Slots}{H H1:St}{Q:Slots->St->Prop}{v:Value}(hw:wanted ops S o=true)(hk:cL o= .eff)(hv: ∀c,lY P c H (ev S) o (base+i)=some (v,H1))
    (h:dW P ops base l (i+1) (S.store o.dst v) H1 Q):dW P ops base (o::l) i S H Q:=by
 obtain⟨n,S',H',h1,h2⟩:=h;exact⟨n,S',H',by simp only[eN,hw,aI,tY,hk,hv];exact h1,h2⟩
def T2{ops:Array Oper}{base i:Nat}{o:Oper}{l:List Oper}{S:Slots}{H:St}{Q:Slots->St->Prop}{g:FuncId}{args:Array Value}(hw:wanted ops S o=true)(hk:cL o= .eff)
    (hv: ∀c:uC,lY P c H (ev S) o (base+i)=c g args H) (h:aOx P g args H λr H1=>dW P ops base l (i+1) (S.store o.dst r) H1 Q):dW P ops base (o::l) i S H Q:=by
 obtain⟨n,r,H1,h1,m,S',H',h2,h3⟩:=h;refine⟨max n m,S',H',?_,h3⟩;simp only[eN,hw,aI,tY,hk,hv,gV (Nat.le_max_left n m) _ _ _ _ h1];exact DC (gV (Nat.le_max_right n m)) _ _ _ _ _ h2
end
end Go.AI
namespace Go.AI
def Tr.setF_fuel{N:Type}: ∀(f g:Nat) (t:Tr N) (n:Nat) (x:N),n<f->n<g->Tr.setF f t n x=Tr.setF g t n x:=by
 intro f;induction f with
 |zero=>intro g t n x h;omega
 |succ f ih=>
  intro g t n x h1 h2;obtain⟨g,rfl⟩: ∃g',g=g'+1:=⟨g-1,by omega⟩
  cases t with
  |nil=>
   simp only[Tr.setF,cQ,Bool.cond_decide];split
   .rfl
   .split
    .rw[ih g .nil (n/2) x (by omega) (by omega)]
    .rw[ih g .nil (n/2-1) x (by omega) (by omega)]
  |node v l r=>
   simp only[Tr.setF,cQ,Bool.cond_decide];split
   .rfl
   .split
    .rw[ih g l (n/2) x (by omega) (by omega)]
    .rw[ih g r (n/2-1) x (by omega) (by omega)]
def Tr.set_nil{N:Type}(n:Nat)(x:N):(Tr.nil:Tr N).set n x=if n=0 then .node (some x) .nil .nil else if n%2=1 then .node none ((Tr.nil:Tr N).set (n/2) x) .nil else .node none .nil ((Tr.nil:Tr N).set (n/2-1) x):=by
 simp only[Tr.set];rw[Tr.setF];simp only[cQ,Bool.cond_decide];split
 .rfl
 .split
  .rw[Tr.setF_fuel n (n/2+1) _ _ _ (by omega) (by omega)]
  .rw[Tr.setF_fuel n (n/2-1+1) _ _ _ (by omega) (by omega)]
def Tr.set_node{N:Type}(v:Option N)(l r:Tr N)(n:Nat)(x:N):(Tr.node v l r).set n x=if n=0 then .node (some x) l r else if n%2=1 then .node v (l.set (n/2) x) r else .node v l (r.set (n/2-1) x):=by
 simp only[Tr.set];rw[Tr.setF];simp only[cQ,Bool.cond_decide];split
 .rfl
 .split
  .rw[Tr.setF_fuel n (n/2+1) _ _ _ (by omega) (by omega)]
  .rw[Tr.setF_fuel n (n/2-1+1) _ _ _ (by omega) (by omega)]
def G5{N:Type}(x:N):(Tr.nil:Tr N).set 0 x= .node (some x) .nil .nil:=by rw[Tr.set_nil,bI rfl]
def G4{N:Type}{n:Nat}(x:N)(h:n%2=1):(Tr.nil:Tr N).set n x= .node none ((Tr.nil:Tr N).set (n/2) x) .nil:=by rw[Tr.set_nil,bH (by omega),bI h]
def G3{N:Type}{n:Nat}(x:N)(h:n%2=0)(h0:n≠0):(Tr.nil:Tr N).set n x= .node none .nil ((Tr.nil:Tr N).set (n/2-1) x):=by rw[Tr.set_nil,bH h0,bH (by omega)]
def Dy{N:Type}(v:Option N)(l r:Tr N)(x:N):(Tr.node v l r).set 0 x= .node (some x) l r:=by rw[Tr.set_node,bI rfl]
def Dw{N:Type}{n:Nat}(v:Option N)(l r:Tr N)(x:N)(h:n%2=1):(Tr.node v l r).set n x= .node v (l.set (n/2) x) r:=by rw[Tr.set_node,bH (by omega),bI h]
def Dv{N:Type}{n:Nat}(v:Option N)(l r:Tr N)(x:N)(h:n%2=0)(h0:n≠0):(Tr.node v l r).set n x= .node v l (r.set (n/2-1) x):=by rw[Tr.set_node,bH h0,bH (by omega)]
section
variable{P:Program}{ops:Array Oper}{base i:Nat}{l:List Oper}{S:Slots}{H:St}{Q:Slots->St->Prop}
def gU{c:uC}{o:Oper}:eN P c ops base (o::l) i S H=if wanted ops S o=true then(tY P c base i o S H).bind (λx=>eN P c ops base l (i+1) (S.store o.dst x.1) x.2)else eN P c ops base l (i+1) (S.store o.dst undef) H:=by
 simp only[eN];cases wanted ops S o with
 |false=>rfl
 |true=>
  simp only[aI,bO];cases tY P c base i o S H<;>rfl
def aFu:dW P ops base [] i S H Q↔Q S H:=by
 constructor
 .rintro⟨n,S',H',h1,h2⟩;simp only[eN,aA,aB]at h1;obtain⟨rfl,rfl⟩:=h1;exact h2
 .exact aBh
variable{d:Option Tmp}{ty:TypeId}{pos:String}{af:Array Edge}
def Tc{op:Op}{g:Option (Nat×Bool)}(hc:LI op=false):oO P H (ev S) ⟨d,op,ty,pos,af,g⟩=iW P (ev S) ⟨d,op,ty,pos,af,g⟩:=by
 unfold oO;cases iW P (ev S) ⟨d,op,ty,pos,af,g⟩with
 |some v=>rfl
 |none=>cases op<;>first|rfl|cases hc
def kB{op:Op}{g:Option (Nat×Bool)}(hk:cL ⟨d,op,ty,pos,af,g⟩= .pure)(hc:LI op=false):dW P ops base (⟨d,op,ty,pos,af,g⟩::l) i S H Q↔
    if wanted ops S ⟨d,op,ty,pos,af,g⟩=true then∃v,iW P (ev S) ⟨d,op,ty,pos,af,g⟩=some v/\dW P ops base l (i+1) (S.store d v) H Q else dW P ops base l (i+1) (S.store d undef) H Q:=by
 constructor
 .rintro⟨n,S',H',h1,h2⟩;rw[gU]at h1;split
  .rename_i hw;rw[bI hw]at h1;simp only[tY,hk,Tc hc]at h1;cases ha:iW P (ev S) ⟨d,op,ty,pos,af,g⟩with
   |none=>simp[ha]at h1
   |some v=>simp only[ha,aK,aL]at h1;exact⟨v,rfl,n,S',H',h1,h2⟩
  .rename_i hw;rw[bH hw]at h1;exact⟨n,S',H',h1,h2⟩
 .intro h;split at h
  .rename_i hw;obtain⟨v,h1,h2⟩:=h;exact T1 hw hk h1 h2
  .rename_i hw;exact oR (by simpa using hw) h
def Ck(P:Program)(H:St)(s t:TypeId)(v:Value):Option Value:=
 match(bif bR v then cV P (convert s t v)else none)with
 |some u=>some u
 |none=>oP P H s t v
def aI5{s t:TypeId}{x:Operand}{g:Option (Nat×Bool)}:dW P ops base (⟨d,.convert s t x,ty,pos,af,g⟩::l) i S H Q↔
    if wanted ops S ⟨d,.convert s t x,ty,pos,af,g⟩=true then∃v,Ck P H s t (ev S x)=some v/\dW P ops base l (i+1) (S.store d v) H Q else dW P ops base l (i+1) (S.store d undef) H Q:=by
 have he:oO P H (ev S) ⟨d,.convert s t x,ty,pos,af,g⟩=Ck P H s t (ev S x):=rfl;constructor
 .rintro⟨n,S',H',h1,h2⟩;rw[gU]at h1;split
  .rename_i hw;rw[bI hw]at h1;simp only[tY,cL,he]at h1;cases ha:Ck P H s t (ev S x)with
   |none=>simp[ha]at h1
   |some v=>simp only[ha,aK,aL]at h1;exact⟨v,rfl,n,S',H',h1,h2⟩
  .rename_i hw;rw[bH hw]at h1;exact⟨n,S',H',h1,h2⟩
 .intro h;split at h
  .rename_i hw;obtain⟨v,h1,n,S',H',h3,h4⟩:=h;exact⟨n,S',H',by simp only[eN,hw,aI,tY,cL,he,h1,aK];exact h3,h4⟩
  .rename_i hw;exact oR (by simpa using hw) h
def K6{op:Op}{g:Option (Nat×Bool)}(hk:cL ⟨d,op,ty,pos,af,g⟩= .read):dW P ops base (⟨d,op,ty,pos,af,g⟩::l) i S H Q↔
    if wanted ops S ⟨d,op,ty,pos,af,g⟩=true then∃v,iV P H (ev S) ⟨d,op,ty,pos,af,g⟩=some v/\dW P ops base l (i+1) (S.store d v) H Q else dW P ops base l (i+1) (S.store d undef) H Q:=by
 constructor
 .rintro⟨n,S',H',h1,h2⟩;rw[gU]at h1;split
  .rename_i hw;rw[bI hw]at h1;simp only[tY,hk]at h1;cases ha:iV P H (ev S) ⟨d,op,ty,pos,af,g⟩with
   |none=>simp[ha]at h1
   |some v=>simp only[ha,aK,aL]at h1;exact⟨v,rfl,n,S',H',h1,h2⟩
  .rename_i hw;rw[bH hw]at h1;exact⟨n,S',H',h1,h2⟩
 .intro h;split at h
  .rename_i hw;obtain⟨v,h1,h2⟩:=h;exact TZ hw hk h1 h2
  .rename_i hw;exact oR (by simpa using hw) h
def vB{op:Op}{g:Option (Nat×Bool)}(hk:cL ⟨d,op,ty,pos,af,g⟩= .alloc):dW P ops base (⟨d,op,ty,pos,af,g⟩::l) i S H Q↔
    if wanted ops S ⟨d,op,ty,pos,af,g⟩=true then∃v ob,eZ P (ev S) ⟨d,op,ty,pos,af,g⟩ (base+i)=some (v,ob)/\dW P ops base l (i+1) (S.store d v) (H.put (base+i) ob) Q else dW P ops base l (i+1) (S.store d undef) H Q:=by
 constructor
 .rintro⟨n,S',H',h1,h2⟩;rw[gU]at h1;split
  .rename_i hw;rw[bI hw]at h1;simp only[tY,hk]at h1;cases ha:eZ P (ev S) ⟨d,op,ty,pos,af,g⟩ (base+i)with
   |none=>simp[ha]at h1
   |some v=>simp only[ha,aK,aL]at h1;exact⟨v.1,v.2,rfl,n,S',H',h1,h2⟩
  .rename_i hw;rw[bH hw]at h1;exact⟨n,S',H',h1,h2⟩
 .intro h;split at h
  .rename_i hw;obtain⟨v,ob,h1,h2⟩:=h;exact RX hw hk h1 h2
  .rename_i hw;exact oR (by simpa using hw) h
end
section
variable{P:Program}
def XH(i:Nat):Slots.at (Tr.nil:Tr Value) i=undef:=rfl
def Gc(v:Option Value)(l r:Tr Value)(n:Nat):Slots.at (Tr.node v l r) n=if n=0 then v.getD undef else if n%2=1 then Slots.at l (n/2)else Slots.at r (n/2-1):=by
 simp only[Slots.at,Tr.get_node];split
 .rfl
 .split<;>rfl
def KF(v:Option Value)(l r:Tr Value):Slots.at (Tr.node v l r) 0=v.getD undef:=by rw[Gc,bI rfl]
def KE(v:Option Value)(l r:Tr Value){n:Nat}(h:n%2=1):Slots.at (Tr.node v l r) n=Slots.at l (n/2):=by rw[Gc,bH (by omega),bI h]
def KD(v:Option Value)(l r:Tr Value){n:Nat}(h:n%2=0)(h0:n≠0):Slots.at (Tr.node v l r) n=Slots.at r (n/2-1):=by rw[Gc,bH h0,bH (by omega)]
def AN(S:Slots)(d:Tmp)(v:Value):Slots.store S (some d) v=Tr.set S d v:=rfl
def AO(S:Slots)(v:Value):Slots.store S none v=S:=rfl
def WU(S:Slots)(t:Tmp):ev S (.tmp t)=S.at t:=rfl
def JY(S:Slots)(v:Value):ev S (.const v)=v:=rfl
def Qp(S:Slots)(f:FuncId):ev S (.func f)= .func (.func f) #[] #[]:=rfl
def cB(ops:Array Oper)(S:Slots)(d:Option Tmp)(op:Op)(ty:TypeId)(pos:String)(af:Array Edge):wanted ops S ⟨d,op,ty,pos,af,none⟩=true:=rfl
end
end Go.AI
namespace Go.AI
def nJ(ops:Array Oper)(S:Slots)(j:Nat)(want:Bool):Bool:=
 match(ops[j]?.bind (·.dst)).map S.at with
 |some (.bool b)=>b==want
 |_=>false
def KG(c a b:Value):Option Value:=
 match c with
 | .bool true=>some a
 | .bool false=>some b
 |_=>none
def yE:Value->Option Value
 | .pointer (some a)=>some (.pointer (some a))
 |_=>none
def Ci(t:Value)(i:Nat):Option Value:=
 match t with
 | .tuple vs=>vs[i]?
 |_=>none
def Ub(P:Program)(t:TypeId)(id:Nat):Option (Value×AObj):=
 match bX P (zeroValue t)with
  |some z=>bif z.cells.toList.all bR then some (.pointer (some ⟨id,0,none⟩),.cells z.cells.toList boxMeta)else none
  |none=>none
def wN(v:Value)(id:Nat):Option (Value×AObj):=bif v.cells.toList.all one then some (.pointer (some ⟨id,0,none⟩),.cells v.cells.toList boxMeta)else none
def Aj(P:Program)(t:TypeId)(len:Nat)(qs:Array (Nat×Value))(id:Nat):Option (Value×AObj):=
    match P.underlying t with
    |some (.slice e)=>match gC P e with
      |some s=>match bX P (zeroValue e)with
        |some z=>
          bif z.cells.toList.all bR&&Nat.ble (len*s) 1000000&&Nat.beq z.cells.size s&&Nat.ble 1 s then
            (Instr.fill (λi=>some (i*s,s)) (dR z.cells.toList len).toArray qs.toList).map
              λcs=>(.slice (some ⟨id,0,none⟩) len len,.cells cs.toList (cS s))
          else none
        |none=>none
      |none=>none
    |_=>none
def aFx(P:Program)(t:TypeId)(l c:Value)(id:Nat):Option (Value×AObj):=
    match P.underlying t,l,c with
    |some (.slice e),.int .i64 n,.int .i64 k=>match P.info? e with
      |some info=>match info.zero with
        |some z=>
          bif decide (0<=n)&&decide (n<=k)&&decide (k*(info.bytes:Int)<=1073741824)&&decide (k<=1073741824)&&z.cells.toList.all bR&&Nat.beq z.cells.size info.size&&Nat.ble 1 info.size then
            bif decide (n=k)then some (.slice (some ⟨id,0,none⟩) n.toNat n.toNat,.cells (dR z.cells.toList n.toNat) (cS info.size))
            else some (.slice (some ⟨id,0,none⟩) n.toNat (n.toNat+1),.cells (dR z.cells.toList n.toNat) {wr:=true,tip:=true,z:=info.size,grp:=some (id,0)})
          else none
        |none=>none
      |none=>none
    |_,_,_=>none
section
variable{P:Program}{ops:Array Oper}{base i:Nat}{l:List Oper}{S:Slots}{H:St}{Q:Slots->St->Prop}{d:Option Tmp}{ty:TypeId}{pos:String}{af:Array Edge}
def gH(P:Program)(op:BinOp)(t:TypeId)(x y:Operand)(a b:Value):Option Value:=
 bif cK a&&cK b then cV P (do eqGuard op t x y a b;binOp op t a b)
 else match P.underlying t with
  |some (.slice _)=>XN op a b
  |_=>none
def a2K(P:Program)(op:UnOp)(a:Value):Option Value:=bif bR a then cV P (Op.unary op a)else none
def XP(P:Program)(s t:TypeId)(a:Value):Option Value:=bif bR a then cV P (convert s t a)else none
def EC{op:Op}{g:Option (Nat×Bool)}{v:Value}(hk:cL ⟨d,op,ty,pos,af,g⟩= .pure)(hc:LI op=false)(hv:iW P (ev S) ⟨d,op,ty,pos,af,g⟩=some v):dW P ops base (⟨d,op,ty,pos,af,g⟩::l) i S H Q↔
    if wanted ops S ⟨d,op,ty,pos,af,g⟩=true then dW P ops base l (i+1) (S.store d v) H Q else dW P ops base l (i+1) (S.store d undef) H Q:=by
 rw[kB hk hc,hv];simp only[aA,exists_eq_left']
def TL{x:Operand}:dW P ops base (⟨d,.move x,ty,pos,af,none⟩::l) i S H Q↔dW P ops base l (i+1) (S.store d (ev S x)) H Q:=by
 rw[EC rfl rfl rfl,cB,bI rfl]
def GR{x:Operand}:dW P ops base (⟨d,.assign x,ty,pos,af,none⟩::l) i S H Q↔dW P ops base l (i+1) (S.store d (ev S x)) H Q:=by
 rw[EC rfl rfl rfl,cB,bI rfl]
def aI3{x y z:Operand}:dW P ops base (⟨d,.pick x y z,ty,pos,af,none⟩::l) i S H Q↔∃v,KG (ev S x) (ev S y) (ev S z)=some v/\dW P ops base l (i+1) (S.store d v) H Q:=by
 rw[kB rfl rfl,cB,bI rfl];rfl
def aBc{t:TypeId}{ps:Array (Nat×Operand)}:dW P ops base (⟨d,.build t ps,ty,pos,af,none⟩::l) i S H Q↔∃v,uT P t (ps.map λ(i,x)=>(i,ev S x))=some v/\dW P ops base l (i+1) (S.store d v) H Q:=by
 rw[kB rfl rfl,cB,bI rfl];rfl
def K7{x:Operand}:dW P ops base (⟨d,.nilCheck x,ty,pos,af,none⟩::l) i S H Q↔∃v,yE (ev S x)=some v/\dW P ops base l (i+1) (S.store d v) H Q:=by
 rw[kB rfl rfl,cB,bI rfl];rfl
def aBd{op:BinOp}{t t':TypeId}{x y:Operand}:dW P ops base (⟨d,.binOp op t x y t',ty,pos,af,none⟩::l) i S H Q↔∃v,gH P op t x y (ev S x) (ev S y)=some v/\dW P ops base l (i+1) (S.store d v) H Q:=by
 rw[kB rfl rfl,cB,bI rfl];rfl
def aI2{op:UnOp}{t:TypeId}{x:Operand}:dW P ops base (⟨d,.unOp op t x,ty,pos,af,none⟩::l) i S H Q↔∃v,a2K P op (ev S x)=some v/\dW P ops base l (i+1) (S.store d v) H Q:=by
 rw[kB rfl rfl,cB,bI rfl];rfl
def RU{s t:TypeId}{x:Operand}:dW P ops base (⟨d,.convert s t x,ty,pos,af,none⟩::l) i S H Q↔∃v,Ck P H s t (ev S x)=some v/\dW P ops base l (i+1) (S.store d v) H Q:=by
 rw[aI5,cB,bI rfl]
def AB{fn:Fn}{fs cs:Array Operand}:dW P ops base (⟨d,.makeFunc fn fs cs,ty,pos,af,none⟩::l) i S H Q↔dW P ops base l (i+1) (S.store d (.func fn (fs.map (ev S)) (cs.map (ev S)))) H Q:=by
 rw[EC rfl rfl rfl,cB,bI rfl]
def GQ{t:TypeId}{x:Operand}{f:Nat}:dW P ops base (⟨d,.fieldAddr t x f,ty,pos,af,none⟩::l) i S H Q↔∃v,jT P t (ev S x) f=some v/\dW P ops base l (i+1) (S.store d v) H Q:=by
 rw[kB rfl rfl,cB,bI rfl];rfl
def aBa{t:TypeId}{x:Operand}{f:Nat}:dW P ops base (⟨d,.field t x f,ty,pos,af,none⟩::l) i S H Q↔∃v,uS P t (ev S x) f=some v/\dW P ops base l (i+1) (S.store d v) H Q:=by
 rw[kB rfl rfl,cB,bI rfl];rfl
def GO{t:TypeId}{x y:Operand}:dW P ops base (⟨d,.indexAddr t x y,ty,pos,af,none⟩::l) i S H Q↔∃v,fF P t (ev S x) (ev S y)=some v/\dW P ops base l (i+1) (S.store d v) H Q:=by
 rw[kB rfl rfl,cB,bI rfl];rfl
def aA9{t:TypeId}{x y:Operand}:dW P ops base (⟨d,.index t x y,ty,pos,af,none⟩::l) i S H Q↔∃v,uR P t (ev S x) (ev S y)=some v/\dW P ops base l (i+1) (S.store d v) H Q:=by
 rw[kB rfl rfl,cB,bI rfl];rfl
def RT{x:Operand}{k:Nat}:dW P ops base (⟨d,.extract x k,ty,pos,af,none⟩::l) i S H Q↔∃v,Ci (ev S x) k=some v/\dW P ops base l (i+1) (S.store d v) H Q:=by
 rw[kB rfl rfl,cB,bI rfl];rfl
def aO8{as:Array Operand}{ts:Array TypeId}:dW P ops base (⟨d,.call ⟨.builtin .len,as,ts⟩,ty,pos,af,none⟩::l) i S H Q↔∃v,fV P (ev S) ⟨d,.call ⟨.builtin .len,as,ts⟩,ty,pos,af,none⟩ ⟨.builtin .len,as,ts⟩=some v/\dW P ops base l (i+1) (S.store d v) H Q:=by
 rw[kB rfl rfl,cB,bI rfl];rfl
def aO6{as:Array Operand}{ts:Array TypeId}:dW P ops base (⟨d,.call ⟨.builtin .min,as,ts⟩,ty,pos,af,none⟩::l) i S H Q↔∃v,fV P (ev S) ⟨d,.call ⟨.builtin .min,as,ts⟩,ty,pos,af,none⟩ ⟨.builtin .min,as,ts⟩=some v/\dW P ops base l (i+1) (S.store d v) H Q:=by
 rw[kB rfl rfl,cB,bI rfl];rfl
def aO7{as:Array Operand}{ts:Array TypeId}:dW P ops base (⟨d,.call ⟨.builtin .max,as,ts⟩,ty,pos,af,none⟩::l) i S H Q↔∃v,fV P (ev S) ⟨d,.call ⟨.builtin .max,as,ts⟩,ty,pos,af,none⟩ ⟨.builtin .max,as,ts⟩=some v/\dW P ops base l (i+1) (S.store d v) H Q:=by
 rw[kB rfl rfl,cB,bI rfl];rfl
def aI4{t:TypeId}{x:Operand}:dW P ops base (⟨d,.load t x,ty,pos,af,none⟩::l) i S H Q↔∃v,hY P H t (ev S x)=some v/\dW P ops base l (i+1) (S.store d v) H Q:=by
 rw[K6 rfl,cB,bI rfl];rfl
def TN{t:TypeId}{x y:Operand}{ok:Bool}:dW P ops base (⟨d,.lookup t x y ok,ty,pos,af,none⟩::l) i S H Q↔∃v,jK P H t (ev S x) (ev S y) ok=some v/\dW P ops base l (i+1) (S.store d v) H Q:=by
 rw[K6 rfl,cB,bI rfl];rfl
def aA8{t:TypeId}{x:Operand}{lo hi mx:Option Operand}:dW P ops base (⟨d,.slice t x lo hi mx,ty,pos,af,none⟩::l) i S H Q↔∃v,oN P H t (ev S x) (lo.map (ev S)) (hi.map (ev S)) (mx.map (ev S))=some v/\dW P ops base l (i+1) (S.store d v) H Q:=by
 rw[K6 rfl,cB,bI rfl];rfl
def x_alloc'{t:TypeId}:dW P ops base (⟨d,.alloc t,ty,pos,af,none⟩::l) i S H Q↔∃v ob,Ub P t (base+i)=some (v,ob)/\dW P ops base l (i+1) (S.store d v) (H.put (base+i) ob) Q:=by
 rw[vB rfl,cB,bI rfl];rfl
def x_box{t:TypeId}{x:Operand}:dW P ops base (⟨d,.box t x,ty,pos,af,none⟩::l) i S H Q↔∃v ob,wN (ev S x) (base+i)=some (v,ob)/\dW P ops base l (i+1) (S.store d v) (H.put (base+i) ob) Q:=by
 rw[vB rfl,cB,bI rfl];rfl
def x_buildSlice{t:TypeId}{n:Nat}{ps:Array (Nat×Operand)}:dW P ops base (⟨d,.buildSlice t n ps,ty,pos,af,none⟩::l) i S H Q↔∃v ob,Aj P t n (ps.map λ(i,x)=>(i,ev S x)) (base+i)=some (v,ob)/\dW P ops base l (i+1) (S.store d v) (H.put (base+i) ob) Q:=by
 rw[vB rfl,cB,bI rfl];rfl
def x_makeSlice{t:TypeId}{x y:Operand}:dW P ops base (⟨d,.makeSlice t x y,ty,pos,af,none⟩::l) i S H Q↔∃v ob,aFx P t (ev S x) (ev S y) (base+i)=some (v,ob)/\dW P ops base l (i+1) (S.store d v) (H.put (base+i) ob) Q:=by
 rw[vB rfl,cB,bI rfl];rfl
def x_makeMap{t:TypeId}{x:Option Operand}:dW P ops base (⟨d,.makeMap t x,ty,pos,af,none⟩::l) i S H Q↔∃v ob,eZ P (ev S) ⟨d,.makeMap t x,ty,pos,af,none⟩ (base+i)=some (v,ob)/\dW P ops base l (i+1) (S.store d v) (H.put (base+i) ob) Q:=by
 rw[vB rfl,cB,bI rfl]
def OY{op:Op}{g:Option (Nat×Bool)}{r:Option (Value×St)}(hk:cL ⟨d,op,ty,pos,af,g⟩= .eff)(hv: ∀c,lY P c H (ev S) ⟨d,op,ty,pos,af,g⟩ (base+i)=r):dW P ops base (⟨d,op,ty,pos,af,g⟩::l) i S H Q↔
    if wanted ops S ⟨d,op,ty,pos,af,g⟩=true then∃v H1,r=some (v,H1)/\dW P ops base l (i+1) (S.store d v) H1 Q else dW P ops base l (i+1) (S.store d undef) H Q:=by
 constructor
 .rintro⟨n,S',H',h1,h2⟩;rw[gU]at h1;split
  .rename_i hw;rw[bI hw]at h1;simp only[tY,hk,hv]at h1;cases hr:r with
   |none=>simp[hr]at h1
   |some v=>obtain⟨v,H1⟩:=v;simp only[hr,aL]at h1;exact⟨v,H1,rfl,n,S',H',h1,h2⟩
  .rename_i hw;rw[bH hw]at h1;exact⟨n,S',H',h1,h2⟩
 .intro h;split at h
  .rename_i hw;obtain⟨v,H1,h1,h2⟩:=h;exact aBi hw hk (λc=>(hv c).trans h1) h2
  .rename_i hw;exact oR (by simpa using hw) h
def aBb{op:Op}{g:Option (Nat×Bool)}{c:Call}(lx:op= .call c)(hk:cL ⟨d,op,ty,pos,af,g⟩= .eff)(hb: ∀b,c.callee≠ .builtin b):dW P ops base (⟨d,op,ty,pos,af,g⟩::l) i S H Q↔
    if wanted ops S ⟨d,op,ty,pos,af,g⟩=true then∃f args,gJ (ev S) c=some (f,args)/\aOx P f args H λv H1=>dW P ops base l (i+1) (S.store d v) H1 Q else dW P ops base l (i+1) (S.store d undef) H Q:=by
 have hv: ∀k:uC,lY P k H (ev S) ⟨d,op,ty,pos,af,g⟩ (base+i)=match gJ (ev S) c with|some (f,args)=>k f args H|none=>none:=by
  intro k;subst lx;unfold lY;simp only;cases hc:c.callee with
  |builtin b=>exact absurd hc (hb b)
  |value f=>rfl
  |invoke f m=>rfl
 constructor
 .rintro⟨n,S',H',h1,h2⟩;rw[gU]at h1;split
  .rename_i hw;rw[bI hw]at h1;simp only[tY,hk,hv]at h1;cases hr:gJ (ev S) c with
   |none=>simp[hr]at h1
   |some v=>
    obtain⟨f,args⟩:=v;simp only[hr]at h1;cases hx:lO P n n f args H with
    |none=>simp[hx]at h1
    |some x=>obtain⟨r,H1⟩:=x;simp only[hx,aL]at h1;exact⟨f,args,rfl,n,r,H1,hx,n,S',H',h1,h2⟩
  .rename_i hw;rw[bH hw]at h1;exact⟨n,S',H',h1,h2⟩
 .intro h;split at h
  .rename_i hw;obtain⟨f,args,h1,h2⟩:=h;exact T2 hw hk (λk=>by rw[hv,h1]) h2
  .rename_i hw;exact oR (by simpa using hw) h
def xB{r:Option St}{ρ:Value->St->Prop}:(∃v H1,r.map (λH'=>(undef,H'))=some (v,H1)/\ρ v H1)↔∃H1,r=some H1/\ρ undef H1:=by
 cases r with
 |none=>simp
 |some s=>simp only[aK,aA,aB];exact⟨λ⟨v,H1,⟨h1,h2⟩,h⟩=>⟨H1,h2,by rw[h1];exact h⟩,λ⟨H1,h1,h⟩=>⟨_,H1,⟨rfl,h1⟩,h⟩⟩
def aA7{t:TypeId}{x y:Operand}:dW P ops base (⟨d,.store t x y,ty,pos,af,none⟩::l) i S H Q↔∃H1,gE P H t (ev S x) (ev S y)=some H1/\dW P ops base l (i+1) (S.store d undef) H1 Q:=by
 rw[OY (r:=(gE P H t (ev S x) (ev S y)).map λH'=>(undef,H')) rfl (λ_=>rfl),cB,bI rfl,xB]
def GN{t:TypeId}{x y z:Operand}:dW P ops base (⟨d,.mapUpdate t x y z,ty,pos,af,none⟩::l) i S H Q↔∃H1,eQ P H t (ev S x) (ev S y) (ev S z)=some H1/\dW P ops base l (i+1) (S.store d undef) H1 Q:=by
 rw[OY (r:=(eQ P H t (ev S x) (ev S y) (ev S z)).map λH'=>(undef,H')) rfl (λ_=>rfl),cB,bI rfl,xB]
def TO{t:TypeId}{x y z:Operand}:dW P ops base (⟨d,.insert t x y z,ty,pos,af,none⟩::l) i S H Q↔∃H1,eQ P H t (ev S x) (ev S y) (ev S z)=some H1/\dW P ops base l (i+1) (S.store d undef) H1 Q:=by
 rw[OY (r:=(eQ P H t (ev S x) (ev S y) (ev S z)).map λH'=>(undef,H')) rfl (λ_=>rfl),cB,bI rfl,xB]
def x_append{x y:Operand}{ts:Array TypeId}:dW P ops base (⟨d,.call ⟨.builtin .append, #[x,y],ts⟩,ty,pos,af,none⟩::l) i S H Q↔∃v H1,fS P H (base+i) ⟨.builtin .append, #[x,y],ts⟩ (ev S x) (ev S y)=some (v,H1)/\dW P ops base l (i+1) (S.store d v) H1 Q:=by
 rw[OY (r:=fS P H (base+i) ⟨.builtin .append, #[x,y],ts⟩ (ev S x) (ev S y)) rfl (λ_=>rfl),cB,bI rfl]
def aI6{f:Operand}{as:Array Operand}{ts:Array TypeId}:dW P ops base (⟨d,.call ⟨.value f,as,ts⟩,ty,pos,af,none⟩::l) i S H Q↔∃g args,gJ (ev S) ⟨.value f,as,ts⟩=some (g,args)/\aOx P g args H λv H1=>dW P ops base l (i+1) (S.store d v) H1 Q:=by
 rw[aBb rfl rfl (λb h=>by cases h),cB,bI rfl]
def vI(H:St)(id k:Nat)(cs:List Value)(m:mX):(H.put id (.cells cs m)).row k=if k=id then(if H.good m=true then some (cs,m)else none)else H.row k:=by
 unfold St.row;rw[St.get_put];by_cases e:k=id
 .simp only[bI e,St.good_put];cases H.good m<;>rfl
 .simp only[bH e];rfl
def next_put(H:St)(id:Nat)(o:AObj):(H.put id o).next=H.next:=rfl
def JG(H:St):H.good boxMeta=true:=rfl
def good_row(H:St)(z:Nat):H.good (cS z)=true:=rfl
end
end Go.AI
namespace Go.AI
section
variable{P:Program}{S:Slots}{H:St}{Q:Fl->Slots->St->Prop}
def St.more(H:St)(n:Nat):St:={H with next:=H.next+n}
def HK{n k:Nat}:(H.more n).row k=H.row k:=rfl
def vW{n k:Nat}:(H.more n).get k=H.get k:=rfl
def sT{n:Nat}:(H.more n).next=H.next+n:=rfl
def DU{n:Nat}{m:mX}:(H.more n).good m=H.good m:=rfl
def Ua{n g:Nat}:(H.more n).ver g=H.ver g:=rfl
def done(P:Program)(rs:List ResultVar)(Q:Value->St->Prop):Fl->Slots->St->Prop
 | .exit _,_,_=>False
 |_,S,H=> ∃vs,cO P S H rs=some vs/\Q (kN vs) H
def sJ{a b:Code}:pP P (.seq a b) S H Q↔pP P a S H (GZ P b Q):=by
 refine⟨λh=>?_,aBf⟩
 obtain⟨n,fl,S',H',h1,h2⟩:=h;simp only[cR]at h1;cases ha:cR P (lO P n n) n a S H with
 |none=>simp[ha]at h1
 |some x=>
  obtain⟨f1,S1,H1⟩:=x;simp only[ha]at h1;cases f1 with
  |normal=>exact⟨n,.normal,S1,H1,ha,n,fl,S',H',h1,h2⟩
  |exit k=>cases h1;exact⟨n,_,_,_,ha,h2⟩
  |ret=>cases h1;exact⟨n,_,_,_,ha,h2⟩
def Xw:pP P .skip S H Q↔Q .normal S H:=⟨λ⟨_,_,_,_,h1,h2⟩=>by cases h1;exact h2,TR⟩
def QE{l:Nat}:pP P (.label l) S H Q↔Q .normal S H:=⟨λ⟨_,_,_,_,h1,h2⟩=>by cases h1;exact h2,RV⟩
def Xx{k:Nat}:pP P (.exit k) S H Q↔Q (.exit k) S H:=⟨λ⟨_,_,_,_,h1,h2⟩=>by cases h1;exact h2,TX⟩
def aGz:pP P .ret S H Q↔Q .ret S H:=⟨λ⟨_,_,_,_,h1,h2⟩=>by cases h1;exact h2,aBg⟩
def QD{c:Code}:pP P (.scope c) S H Q↔pP P c S H Q:=Iff.rfl
def QF{id:Nat}{c:Code}:pP P (.block id c) S H Q↔pP P c S H (lL id Q):=by
 refine⟨λh=>?_,RW⟩
 obtain⟨n,fl,S',H',h1,h2⟩:=h;simp only[cR]at h1;cases ha:cR P (lO P n n) n c S H with
 |none=>simp[ha]at h1
 |some x=>
  obtain⟨f1,S1,H1⟩:=x;simp only[ha]at h1;cases f1 with
  |normal=>cases h1;exact⟨n,_,_,_,ha,h2⟩
  |ret=>cases h1;exact⟨n,_,_,_,ha,h2⟩
  |exit k=>
   refine⟨n,_,_,_,ha,?_⟩;simp only[cQ,Bool.cond_decide]at h1;simp only[lL];split at h1<;>cases h1
   .rename_i e;rw[bI e];exact h2
   .rename_i e;rw[bH e];exact h2
def cH(P:Program)(v:Value)(a b:Code)(S:Slots)(H:St)(Q:Fl->Slots->St->Prop):Prop:=
 match v with
 | .bool t=>if t=true then pP P a S H Q else pP P b S H Q
 |_=>False
def Xy{x:Operand}{a b:Code}:pP P (.cond x a b) S H Q↔cH P (ev S x) a b S H Q:=by
 constructor
 .rintro⟨n,fl,S',H',h1,h2⟩;simp only[cR]at h1;unfold cH;split at h1
  .rename_i e;rw[e];simp only[bO];exact⟨n,fl,S',H',h1,h2⟩
  .rename_i e;rw[e];exact⟨n,fl,S',H',h1,h2⟩
  .cases h1
 .intro h;unfold cH at h;split at h
  .rename_i t e;split at h
   .rename_i ht;subst ht;exact K9 e h
   .rename_i ht;exact La (by rw[e];simpa using ht) h
  .exact h.elim
def Xv{id:Nat}{ops:Array Oper}:pP P (.region id ops false) S H Q↔dW P ops H.next ops.toList 0 S (H.more ops.size) (Q .normal):=by
 constructor
 .rintro⟨n,fl,S',H',h1,h2⟩;simp only[cR,aF]at h1;obtain⟨⟨S1,H1⟩,h1,e⟩:=h1;cases e;exact⟨n,S1,H1,h1,h2⟩
 .exact λh=>K8 (TY h)
def a3t{c:Code}:GZ P c Q .normal S H↔pP P c S H Q:=Iff.rfl
def a3u{c:Code}{k:Nat}:GZ P c Q (.exit k) S H↔Q (.exit k) S H:=Iff.rfl
def a3s{c:Code}:GZ P c Q .ret S H↔Q .ret S H:=Iff.rfl
def a4d{id:Nat}:lL id Q .normal S H↔Q .normal S H:=Iff.rfl
def a4c{id:Nat}:lL id Q .ret S H↔Q .ret S H:=Iff.rfl
def a4e{id k:Nat}:lL id Q (.exit k) S H↔if k=id then Q .normal S H else Q (.exit k) S H:=Iff.rfl
def Pt:cO P S H []=some []:=rfl
def Ps{t:Tmp}{rs:List ResultVar}:cO P S H (.tmp t::rs)=(cO P S H rs).map (S.at t:: ·):=by
 simp only[cO,oH];cases cO P S H rs<;>rfl
def HM{a:Tmp}{t:TypeId}{rs:List ResultVar}:cO P S H (.cell a t::rs)=(hY P H t (S.at a)).bind λv=>(cO P S H rs).map (v:: ·):=by
 simp only[cO,oH];cases hY P H t (S.at a)<;>cases cO P S H rs<;>rfl
def aWz{v:Value}:kN [v]=v:=rfl
def aWy{v u:Value}:kN [v,u]= .tuple #[v,u]:=rfl
def aWA:kN []= .tuple #[]:=rfl
def Da(P:Program)(ops:Array Oper)(base:Nat)(l:List Oper)(i:Nat)(S:Slots)(d:Option Tmp)(Q:Slots->St->Prop):Value->St->Prop:=λv H1=>dW P ops base l i (S.store d v) H1 Q
section
variable{ops:Array Oper}{base i:Nat}{l:List Oper}{K:Slots->St->Prop}{d:Option Tmp}{ty:TypeId}{pos:String}{af:Array Edge}
def k_call{f:Operand}{as:Array Operand}{ts:Array TypeId}:dW P ops base (⟨d,.call ⟨.value f,as,ts⟩,ty,pos,af,none⟩::l) i S H K↔∃g args,gJ (ev S) ⟨.value f,as,ts⟩=some (g,args)/\aOx P g args H (Da P ops base l (i+1) S d K):=aI6
def V3{v:Value}{H1:St}:Da P ops base l i S d K v H1↔dW P ops base l i (S.store d v) H1 K:=Iff.rfl
def Eh{S:Slots}{g:FuncId}{as:Array Operand}{ts:Array TypeId}:gJ (ev S) ⟨.value (.func g),as,ts⟩=some (g,as.map (ev S)):=by
 simp[gJ,ev]
end
section
variable{t:TypeId}{x y:Operand}{k:IntKind}{a b:Int}
def VI:gH P .lss t x y (.int k a) (.int k b)=some (.bool (decide (a<b))):=by cases k<;>rfl
def VJ:gH P .leq t x y (.int k a) (.int k b)=some (.bool (decide (a<=b))):=by cases k<;>rfl
def VK:gH P .gtr t x y (.int k a) (.int k b)=some (.bool (decide (b<a))):=by cases k<;>rfl
def VL:gH P .geq t x y (.int k a) (.int k b)=some (.bool (decide (b<=a))):=by cases k<;>rfl
def VM:gH P .eql t x y (.int k a) (.int k b)=some (.bool (a==b)):=by cases k<;>rfl
def VG:gH P .neq t x y (.int k a) (.int k b)=some (.bool (a !=b)):=by cases k<;>rfl
def VP:gH P .add t x y (.int k a) (.int k b)=some (.int k (k.wrap (a+b))):=by cases k<;>rfl
def VF:gH P .sub t x y (.int k a) (.int k b)=some (.int k (k.wrap (a-b))):=by cases k<;>rfl
def VH:gH P .mul t x y (.int k a) (.int k b)=some (.int k (k.wrap (a*b))):=by cases k<;>rfl
def aTs(h:b≠0):gH P .quo t x y (.int k a) (.int k b)=some (.int k (k.wrap (a.tdiv b))):=by
 cases k<;>simp[gH,cK,bR,cV,bQ,eqGuard,binOp,Op.intDiv,h,bS]
def aTr(h:b≠0):gH P .rem t x y (.int k a) (.int k b)=some (.int k (a.tmod b)):=by
 cases k<;>simp[gH,cK,bR,cV,bQ,eqGuard,binOp,Op.intDiv,h,bS]
def aTq{k':IntKind}(h:0<=b):gH P .shl t x y (.int k a) (.int k' b)=some (.int k (k.wrap (a*2^(min b.toNat k.bits)))):=by
 have: ¬b<0:=by omega
 cases k<;>simp[gH,cK,bR,cV,bQ,eqGuard,binOp,Op.shift,this,bS]
def aTp{k':IntKind}(h:0<=b):gH P .shr t x y (.int k a) (.int k' b)=some (.int k (a.fdiv (2^(min b.toNat k.bits)))):=by
 have: ¬b<0:=by omega
 cases k<;>simp[gH,cK,bR,cV,bQ,eqGuard,binOp,Op.shift,this,bS]
def VO:gH P .and t x y (.int k a) (.int k b)=some (.int k (k.wrap ((BitVec.ofInt k.bits a&&&BitVec.ofInt k.bits b).toNat:Int))):=by cases k<;>rfl
def aLs:gH P .or t x y (.int k a) (.int k b)=some (.int k (k.wrap ((BitVec.ofInt k.bits a|||BitVec.ofInt k.bits b).toNat:Int))):=by cases k<;>rfl
def VE:gH P .xor t x y (.int k a) (.int k b)=some (.int k (k.wrap ((BitVec.ofInt k.bits a^^^BitVec.ofInt k.bits b).toNat:Int))):=by cases k<;>rfl
def VN:gH P .andNot t x y (.int k a) (.int k b)=some (.int k (k.wrap ((BitVec.ofInt k.bits a&&& ~~~ BitVec.ofInt k.bits b).toNat:Int))):=by cases k<;>rfl
def aF8{c:Bool}:a2K P .not (.bool c)=some (.bool (!c)):=rfl
def a3x{u v:Value}:KG (.bool true) u v=some u:=rfl
def a3y{u v:Value}:KG (.bool false) u v=some v:=rfl
def aSX{c u v:Bool}:KG (.bool c) (.bool u) (.bool v)=some (.bool (if c=true then u else v)):=by cases c<;>rfl
def Qq{c e:Bool}(ht:P.underlying t=some .bool):bX P (Op.equal t (.bool c) (.bool e))=some (c==e):=by
 unfold Op.equal;rw[show Op.maxDepth=Nat.succ 9999 from rfl,Op.equalIn.eq_2,bQ,bT,ht];rfl
def aTu{c e:Bool}(ht:P.underlying t=some .bool):gH P .eql t x y (.bool c) (.bool e)=some (.bool (c==e)):=by
 simp only[gH,cK,bR,Bool.and_self,aI,cV,bQ,eqGuard,bD,Bool.false_eq_true,bN,bS,aL,binOp,Qq ht]
def aTt{c e:Bool}(ht:P.underlying t=some .bool):gH P .neq t x y (.bool c) (.bool e)=some (.bool (!(c==e))):=by
 simp only[gH,cK,bR,Bool.and_self,aI,cV,bQ,eqGuard,bD,Bool.false_eq_true,bN,bS,aL,binOp,Qq ht]
def aLt{s:TypeId}{d:TypeDesc}{k':IntKind}(hs:P.underlying s=some d)(ht:P.underlying t=some (.int k')):XP P s t (.int k a)=some (.int k' (k'.wrap a)):=by
 unfold XP;simp only[bR,aI,cV,convert,bQ,bT,hs,ht,aL,Conv.intToInt,bS,cK]
def P9{a0:Addr}:yE (.pointer (some a0))=some (.pointer (some a0)):=rfl
def WT{vs:Array Value}{i:Nat}:Ci (.tuple vs) i=vs[i]?:=rfl
end
def ia{t e:TypeId}{z id off len c:Nat}{k:IntKind}{n:Int}(ht:P.underlying t=some (.slice e))(hz:gC P e=some z)(h0:0<=n)(h1:n<(len:Int)):
    fF P t (.slice (some ⟨id,off,none⟩) len c) (.int k n)=some (.pointer (some ⟨id,off+n.toNat*z,none⟩)):=by
 simp[fF,ht,hz,bV,h0,h1]
def aOA(H:St)(id off n:Nat)(x:Value)(cs:List Value)(m:mX):Option St:=
 bif m.wr&&Nat.beq x.cells.size n&&Nat.ble (off+n) cs.length&&x.cells.toList.all one then
  match m.grp with
  |none=>some (H.put id (.cells (eA cs off x.cells.toList) m))
  |some (g,v)=>bif m.tip&&Nat.ble m.lim off then some (H.put id (.cells (eA cs off x.cells.toList) m))else some ((H.put id (.cells (eA cs off x.cells.toList) {m with grp:=some (g,v+1)})).bump g (v+1))
 else none
def aQi{t:TypeId}{n id off:Nat}{x:Value}(ht:gC P t=some n):gE P H t (.pointer (some ⟨id,off,none⟩)) x=(H.row id).bind λr=>aOA H id off n x r.1 r.2:=by
 simp only[gE,ht];cases H.row id<;>rfl
def Uh{id off n:Nat}{x:Value}{cs:List Value}{m:mX}(hw:m.wr=true)(hg:m.grp=none):aOA H id off n x cs m=if x.cells.size=n/\off+n<=cs.length/\x.cells.toList.all one=true then some (H.put id (.cells (eA cs off x.cells.toList) m))else none:=by
 unfold aOA;rw[hw,hg,cQ,qX,Bool.true_and];by_cases h1:x.cells.size=n
 .by_cases h2:off+n<=cs.length
  .cases h3:x.cells.toList.all one with
   |true=>rw[bI ⟨h1,h2,rfl⟩];simp[h1,h2]
   |false=>rw[bH (λh=>by cases h.2.2)];simp
  .rw[bH (λh=>h2 h.2.1)];simp[h2]
 .rw[bH (λh=>h1 h.1)];simp[h1]
def Pj{id off n:Nat}{x:Value}{cs:List Value}:aOA H id off n x cs boxMeta=if x.cells.size=n/\off+n<=cs.length/\x.cells.toList.all one=true then some (H.put id (.cells (eA cs off x.cells.toList) boxMeta))else none:=Uh rfl rfl
def Ph{id off n z:Nat}{x:Value}{cs:List Value}:aOA H id off n x cs (cS z)=if x.cells.size=n/\off+n<=cs.length/\x.cells.toList.all one=true then some (H.put id (.cells (eA cs off x.cells.toList) (cS z)))else none:=Uh rfl rfl
def Bv(P:Program)(e:TypeId):Option (Nat×Nat×Value):=(P.info? e).bind λi=>i.zero.map λv=>(i.size,i.bytes,v)
def IZ{e:TypeId}{z b:Nat}{v:Value}(h:Bv P e=some (z,b,v)): ∃i,P.info? e=some i/\i.size=z/\i.bytes=b/\i.zero=some v:=by
 unfold Bv at h;rw[Option.bind_eq_some_iff]at h;obtain⟨i,h1,h2⟩:=h;rw[aF]at h2;obtain⟨u,h3,h4⟩:=h2;cases h4;exact⟨i,h1,rfl,rfl,h3⟩
def MH{t e:TypeId}{z b:Nat}{zv:Value}{u:TypeDesc}{t1:TypeId}{id':Nat}{as:Array Operand}{s x:Value}{n:Nat}{xs:List Value}(ht:P.underlying t=some (.slice e))(hu:P.underlying t1=some u)(hi:Bv P e=some (z,b,zv))
    (hf:BJ u x=true) (hs:kO H z x=some (n,xs)) (h1:xs.all one=true) (hz:1<=z) (hb:1<=b) (qy:zv.cells.size=z) (cr:eT s=true) (hn:n≠0):
    fS P H id' ⟨.builtin .append,as, #[t,t1]⟩ s x=gX H id' z b n xs s:=by
 obtain⟨i,e1,e2,e3,e4⟩:=IZ hi;subst e2;subst e3;simp[fS,ht,hu,hf,e1,hs,e4,h1,qX,hz,hb,cQ,qy,cr,hn]
def Fr(H:St):Prop:= ∀g,H.next<=g->H.ver g=0
structure EXn(n:Nat)(H H':St):Prop where
 next:H.next<=H'.next
 get: ∀id,id<n->H'.get id=H.get id
 row: ∀id,id<n->H'.row id=H.row id
 fr:Fr H->Fr H'
 ver: ∀g,g<n->H'.ver g=H.ver g
def EXn.refl(n:Nat)(H:St):EXn n H H:=⟨aS _,λ_ _=>rfl,λ_ _=>rfl,id,λ_ _=>rfl⟩
def EXn.trans{n:Nat}{a b c:St}(h:EXn n a b)(k:EXn n b c):EXn n a c:=⟨Nat.le_trans h.next k.next,λid hi=>(k.get id hi).trans (h.get id hi),λid hi=>(k.row id hi).trans (h.row id hi),λhf=>k.fr (h.fr hf),λg hg=>(k.ver g hg).trans (h.ver g hg)⟩
def EXn.weak{n m:Nat}{a b:St}(h:EXn n a b)(hm:m<=n):EXn m a b:=⟨h.next,λid hi=>h.get id (by omega),λid hi=>h.row id (by omega),h.fr,λg hg=>h.ver g (by omega)⟩
def EXn.more{n:Nat}{a H:St}(h:EXn n a H)(k:Nat):EXn n a (H.more k):=⟨by have:=h.next;rw[sT];omega,h.get,h.row,λhf g hg=>by rw[Ua];exact h.fr hf g (by rw[sT]at hg;omega),h.ver⟩
def EXn.put{n:Nat}{a H:St}(h:EXn n a H){id:Nat}(hid:n<=id)(ob:AObj):EXn n a (H.put id ob):=by
 refine⟨h.next,λk hk=>?_,λk hk=>?_,h.fr,h.ver⟩
 .rw[St.get_put,bH (by omega)];exact h.get k hk
 .have e:(H.put id ob).row k=H.row k:=by
   unfold St.row;rw[St.get_put,bH (by omega)];rfl
  rw[e];exact h.row k hk
abbrev EX(H H':St):Prop:=EXn H.next H H'
def EX.refl(H:St):EX H H:=EXn.refl _ H
def EX.trans{a b c:St}(h:EX a b)(k:EX b c):EX a c:=EXn.trans h (k.weak h.next)
end
end Go.AI
namespace Go.AI
mutual
def lA: ∀(a:Value),fB a a=true
 | .bool a| .int j a| .float j a| .complex j a c| .pointer a| .slice a l c| .map a| .chan a| .nilFunc| .nilIface=>by simp[fB]
 | .string a=>by simp[fB]
 | .func f ⟨xs⟩ ⟨ys⟩=>by simp[fB,lB xs,lB ys]
 | .iface t v=>by simp[fB,lA v]
 | .agg ⟨xs⟩=>by simp[fB,lB xs]
 | .tuple ⟨xs⟩=>by simp[fB,lB xs]
def lB: ∀(a:List Value),oY a a=true
 |[]=>by simp[oY]
 |x::xs=>by simp[oY,lA x,lB xs]
end
def AZ: ∀(a:List (Value×Value)),vH a a=true
 |[]=>by simp[vH]
 |x::xs=>by simp[vH,lA,AZ xs]
def CT(m:mX):rL m m=true:=by simp[rL,cQ]
def vG(a:AObj):nU a a=true:=by
 cases a with
 |cells cs m=>simp[nU,lB,CT]
 |map es=>simp[nU,AZ]
end Go.AI
