import Derived.Test.YtdjaoblfbbcpdaaGreatDoorKd
set_option linter.unusedVariables false
set_option linter.unusedSimpArgs false
set_option linter.constructorNameAsVariable false
set_option linter.defProp false
namespace Go.PI
open Go.AI
def qP:PC->Prop
 | .region _ ops draw ms sc=>if draw then ms=eD ops.toList []/\gJ sc=pX ops ms else gJ sc=List.range ops.size
 | .seq a b=>qP a/\qP b
 | .cond _ a b=>qP a/\qP b
 | .block _ c=>qP c
 | .loop c=>qP c
 | .scope c=>qP c
 | .drop _ c=>qP c
 | .ice _ c=>qP c
 |_=>True
def Dt{ops:Array Oper}{ms:List Nat}: ∀{l done:List Nat},OA ops ms l done=true->l.Nodup/\(∀i∈l,i<ops.size/\i∉done):=by
 intro l;induction l with
 |nil=>intro done _;exact⟨List.nodup_nil,λi hi=>by simp at hi⟩
 |cons i l ih=>
  intro done h;simp only[OA,aC]at h;obtain⟨⟨⟨⟨h1,h2⟩,h3⟩,h4⟩,h5⟩:=h;obtain⟨h6,h7⟩:=ih h5;have hi:i<ops.size:=by rw[gW]at h1;simpa using h1
  have hd:i∉done:=by simpa using h2
  refine⟨List.nodup_cons.2 ⟨λhh=>(h7 i hh).2 (aH ..),h6⟩,λj hj=>?_⟩
  rcases List.mem_cons.1 hj with rfl|hj
  .exact⟨hi,hd⟩
  .exact⟨(h7 j hj).1,λhh=>(h7 j hj).2 (aG _ hh)⟩
section
variable{P:Program}{J J' J'':Nu}{I I1 I':Ga}{H H':St}{S:PS}{A:Slots}
def Gb{ops:Array Oper}(h:Da ops=true):(pX ops (eD ops.toList [])).Nodup/\∀i∈pX ops (eD ops.toList []),i<ops.size/\i∉([]:List Nat):=by
 unfold Da at h;split at h
 .simp only[Ee,aC]at h;exact Dt h.1
 .rename_i tw htw;unfold RT at h;split at h
  .cases h
  rename_i x y rt;simp only[aC]at h;obtain⟨⟨⟨_,hD1⟩,_⟩,_⟩:=h;have xr:pX ops (eD ops.toList [])=((oD ops (eD ops.toList [])).filter λi=>Nat.blt i x)++x::(((oD ops (eD ops.toList [])).filter λi=>Nat.blt x i&& !Nat.beq i y)++ [y]):=by
   unfold pX aXV;rw[htw,rt]
  rw[xr];simp only[sH,aC]at hD1;obtain⟨q1,q2⟩:=Dt hD1.1;have hp:(((oD ops (eD ops.toList [])).filter λi=>Nat.blt i x)++((oD ops (eD ops.toList [])).filter λi=>Nat.blt x i&& !Nat.beq i y)++ [x,y]).Perm (((oD ops (eD ops.toList [])).filter λi=>Nat.blt i x)++x::(((oD ops (eD ops.toList [])).filter λi=>Nat.blt x i&& !Nat.beq i y)++ [y])):=by
   rw[aQ];exact(List.perm_middle).append_left _
  refine⟨hp.nodup_iff.1 q1,λi hi=>?_⟩
  have:=q2 i (hp.mem_iff.2 hi);rw[kS]at this;exact this
def aAz{ops:Array Oper}{o:Option (PS×PSt)}{r:PS×PSt}(h:aEU ops o=some r):o=some r/\Ec ops r.1 r.2=true:=by
 unfold aEU at h;split at h
 .rename_i r';cases hb:Ec ops r'.1 r'.2 with
  |true=>rw[hb,aI]at h;cases h;exact⟨rfl,hb⟩
  |false=>rw[hb]at h;cases h
 .cases h
def aKN{ops:Array Oper}{p:PSt}(M:Mem J I p H)(F:FR J I H S A)(h:Ec ops S p=true):RU ops A H=true:=by
 unfold Ec at h;unfold RU;split at h
 .rename_i e;rw[e]
 .rename_i s t e;rw[e];simp only;have r1:=(F s).1;have r2:=(F t).1;split at h
  .rename_i es i off id o2 e1 e2;rw[e1]at r1;rw[e2]at r2;split at h
   .rename_i cs hg;obtain⟨a,us,n1,n2,_⟩:=M.get _ _ hg;show(match A.at s,A.at t with
     | .pointer (some ⟨i,_,none⟩),.pointer (some ⟨j,_,none⟩)=> !Nat.beq i j&&(match H.get j with|some (.cells _ m)=>m.grp.isNone|_=>false)
     |_,_=>false)=true
    generalize A.at s=u1 at*;generalize A.at t=u2 at*;cases r1 with
    |pin z _ _ _ bv base rcs m hs hr hb h=>
     cases r2 with
     |ptr _ _ a' hν=>
      rw[hν]at n1;simp only[aA]at n1;subst n1;have:bv≠a':=λe=>hr.2 _ (e▸hν)
      simp only[cR,bG this,n2,boxMeta,Option.isNone_none,Bool.not_false,Bool.and_self]
     |ptr0 _ _ a' hν=>rw[hν]at n1;cases n1
   .cases h
  .cases h
 .cases h
def BG(n:Nat):Keep J kJ H {H with next:=H.next+n}:=⟨rfl,Nat.le_add_right _ _,λ_ h=>h,λa _ cs m h=>⟨m.tip,h,λh=>h,λ_=>rfl⟩⟩
def Mem.more{p:PSt}(M:Mem J I p H)(n:Nat):Mem J I p {H with next:=H.next+n}:=
 ⟨M.le,λid a h=>Nat.lt_of_lt_of_le (M.lt id a h) (Nat.le_add_right _ _),M.inj,M.live,λid o h=>(M.get id o h).keep (I1:=kJ) (BG n) (.refl H J) rfl (λ_ _=>rfl) λi off hi _=>⟨rfl,hi⟩,
  λa ha=>M.free a (Nat.le_trans (Nat.le_add_right _ _) ha),M.ver⟩
def FR.more(F:FR J I H S A)(n:Nat):FR J I {H with next:=H.next+n} S A:=F.keep (I1:=kJ) (BG n) (.refl H J) λi t hi _=>⟨rfl,hi⟩
def Adv.more{p:PSt}(n:Nat):Adv J I p H J I p {H with next:=H.next+n}:=⟨(BG n).weak λ_ _=>rfl,.refl H J,.refl H I,.refl p,λa cs m h=>⟨cs,m.tip,h⟩,λ_ _ h _=>⟨rfl,h⟩⟩
def Mem.cln{p:PSt}(M:Mem J I p H):Mem J I (PI.cln p) H:=⟨M.le,M.lt,M.inj,M.live,M.get,M.free,M.ver⟩
def Mem.dty{p':PSt}(M:Mem J I p' H)(p:PSt):Mem J I (PI.dty p p') H:=⟨M.le,M.lt,M.inj,M.live,M.get,M.free,M.ver⟩
def Adv.dty{p p':PSt}(h:Adv J I (PI.cln p) H J' I' p' H'):Adv J I p H J' I' (PI.dty p p') H':=
 ⟨h.keep,h.mon,h.out,⟨h.dp.next,λid hi=>h.dp.dirty id hi,λid hi=>fE.2 (.inr hi),λk hk hd=>h.dp.mem k hk hd⟩,h.rz,λid a hi hd=>h.bx id a hi λhh=>hd (fE.2 (.inl hh))⟩
def Rm{pc:gT}{ac:FuncId->Array Value->St->Option (Value×St)}(bj:lP pc ac){α id:Nat}{ops:Array Oper}{draw:Bool}{ms:List Nat}{sc:List Bl}{p p':PSt}{S':PS}
    (bw:fD P α (.region id ops draw)=true) (dw:qP (.region id ops draw ms sc)) (M:Mem J I p H) (F:FR J I H S A)
    (h:(bif draw then(aEU ops (kL P pc ops ms sc [] S (cln p))).map (λr=>(r.1,dty p r.2))else xX P pc ops sc S p)=some (S',p')):
    ∃A' H' J' I',iO P ac ops draw A H=some (A',H')/\Mem J' I' p' H'/\FR J' I' H' S' A'/\Adv J I p H J' I' p' H'/\(∀j,j<H.next->H.get j=none->H'.get j=none):=by
 simp only[fD,aC,bJ,Bool.or_eq_true,Bool.not_eq_true']at bw;obtain⟨dq,hdr⟩:=bw;have vk: ∀o∈ops.toList,o.op.operands.all (cG P)=true:=λo ho=>by
  have:=dq o ho;simp only[lB,aC]at this;exact this.2
 unfold iO;cases draw with
 |false=>
  simp only[aJ]at h⊢;simp only[qP]at dw;obtain⟨A',H',J',I',h1,h2,h3,h4,h5⟩:=aKk bj (base:=H.next) vk sc 0 J I S p A {H with next:=H.next+ops.size} S' p' (by simpa [List.range_eq_range']using dw) (Nat.zero_le _) (aS _)
   (λj _ hj=>M.free _ (Nat.le_add_right _ _)) (M.more _) (F.more _) h
  exact⟨A',H',J',I',h1,h2,h3,(Adv.more _).trans h4,λj hj hn=>h5 j hj hn⟩
 |true=>
  simp only[aI]at h⊢;simp only[qP,if_true]at dw;obtain⟨rfl,dw⟩:=dw;have hD:=hdr.resolve_left (by simp)
  obtain⟨gl,bi⟩:=Gb hD;simp only[aF,aB]at h;obtain⟨⟨S2,p2⟩,h,rfl,rfl⟩:=h;obtain⟨h,htw⟩:=aAz h;obtain⟨A',H',J',I',h1,h2,h3,h4,h5⟩:=aCf bj (base:=H.next) vk sc [] [] J I S (cln p) A {H with next:=H.next+ops.size} S2 p2 (by rw[dw];exact gl)
   (λj hj=>⟨(bi j (by rw[<-dw];exact hj)).1,M.free _ (Nat.le_add_right _ _)⟩) (aS _) (λr hr=>by simp at hr) (M.cln.more _) (F.more _) h
  rw[dw]at h1;refine⟨A',H',J',I',?_,h2.dty p,h3,(Adv.more _).trans h4.dty,λj hj hn=>h5 j hj hn⟩
  rw[h1];simp only[Xx,aKN h2 h3 htw,aI]
def a2v(P:Program)(ac:FuncId->Array Value->St->Option (Value×St))(L:Nat)(run:PS->PSt->Option (Fl×PS×PSt))(tu:Slots->St->Option (Fl×Slots×St)):Prop:=
 ∀(J:Nu) (I:Ga) (S:PS) (p:PSt) (A:Slots) (H:St) (fl:Fl) (S':PS) (p':PSt),Mem J I p H->FR J I H S A->run S p=some (fl,S',p')->
  ∃A' H' J' I',tu A H=some (fl,A',H')/\Mem J' I' p' H'/\FR J' I' H' S' A'/\Adv J I p H J' I' p' H'/\(∀j,j<H.next->H.get j=none->H'.get j=none)
def aEc{ac:FuncId->Array Value->St->Option (Value×St)}{L:Nat}{run:PS->PSt->Option (Fl×PS×PSt)}{tu:Slots->St->Option (Fl×Slots×St)}(h:a2v P ac L run tu): ∀n,a2v P ac L (AG run n) (R8 tu n):=by
 intro n;induction n with
 |zero=>intro J I S p A H fl S' p' M F hr;simp only[AG]at hr;cases hr
 |succ n ih=>
  intro J I S p A H fl S' p' M F hr;simp only[AG]at hr;simp only[R8];cases hb:run S p with
  |none=>rw[hb]at hr;cases hr
  |some r=>
   obtain⟨f1,S1,p1⟩:=r;rw[hb]at hr;obtain⟨A1,H1,J1,I1,k1,k2,k3,k4,k5⟩:=h J I S p A H f1 S1 p1 M F hb;rw[k1];cases f1 with
   |normal=>
    simp only at hr⊢;obtain⟨A',H',J',I',j1,j2,j3,j4,j5⟩:=ih J1 I1 S1 p1 A1 H1 fl S' p' k2 k3 hr;exact⟨A',H',J',I',j1,j2,j3,k4.trans j4,λj hj hn=>j5 j (Nat.lt_of_lt_of_le hj k4.keep.next) (k5 j hj hn)⟩
   |exit m=>
    simp only[aA,aB]at hr;obtain⟨rfl,rfl,rfl⟩:=hr;exact⟨A1,H1,J1,I1,rfl,k2,k3,k4,k5⟩
   |ret=>
    simp only[aA,aB]at hr;obtain⟨rfl,rfl,rfl⟩:=hr;exact⟨A1,H1,J1,I1,rfl,k2,k3,k4,k5⟩
def aE4{pc:gT}{ac:FuncId->Array Value->St->Option (Value×St)}(bj:lP pc ac)(L α:Nat): ∀(c:PC),qP c->fD P α (eM c)=true->a2v P ac L (eV P pc L c) (cJ P ac L (eM c)):=by
 intro c;induction c with
 |skip=>
  intro _ _ J I S p A H fl S' p' M F h;simp only[eV,aA,aB]at h;obtain⟨rfl,rfl,rfl⟩:=h;exact⟨A,H,J,I,rfl,M,F,.refl J I _ H,λj _ h=>h⟩
 |label l=>
  intro _ _ J I S p A H fl S' p' M F h;simp only[eV,aA,aB]at h;obtain⟨rfl,rfl,rfl⟩:=h;exact⟨A,H,J,I,rfl,M,F,.refl J I _ H,λj _ h=>h⟩
 |region id ops draw ms sc=>
  intro hk bw J I S p A H fl S' p' M F h;simp only[eV,aF,aB]at h;obtain⟨⟨S1,p1⟩,hr,rfl,rfl,rfl⟩:=h;obtain⟨A',H',J',I',h1,h2,h3,h4,h5⟩:=Rm bj bw hk M F hr;exact⟨A',H',J',I',by simp only[eM,cJ,h1];rfl,h2,h3,h4,h5⟩
 |seq a b ff jp=>
  intro hk bw J I S p A H fl S' p' M F h;simp only[eM,fD,aC]at bw;simp only[eV]at h;simp only[eM,cJ];cases hb:eV P pc L a S p with
  |none=>rw[hb]at h;cases h
  |some r=>
   obtain⟨f1,S1,p1⟩:=r;rw[hb]at h;obtain⟨A1,H1,J1,I1,k1,k2,k3,k4,k5⟩:=ff hk.1 bw.1 J I S p A H f1 S1 p1 M F hb;rw[k1];cases f1 with
   |normal=>
    simp only at h⊢;obtain⟨A',H',J',I',j1,j2,j3,j4,j5⟩:=jp hk.2 bw.2 J1 I1 S1 p1 A1 H1 fl S' p' k2 k3 h;exact⟨A',H',J',I',j1,j2,j3,k4.trans j4,λj hj hn=>j5 j (Nat.lt_of_lt_of_le hj k4.keep.next) (k5 j hj hn)⟩
   |exit m=>
    simp only[aA,aB]at h;obtain⟨rfl,rfl,rfl⟩:=h;exact⟨A1,H1,J1,I1,rfl,k2,k3,k4,k5⟩
   |ret=>
    simp only[aA,aB]at h;obtain⟨rfl,rfl,rfl⟩:=h;exact⟨A1,H1,J1,I1,rfl,k2,k3,k4,k5⟩
 |cond x a b ff jp=>
  intro hk bw J I S p A H fl S' p' M F h;simp only[eM,fD,aC]at bw;simp only[eV]at h;have hx:=cX F bw.1.1;split at h
  .rename_i e;rw[e]at hx;obtain⟨A',H',J',I',k1,k2⟩:=ff hk.1 bw.1.2 J I S p A H fl S' p' M F h;refine⟨A',H',J',I',?_,k2⟩;simp only[eM,cJ];generalize ev A x=w at hx;cases hx;exact k1
  .rename_i e;rw[e]at hx;obtain⟨A',H',J',I',k1,k2⟩:=jp hk.2 bw.2 J I S p A H fl S' p' M F h;refine⟨A',H',J',I',?_,k2⟩;simp only[eM,cJ];generalize ev A x=w at hx;cases hx;exact k1
  .cases h
 |block id c ih=>
  intro hk bw J I S p A H fl S' p' M F h;simp only[eM,fD]at bw;simp only[eV]at h;simp only[eM,cJ];cases hb:eV P pc L c S p with
  |none=>rw[hb]at h;cases h
  |some r=>
   obtain⟨f1,S1,p1⟩:=r;rw[hb]at h;obtain⟨A1,H1,J1,I1,k1,k2,k3,k4,k5⟩:=ih hk bw J I S p A H f1 S1 p1 M F hb;rw[k1];cases f1 with
   |normal=>
    simp only[aA,aB]at h;obtain⟨rfl,rfl,rfl⟩:=h;exact⟨A1,H1,J1,I1,rfl,k2,k3,k4,k5⟩
   |exit m=>
    simp only at h⊢;cases he:Nat.beq m id with
    |true=>
     simp only[he,aI,aA,aB]at h⊢;obtain⟨rfl,rfl,rfl⟩:=h;exact⟨A1,H1,J1,I1,⟨rfl,rfl,rfl⟩,k2,k3,k4,k5⟩
    |false=>
     simp only[he,aJ,aA,aB]at h⊢;obtain⟨rfl,rfl,rfl⟩:=h;exact⟨A1,H1,J1,I1,⟨rfl,rfl,rfl⟩,k2,k3,k4,k5⟩
   |ret=>
    simp only[aA,aB]at h;obtain⟨rfl,rfl,rfl⟩:=h;exact⟨A1,H1,J1,I1,rfl,k2,k3,k4,k5⟩
 |loop c ih=>
  intro hk bw;simp only[eM,fD]at bw;exact aEc (ih hk bw) L
 |exit id=>
  intro _ _ J I S p A H fl S' p' M F h;simp only[eV,aA,aB]at h;obtain⟨rfl,rfl,rfl⟩:=h;exact⟨A,H,J,I,rfl,M,F,.refl J I _ H,λj _ h=>h⟩
 |ret=>
  intro _ _ J I S p A H fl S' p' M F h;simp only[eV,aA,aB]at h;obtain⟨rfl,rfl,rfl⟩:=h;exact⟨A,H,J,I,rfl,M,F,.refl J I _ H,λj _ h=>h⟩
 |scope c ih=>
  intro hk bw;simp only[eM,fD]at bw;exact ih hk bw
 |other c=>intro _ _ J I S p A H fl S' p' M F h;simp only[eV]at h;cases h
 |drop ts c ih=>
  intro hk bw J I S p A H fl S' p' M F h;simp only[eV]at h;exact ih hk bw J I _ p A H fl S' p' M (F.keeps ts) h
 |ice t c ih=>
  intro hk bw J I S p A H fl S' p' M F h;simp only[eV]at h;split at h
  .rename_i S1 p1 h1;obtain⟨J1,M1,F1,A1⟩:=zK M F h1;obtain⟨A',H',J',I',k1,k2,k3,k4,k5⟩:=ih hk bw J1 I S1 p1 A H fl S' p' M1 F1 h;exact⟨A',H',J',I',k1,k2,k3,A1.trans k4,k5⟩
  .cases h
def P5: ∀(l:List (PV×Bool)) (i:Nat) (S:PS) (k:Nat),(AU l i S).at k=if i<=k/\k<i+l.length then(l[k-i]?).getD (.und,false)else S.at k:=by
 intro l;induction l with
 |nil=>intro i S k;simp[AU];omega
 |cons x l ih=>
  intro i S k;simp only[AU,ih,qJ,aM];by_cases h:k=i
  .subst h;simp;omega
  .by_cases h2:i+1<=k/\k<i+1+l.length
   .rw[bI h2,bI (by omega),show k-i=(k-(i+1))+1 by omega,aT]
   .rw[bH h2,bH h,bH (by omega)]
def FR.fill{args:List (PV×Bool)}{us:List Value}(r:RL J H (args.map (·.1)) us)(ho: ∀(i:Nat) (x:PV) (w:Value),args[i]?=some (x,true)->us[i]?=some w->Ow J I H (.slot i) x w):FR J I H (AU args 0 .none) (mB us 0 .nil):=by
 intro t;rw[P5,EN];have hl:args.length=us.length:=by have:=r.1;simpa using this
 by_cases h:0<=t/\t<0+args.length
 .rw[bI h,bI (by rw[<-hl];exact h)]
  have h1:args[t]?=some (args[t]'(by omega)):=aV _
  obtain⟨u,h2,h3⟩:=r.get (i:=t) (x:=(args[t]'(by omega)).1) (by rw[List.getElem?_map,h1];rfl)
  simp only[Nat.sub_zero,h1,h2,Option.getD_some];refine⟨h3,λhb=>ho t _ u ?_ h2⟩
  rw[h1,<-hb]
 .rw[bH h];exact⟨.und _,λh=>(by cases h)⟩
def Pc{p:PSt}(M:Mem J I p H)(F:FR J I H S A): ∀(l:List ResultVar) (vs:List (PV×Bool)),gN P S p l=some vs->∃us,fQ P A H l=some us/\RL J H (vs.map (·.1)) us:=by
 intro l;induction l with
 |nil=>intro vs h;simp only[gN,aA]at h;subst h;exact⟨[],rfl,.nil⟩
 |cons r l ih=>
  intro vs h;simp only[gN]at h;split at h
  .rename_i v qo hv ki;simp only[aA]at h;subst h;obtain⟨us,h1,h2⟩:=ih qo ki;have: ∃u,Bu P A H r=some u/\R J H v.1 u:=by
    cases r with
    |tmp t=>simp only[sD,aA]at hv;subst hv;exact⟨_,rfl,(F t).1⟩
    |cell a t=>
     simp only[sD,aF]at hv;obtain⟨v',hl,rfl⟩:=hv;exact D3 M (F a).1 hl
   obtain⟨u,h3,h4⟩:=this;exact⟨u::us,by simp only[fQ,h3,h1],.cons h4 h2⟩
  .cases h
def aEV{p:PSt}(M:Mem J I p H)(F:FR J I H S A){r:ResultVar}{l:List ResultVar}{v:PV×Bool}{vs:List (PV×Bool)}(h:gN P S p (r::l)=some (v::vs)){u:Value}{us:List Value}(h1:fQ P A H (r::l)=some (u::us))(h3:R J H v.1 u):
    ∃I',(((v.2||kM v.1)&& !JU v.1)=true->Ow J I' H .hand (wk v.1) u)/\G2 I I':=by
 cases r with
 |tmp t=>
  have hv:v=S.at t:=by
   simp only[gN,sD]at h;split at h
   .rename_i v' qo e1 e2;simp only[aA,List.cons.injEq]at h e1;rw[<-h.1,<-e1]
   .cases h
  have hu:u=A.at t:=by
   simp only[fQ,Bu]at h1;split at h1
   .rename_i v' qo e1 e2;simp only[aA,List.cons.injEq]at h1 e1;rw[<-h1.1,<-e1]
   .cases h1
  refine⟨PI.mv (.slot t) .hand I,λho=>?_,.mv (by simp) (by simp)⟩
  simp only[aC]at ho;subst hv;subst hu;have how:Ow J (PI.mv (.slot t) .hand I) H .hand (S.at t).1 (A.at t):=by
   cases hs:(S.at t).2 with
   |true=>exact((F t).2 hs).mv (k':= .hand)
   |false=>
    rw[hs,Bool.false_or]at ho;have h5:=(F t).1;cases hx:(S.at t).1 with
    |nil=>rw[hx]at h5;generalize A.at t=w at h5⊢;cases h5;exact .nil _
    |_=>rw[hx]at ho;cases ho.1
  exact how.wk (by simpa using ho.2)
 |cell a t=>
  refine⟨I,λho=>?_,.refl I⟩
  simp only[gN,sD]at h;split at h
  .rename_i v' qo e1 e2;simp only[aA,List.cons.injEq]at h;simp only[aF]at e1;obtain⟨v2,_,rfl⟩:=e1;simp only[<-h.1,Bool.false_or,aC]at ho⊢;rw[<-h.1]at h3;cases v2 with
   |nil=>cases h3;exact .nil _
   |_=>cases ho.1
  .cases h
def SX{p:PSt}(M:Mem J I p H)(F:FR J I H S A){l:List ResultVar}{vs:List (PV×Bool)}(h:gN P S p l=some vs):
    ∃us I',fQ P A H l=some us/\R J H (eH vs).1 (vR us)/\((eH vs).2=true->Ow J I' H .hand (eH vs).1 (vR us))/\G2 I I':=by
 obtain⟨us,h1,h2⟩:=Pc M F l vs h;cases vs with
 |nil=>
  have:=h2.nil_inv;subst this;exact⟨[],I,h1,.mkTup .nil,λh=>(by cases h),.refl I⟩
 |cons v vs=>
  cases l with
  |nil=>simp[gN]at h
  |cons r l=>
   obtain⟨u,jo,rfl,h3,h4⟩:=h2.cons_inv;obtain⟨I',g1,g2⟩:=aEV M F h h1 h3;cases vs with
   |nil=>
    have:=h4.nil_inv;subst this;exact⟨[u],I',h1,h3.wk,g1,g2⟩
   |cons v2 vs=>
    obtain⟨u2,us'',rfl,h5,h6⟩:=h4.cons_inv;refine⟨_,I',h1,.mkTup h2.wks,λh=>?_,g2⟩
    simp only[eH]at h;rw[aC]at h;refine .tup _ _ u _ ?_ (g1 h.1);have h5:=h.2;show(wk v.1).one=true;generalize v.1=x at h5⊢;cases x with
    |sl z es=>cases es<;>rfl
    |emp=>rfl
    |nil=>rfl
    |_=>cases h5
end
end Go.PI
namespace Go.PI
open Go.AI
def a31:List Nat->List Nat->List Nat
 |[],l=>l
 |x::xs,l=>bif l.contains x then a31 xs l else x::a31 xs l
def del(l:List Nat)(k:List Nat):List Nat:=l.filter λx=> !k.contains x
def aOd:Operand->List Nat
 | .tmp t=>[t]
 |_=>[]
def aRj(ops:Array Oper)(o:Oper):List Nat:=
 o.op.operands.toList.flatMap aOd++(match o.guard with|some (j,_)=>(match ops[j]? with|some q=>q.dst.toList|none=>[])|none=>[])
def Xo(ops:Array Oper):List Oper->List Nat->List Nat
 |[],out=>out
 |o::os,out=>a31 (aRj ops o) (del (Xo ops os out) o.dst.toList)
def lv(rs:List Nat):Code->List Nat->List (Nat×List Nat)->List Nat
 | .region _ ops _,out,_=>Xo ops ops.toList out
 | .seq a b,out,ex=>lv rs a (lv rs b out ex) ex
 | .cond c a b,out,ex=>a31 (aOd c) (a31 (lv rs a out ex) (lv rs b out ex))
 | .block id c,out,ex=>lv rs c out ((id,out)::ex)
 | .loop c,_,ex=>lv rs c [] ex
 | .exit id,_,ex=>match ex.find? λe=>Nat.beq e.1 id with|some e=>e.2|none=>[]
 | .ret,_,_=>rs
 | .scope c,out,ex=>lv rs c out ex
 |_,out,_=>out
def aOK(ops:Array Oper)(a i s:Nat):Bool:=
 match ops[a]?,ops[i]?,ops[s]? with
 |some oA,some oI,some oS=>
  match oA.op,oA.dst,oI.op,oI.dst,oS.op with
  | .call c,some d,.indexAddr _ (.tmp d') _,some b,.store _ (.tmp b') _=>oU oA&&Nat.beq d d'&&Nat.beq b b'
  |_,_,_,_,_=>false
 |_,_,_=>false
end Go.PI
namespace Go.PI
open Go.AI
section
variable{P:Program}{J J' J'':Nu}{I I1 I':Ga}{H H':St}{S:PS}{A:Slots}
def bDn:OV->PV
 | .s l=> .str l
 | .t=> .v (.bool true)
def aKJ(O:Fs)(f:FuncId)(args:List (PV×Bool)):Option OV:=
 bif Nat.beq f O.n then(match args with
 |[(.v (.int .i64 a),_),(.v (.int .i64 b),_)]=>(O.s a b).map .s
 |_=>none)else bif Nat.beq f O.m then(match args with
 |[]=>some .t
 |_=>none)else none
def aOS(O:Fs)(f:FuncId)(args:List (PV×Bool)):Bool:=
 bif Nat.beq f O.n then(match args with
 |[(.v (.int .i64 a),_),(.v (.int .i64 b),_)]=>true
 |_=>false)else bif Nat.beq f O.m then(match args with
 |[]=>true
 |_=>false)else true
variable(P) in
def DC(pc:gT)(L:Nat)(c:PC)(rs:List ResultVar)(args:List (PV×Bool))(p:PSt):Option (PV×Bool×PSt):=match eV P pc L c (AU args 0 .none) (a2X p)with
 |some (.exit _,_,_)=>none
 |some (_,S,p')=>match gN P S p' rs with
  |some vs=>some ((eH vs).1,(eH vs).2,settle p (eH vs).1 p')
  |none=>none
 |none=>none
variable(P) in
def pC(O:Fs)(G:aHr)(L:Nat):Nat->gT
 |0,_,_,_=>none
 |n+1,f,args,p=>match aKJ O f args with
  |some s=>some (bDn s,false,p)
  |none=>bif !aOS O f args|| !BY P f args.length then none else match G f with
   |some (c,rs)=>DC P (pC O G L n) L c rs args p
   |none=>none
def R.int_inv{x:Int}{k:IntKind}{u:Value}(h:R J H (.v (.int k x)) u):u= .int k x:=by cases h;rfl
def aDw{O:Fs}{f:FuncId}{args:List (PV×Bool)}{us:Array Value}(r:RL J H (args.map (·.1)) us.toList)(h:aOS O f args=true):a23 O f us=(aKJ O f args).map OV.v:=by
 unfold aOS at h;unfold a23 aKJ;cases hf:Nat.beq f O.n with
 |false=>
  rw[hf,aJ]at h;simp only[aJ];cases hm:Nat.beq f O.m with
  |false=>rfl
  |true=>
   rw[hm,aI]at h;simp only[aI];split at h
   .obtain⟨hl,_⟩:=r
    match hu:us.toList,hl with
    |[],_=>rfl
   .cases h
 |true=>
  rw[hf,aI]at h;simp only[aI];split at h
  .rename_i a o1 b o2;obtain⟨hl,hr⟩:=r
   match hu:us.toList,hl,hr with
   |[u,v],_,hr=>
    have e1:=R.int_inv (hr 0 _ u rfl rfl);have e2:=R.int_inv (hr 1 _ v rfl rfl);rw[e1,e2]
  .cases h
def aZK{O:Fs}{f:FuncId}{args:List (PV×Bool)}{s:OV}(h:aKJ O f args=some s):aOS O f args=true:=by
 unfold aKJ at h;unfold aOS;cases hf:Nat.beq f O.n with
 |false=>
  rw[hf,aJ]at h;rw[aJ];cases hm:Nat.beq f O.m with
  |false=>rfl
  |true=>
   rw[hm,aI]at h;rw[aI];split at h
   .rfl
   .cases h
 |true=>
  rw[hf,aI]at h;rw[aI];split at h
  .rfl
  .cases h
def Mu(P C:Program)(G:aHr):Prop:=
 ∀f c rs,G f=some (c,rs)->∃fn,C.funcs[f]?=some fn/\fn.body=some (eM c)/\rs=fn.results.toList/\qP c/\fD P fn.ntmps (eM c)=true
def OD{pc:gT}{ac:FuncId->Array Value->St->Option (Value×St)}(ih:lP pc ac){L:Nat}{c:PC}{fn:Func}(h4:qP c)(h5:fD P fn.ntmps (eM c)=true){args:List (PV×Bool)}{p p':PSt}{v:PV}{own:Bool}
    (h:DC P pc L c fn.results.toList args p=some (v,own,p')) {J:Nu} {I:Ga} {H:St} {us:Array Value} (M:Mem J I p H) (r:RL J H (args.map (·.1)) us.toList)
    (ho: ∀(i:Nat) (x:PV) (w:Value),args[i]?=some (x,true)->us.toList[i]?=some w->Ow J I H (.slot i) x w):
    ∃u H' J' I',fL P fn (cJ P ac L (eM c) (mB us.toList 0 .nil) H)=some (u,H')/\R J' H' v u/\(own=true->Ow J' I' H' .hand v u)/\Mem J' I' p' H'/\Adv J I p H J' I' p' H'/\∀j,j<H.next->H.get j=none->H'.get j=none:=by
 unfold DC at h;have M0:Mem J I (a2X p) H:=⟨M.le,M.lt,M.inj,M.live,M.get,M.free,M.ver⟩;have key: ∀fl S' p1,eV P pc L c (AU args 0 .none) (a2X p)=some (fl,S',p1)->(∀k,fl≠ .exit k)->∀vs,gN P S' p1 fn.results.toList=some vs->
      v=(eH vs).1->own=(eH vs).2->p'=settle p (eH vs).1 p1->
      ∃u H' J' I',fL P fn (cJ P ac L (eM c) (mB us.toList 0 .nil) H)=some (u,H')/\R J' H' v u/\(own=true->Ow J' I' H' .hand v u)/\Mem J' I' p' H'/\Adv J I p H J' I' p' H'/\∀j,j<H.next->H.get j=none->H'.get j=none:=by
  intro fl S' p1 he bm vs ki hv kx fh;obtain⟨A',H1,J1,I1,k1,k2,k3,k4,k5⟩:=aE4 ih L fn.ntmps c h4 h5 J I _ _ (mB us.toList 0 .nil) H fl S' p1 M0 (FR.fill r ho) he;obtain⟨jo,I2,j1,j2,j3,j4⟩:=SX k2 k3 ki;obtain⟨J3,m1,m2,m3,m4⟩:=ZN (own:=(eH vs).2) M (k2.g2 j4) (k4.trans (.g j4.out)) j2 j3;rw[k1];subst hv;subst kx;subst fh;refine⟨vR jo,H1,J3,I2,?_,m1,m2,m3,m4,k5⟩;cases fl with
  |normal=>simp only[fL,j1];rfl
  |ret=>simp only[fL,j1];rfl
  |exit k=>exact absurd rfl (bm k)
 split at h
 .cases h
 .rename_i fl S' p1 bm he;split at h
  .rename_i vs ki;simp only[aA,aB]at h;exact key fl S' p1 he (λk e=>bm k e) vs ki h.1.symm h.2.1.symm h.2.2.symm
  .cases h
 .cases h
def G0{C:Program}{O:Fs}{G:aHr}(hw:O.w=none)(hG:Mu P C G)(L:Nat): ∀n,lP (pC P O G L n) (Bh P C O L n):=by
 intro n;induction n with
 |zero=>intro g args p v own p' h;simp only[pC]at h;cases h
 |succ n ih=>
  intro g args p v own p' h J I H us M r ho;simp only[pC]at h;split at h
  .rename_i s hs;simp only[aA,aB]at h;obtain⟨rfl,rfl,rfl⟩:=h;refine⟨s.v,H,J,I,by simp only[Bh,aDw r (aZK hs),hs,aK],(match s with| .s l=>R.str ⟨l.toArray⟩| .t=>R.v _ rfl),λh=>(by cases h),M,Adv.refl J I p H,λj _ h=>h⟩
  rename_i dn;cases qv:aOS O g args with
  |false=>rw[qv]at h;cases h
  |true=>
  rw[qv]at h;cases lg:BY P g args.length with
  |false=>rw[lg]at h;cases h
  |true=>
  rw[lg]at h;simp only[bD,Bool.or_self,aJ]at h;have hus:us.size=args.length:=by have:=r.1;simpa using this.symm
  have nc:a23 O g us=none:=by rw[aDw r qv,dn];rfl
  have hnw:bA7 O g us H=none:=by unfold bA7;rw[hw]
  split at h
  .rename_i c rs hg;obtain⟨fn,h1,h2,rfl,h4,h5⟩:=hG g c rs hg;simp only[Bh,nc,hnw,hus,lg,aI,h1,h2];exact OD ih h4 h5 h M r ho
  .cases h
end
end Go.PI
