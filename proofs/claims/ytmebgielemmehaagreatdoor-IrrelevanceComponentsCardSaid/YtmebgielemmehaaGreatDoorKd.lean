import Derived.Test.YtmebgielemmehaaGreatDoorKc
set_option linter.unusedVariables false
set_option linter.unusedSimpArgs false
set_option linter.constructorNameAsVariable false
set_option linter.defProp false
namespace Go.PI
open Go.AI
section
variable{P:Program}{J J':Nu}{I I1 I':Ga}{H H':St}{S:PS}{A:Slots}
def ObjR.keep{id:Nat}{o:jU}(h:ObjR J I H id o)(kp:Keep J I1 H H')(hm:Mon H J J')(hν:J' id=J id)(bc: ∀a,J id=some (some a)->H'.get a=H.get a)
    (hγ: ∀i off,I i=some (.cell id off)->H.get i≠none->I1 i=some .out/\I' i=some (.cell id off)):ObjR J' I' H' id o:=by
 cases o with
 |box cs=>
  obtain⟨a,us,h1,h2,h3,h4⟩:=h;refine⟨a,us,by rw[hν,h1],by rw[bc a h1,h2],h3,λi x b u hx hu=>?_⟩
  obtain⟨h5,h6,h7⟩:=h4 i x b u hx hu;exact⟨h5.keep kp hm,h6,λhb=>(h7 hb).keep kp hm λj hj hn=>hγ j i hj hn⟩
 |row z ag cs=>
  obtain⟨a,us,h1,h2,h3,h5,h4⟩:=h;exact⟨a,us,by rw[hν,h1],by rw[bc a h1,h2],h3,h5,λi x u hx hu=>(h4 i x u hx hu).keep kp hm⟩
 |map es=>exact h
 |gone=>show J' id=some none;rw[hν];exact h
def FR.keep(F:FR J I H S A)(kp:Keep J I1 H H')(hm:Mon H J J')(hγ: ∀i t,I i=some (.slot t)->H.get i≠none->I1 i=some .out/\I' i=some (.slot t)):FR J' I' H' S A:=
 λt=>⟨(F t).1.keep kp hm,λh=>((F t).2 h).keep kp hm λi hi hn=>hγ i t hi hn⟩
def FR.g(F:FR J I H S A)(hγ: ∀i t,I i=some (.slot t)->I' i=some (.slot t)):FR J I' H S A:=
 λt=>⟨(F t).1,λh=>((F t).2 h).weak λi hi=>hγ i t hi⟩
def Mem.upd{p:PSt}{id:Nat}{o o':jU}(M:Mem J I p H)(ho:p.get id=some o)(hn:ObjR J I' H id o')(hγ: ∀i j off,j≠id->I i=some (.cell j off)->I' i=some (.cell j off)):Mem J I' (p.upd id o') H:=by
 have hid:=LN ho;refine⟨M.le,M.lt,M.inj,λk a hk=>?_,λk ob hk=>?_,M.free,M.ver⟩
 .rw[kG hid];split
  .exact⟨_,rfl⟩
  .exact M.live k a hk
 .rw[kG hid]at hk;split at hk
  .rename_i e;subst e;simp only[aA]at hk;subst hk;exact hn
  .rename_i e;exact(M.get k ob hk).g2 λi off hi=>hγ i k off e hi
def Mem.mark{p:PSt}{id:Nat}{o o':jU}(M:Mem J I p H)(ho:p.get id=some o)(hn:ObjR J I' H id o')(hγ: ∀i j off,j≠id->I i=some (.cell j off)->I' i=some (.cell j off)):Mem J I' (p.mark id o') H:=by
 have M':=M.upd ho hn hγ;exact⟨M'.le,M'.lt,M'.inj,M'.live,M'.get,M'.free,M'.ver⟩
def Va{p:PSt}(M:Mem J I p H)(F:FR J I H S A){t:TypeId}{a v:PV}{w u:Value}(r:R J H a w)(h:jF P p t a=some v)(hs:Aa v=true)(hu:hY P H t w=some u):
    ∃I',Mem J I' (fK p a).1 H/\FR J I' H S A/\((fK p a).2=true->Ow J I' H .hand v u)/\GoOut H I I':=by
 have kf:(fK p a)=(p,false)->∃I',Mem J I' (fK p a).1 H/\FR J I' H S A/\((fK p a).2=true->Ow J I' H .hand v u)/\GoOut H I I':=by
  intro e;rw[e];exact⟨I,M,F,λh=>(by cases h),.refl H I⟩
 cases a with
 |ptr id off=>
  cases hg:p.get id with
  |none=>exact kf (by simp only[fK,hg])
  |some ob=>
   cases ob with
   |box cs=>
    cases hc:cs[off]? with
    |none=>exact kf (by simp only[fK,hg,hc])
    |some c=>
     obtain⟨x,b⟩:=c;cases b with
     |false=>exact kf (by simp only[fK,hg,hc])
     |true=>
      have hobj:=M.get id _ hg;obtain⟨a',us,h1,h2,h3,h4⟩:=hobj;have hw:w= .pointer (some ⟨a',off,none⟩):=by
       cases r with
       |ptr _ _ _ hν=>rw[h1]at hν;simp only[aA]at hν;subst hν;rfl
       |ptr0 _ _ _ hν=>rw[h1]at hν;cases hν
      subst hw;have hvx:v=x/\us[off]?=some u:=by
       simp only[jF,hg]at h;simp only[hY,row_of_get h2 rfl]at hu;unfold pA at h;split at h
       .split at h
        .rename_i n en;cases hb:Nat.beq (((cs.map (·.1)).drop off).take n).length n with
         |false=>rw[hb,aJ]at h;cases h
         |true=>rw[hb,aI]at h;simp only[aA]at h;subst h;cases hs
        .cases h
       .rename_i e;rw[e]at hu;simp only[List.getElem?_map,hc,aK,aA]at h;exact⟨h.symm,hu⟩
       .cases h
      obtain⟨rfl,hus⟩:=hvx;obtain⟨h5,h6,h7⟩:=h4 off v true u hc hus;have jp:off<cs.length:=by
       rcases Nat.lt_or_ge off cs.length with h'|h'
       .exact h'
       .simp[List.getElem?_eq_none h']at hc
      refine⟨PI.mv (.cell id off) .hand I,?_,?_,?_,?_⟩
      .simp only[fK,hg,hc];refine M.mark hg ⟨a',us,h1,h2,by simpa using h3,λi x b u' hx jx=>?_⟩ λi j o' hj hi=>?_
       .rw[List.getElem?_set]at hx;split at hx
        .rename_i e;subst e;simp only[aA,aB]at hx;obtain⟨rfl,rfl⟩:=hx;rw[hus]at jx;simp only[aA]at jx;subst jx;exact⟨h5,h6,λh=>(by cases h)⟩
        .rename_i e;obtain⟨h8,h9,h10⟩:=h4 i x b u' hx jx;exact⟨h8,h9,λhb=>(h10 hb).mv_ne (by simp;omega)⟩
       .simp only[PI.mv,hi];rw[bH (by simp;intro e;exact absurd e hj)]
      .exact F.g λi t hi=>by simp[PI.mv,hi]
      .intro _;exact(h7 rfl).mv
      .intro i _ hi;simp[PI.mv,hi]
   |_=>exact kf (by simp only[fK,hg])
 |_=>exact kf rfl
def Vb{p p':PSt}(M:Mem J I p H)(F:FR J I H S A){o:Oper}(ho:o.op.operands.all (cI P)=true){take own:Bool}{v:PV}(h:lJ P p S o take=some (v,own,p')):
    ∃u I',iV P H (ev A) o=some u/\R J H v u/\Mem J I' p' H/\FR J I' H S A/\(own=true->Ow J I' H .hand v u)/\GoOut H I I':=by
 replace ho:=rU ho
 obtain⟨dst,op,ty,pos,af,g⟩:=o;cases op with
 |load t a=>
  simp only[Op.operands,aP,List.all_nil,bE]at ho;have ra:=cU F ho;simp only[lJ]at h;simp only[iV];split at h
  .rename_i v' hv;obtain⟨u,hu,hr⟩:=Ba M ra hv;cases hc:take&&Aa v' with
   |false=>
    rw[hc,aJ]at h;simp only[aA,aB]at h;obtain⟨rfl,rfl,rfl⟩:=h;exact⟨u,I,hu,hr,M,F,λh=>(by cases h),.refl H I⟩
   |true=>
    rw[hc,aI]at h;simp only[aA,aB]at h;obtain⟨rfl,rfl,rfl⟩:=h;simp only[aC]at hc;obtain⟨I',h1,h2,h3,h4⟩:=Va M F ra hv hc.2 hu;exact⟨u,I',hu,hr,h1,h2,h3,h4⟩
  .cases h
 |slice t x lo hi mx=>
  simp only[Op.operands,Array.toList_append,List.all_append,aC]at ho;simp only[lJ,aF,aB]at h;obtain⟨⟨w,ff⟩,hw,rfl,rfl,rfl⟩:=h;have hl: ∀{y:Option Operand},y.toArray.toList.all (cI P)=true->OR J H (y.map (cP S)) (y.map (ev A)):=by
   intro y hy;cases y with
   |none=>trivial
   |some y=>exact cU F (by simpa using hy)
  obtain⟨y,h1,h2,h3⟩:=Ss M (cU F (P:=P) (by simpa using ho.1.1.1)) (hl ho.1.1.2) (hl ho.1.2) (hl ho.2) hw
  exact⟨y,I,h1,h2,M,F,h3,.refl H I⟩
 |_=>simp only[lJ]at h;cases h
def cA(H:St)(id k:Nat)(o:AObj):(H.put id o).get k=if k=id then some o else H.get k:=by
 simp only[St.get,St.put,Tr.get_set]
def jS:Ga:=λ_=>some .out
def Keep.put{id:Nat}{o:AObj}(h:H.get id=none):Keep J jS H (H.put id o):=by
 refine⟨rfl,aS _,λa ha=>?_,λa _ cs m hg=>⟨m.tip,?_,λh=>h,λ_=>rfl⟩⟩
 .rw[cA]at ha;split at ha
  .cases ha
  .exact ha
 .rw[cA,bH (by intro e;rw[e,h]at hg;cases hg)];exact hg
def kH{p:PSt}{o:jU}(k:Nat):(p.new o).get k=if k=p.next then some o else p.get k:=by
 simp only[PSt.get,PSt.new,Tr.get_set,gQ,Bool.cond_decide];by_cases e:k=p.next
 .subst e;simp
 .simp only[e,bN];by_cases h:k<p.next
  .simp[h,show k<p.next+1 by omega]
  .simp[h,show¬k<p.next+1 by omega]
def Mem.mk'{p:PSt}{id:Nat}{o:jU}{ob:AObj}(M:Mem J I p H)(F:FR J I H S A)(hf:H.get id=none)(bh:id<H.next)
    (hn: ∀J',J' p.next=some (some id)->Mon H J J'->ObjR J' I (H.put id ob) p.next o):
    ∃J',J' p.next=some (some id)/\Mem J' I (p.new o) (H.put id ob)/\FR J' I (H.put id ob) S A/\Mon H J J'/\(∀k,k<p.next->J' k=J k):=by
 have ch: ∀x,J p.next≠some x:=λx hx=>Nat.lt_irrefl _ (M.le _ _ hx)
 have e1:(λk=>if k=p.next then some (some id)else J k) p.next=some (some id):=by simp
 have gf:Mon H J (λk=>if k=p.next then some (some id)else J k):=by
  refine⟨λk x hk=>?_,λk a hk=>?_⟩
  .by_cases e:k=p.next
   .subst e;exact absurd hk (ch x)
   .simp only[e,bN];exact .inl hk
  .by_cases e:k=p.next
   .simp only[e,bO,aA]at hk;subst hk;exact .inr hf
   .simp only[e,bN]at hk;exact .inl hk
 refine⟨λk=>if k=p.next then some (some id)else J k,e1,⟨λk x hk=>?_,λk a hk=>?_,λi j a hi hj=>?_,λk a hk=>?_,λk ob' hk=>?_,λa ha=>?_,M.ver⟩,?_,gf,λk hk=>bH (by omega)⟩
 .show k<p.next+1
  by_cases e:k=p.next
  .omega
  .simp only[e,bN]at hk;have:=M.le _ _ hk;omega
 .show a<H.next
  by_cases e:k=p.next
  .simp only[e,bO,aA]at hk;omega
  .simp only[e,bN]at hk;exact M.lt _ _ hk
 .have ne: ∀k a,J k=some (some a)->a≠id:=by
   intro k a hk e;subst e;obtain⟨o',jd⟩:=M.live _ _ hk;have:=M.get _ _ jd;cases o' with
   |box cs=>obtain⟨a',us,h1,h2,_⟩:=this;rw[hk]at h1;simp only[aA]at h1;subst h1;rw[hf]at h2;cases h2
   |row z ag cs=>obtain⟨a',us,h1,h2,_⟩:=this;rw[hk]at h1;simp only[aA]at h1;subst h1;rw[hf]at h2;cases h2
   |map es=>exact this.elim
   |gone=>rw[show J k=some none from this]at hk;cases hk
  by_cases e:i=p.next<;>by_cases e':j=p.next
  .omega
  .simp only[e,e',bO,bN,aA]at hi hj;subst hi;exact absurd rfl (ne _ _ hj)
  .simp only[e,e',bO,bN,aA]at hi hj;subst hj;exact absurd rfl (ne _ _ hi)
  .simp only[e,e',bN]at hi hj;exact M.inj _ _ _ hi hj
 .rw[kH];by_cases e:k=p.next
  .simp[e]
  .simp only[e,bN]at hk⊢;exact M.live _ _ hk
 .rw[kH]at hk;by_cases e:k=p.next
  .subst e;simp only[bO,aA]at hk;subst hk;exact hn _ e1 gf
  .simp only[e,bN]at hk;refine(M.get k ob' hk).keep (Keep.put hf) gf (by simp[e]) (λa ha=>?_) λi off hi _=>⟨rfl,hi⟩
   rw[cA,bH];intro e2;subst e2;have:=M.get k ob' hk;cases ob' with
   |box cs=>obtain⟨a',us,h1,h2,_⟩:=this;rw[ha]at h1;simp only[aA]at h1;subst h1;rw[hf]at h2;cases h2
   |row z ag cs=>obtain⟨a',us,h1,h2,_⟩:=this;rw[ha]at h1;simp only[aA]at h1;subst h1;rw[hf]at h2;cases h2
   |map es=>exact this.elim
   |gone=>rw[show J k=some none from this]at ha;cases ha
 .rw[cA,bH (by have:H.next<=a:=ha;omega)];exact M.free a ha
 .exact F.keep (Keep.put hf) gf λi t hi _=>⟨rfl,hi⟩
def Mem.fz{p:PSt}{id:Nat}{ob:AObj}(M:Mem J I p H)(F:FR J I H S A)(hf:H.get id=none)(bh:id<H.next):
    Mem J I p (H.put id ob)/\FR J I (H.put id ob) S A/\∀k,J k≠some (some id):=by
 have dn: ∀k,J k≠some (some id):=by
  intro k hk;obtain⟨o',jd⟩:=M.live _ _ hk;have:=M.get _ _ jd;cases o' with
  |box cs=>obtain⟨a',us,h1,h2,_⟩:=this;rw[hk]at h1;simp only[aA]at h1;subst h1;rw[hf]at h2;cases h2
  |row z ag cs=>obtain⟨a',us,h1,h2,_⟩:=this;rw[hk]at h1;simp only[aA]at h1;subst h1;rw[hf]at h2;cases h2
  |map es=>exact this.elim
  |gone=>rw[show J k=some none from this]at hk;cases hk
 refine⟨⟨M.le,M.lt,M.inj,M.live,λk o hk=>?_,λa ha=>?_,M.ver⟩,?_,dn⟩
 .refine(M.get k o hk).keep (Keep.put hf) (.refl H J) rfl (λa ha=>?_) λi off hi _=>⟨rfl,hi⟩
  rw[cA,bH (λe=>dn k (by rw[<-e];exact ha))]
 .rw[cA,bH (by have:H.next<=a:=ha;omega)];exact M.free a ha
 .exact F.keep (Keep.put hf) (.refl H J) λi t hi _=>⟨rfl,hi⟩
end
end Go.PI
namespace Go.PI
open Go.AI
def PT(xs cs:List PV)(off:Nat)(h:off+xs.length<=cs.length):wQ cs off xs=cs.take off++xs++cs.drop (off+xs.length):=by
 induction xs generalizing cs off with
 |nil=>simp[wQ]
 |cons x xs ih=>
  simp only[aM]at h;simp only[wQ];rw[ih _ _ (by simp;omega)]
  have h1:(cs.set off x).take (off+1)=cs.take off++ [x]:=by
   rw[List.take_add_one,List.take_set_of_le (aS _),List.getElem?_set_self (by omega)];rfl
  have h2:(cs.set off x).drop (off+1+xs.length)=cs.drop (off+(xs.length+1)):=by
   rw[List.drop_set_of_lt (by omega)];congr 1;omega
  rw[h1,h2];simp
def A5(xs cs:List Value)(off:Nat)(h:off+xs.length<=cs.length):eA cs off xs=cs.take off++xs++cs.drop (off+xs.length):=by
 induction xs generalizing cs off with
 |nil=>simp[eA]
 |cons x xs ih=>
  simp only[aM]at h;simp only[eA];rw[ih _ _ (by simp;omega)]
  have h1:(cs.set off x).take (off+1)=cs.take off++ [x]:=by
   rw[List.take_add_one,List.take_set_of_le (aS _),List.getElem?_set_self (by omega)];rfl
  have h2:(cs.set off x).drop (off+1+xs.length)=cs.drop (off+(xs.length+1)):=by
   rw[List.drop_set_of_lt (by omega)];congr 1;omega
  rw[h1,h2];simp
def JR(a b:List PV):eD (a++b)=eD a++eD b:=by simp[eD]
def JN{s:Nat}{es:List PV}(hs: ∀e∈es,e.cells.length=s){i:Nat}(hi:i<es.length){y:PV}(hy:y.cells.length=s):eD (es.set i y)=wQ (eD es) (i*s) y.cells:=by
 have hle:i*s+s<=es.length*s:=by rw[<-Nat.succ_mul];exact Nat.mul_le_mul_right _ hi
 rw[PT _ _ _ (by rw[hy,gW hs];exact hle),hy,<-DV hs,show i*s+s=(i+1)*s by rw[Nat.succ_mul],<-DW hs]
 rw[List.set_eq_take_append_cons_drop,bI hi];simp[eD]
def lH(x:PV):(wk x).cells=wks x.cells:=by
 cases x with
 |sl z es=>cases es<;>simp[wk,wks,PV.cells]
 |_=>simp[wk,wks,PV.cells]
def jL(xs:List PV):(wks xs).length=xs.length:=by
 induction xs with
 |nil=>rfl
 |cons x xs ih=>simp[wks,ih]
def Ld{x:PV}(h:x.pur=true):(wk x).pur=true:=by
 cases x with
 |sl z es=>cases es<;>rfl
 |_=>first|rfl|simp[PV.pur]at h
def Ai{xs:List PV}(h:xs.all PV.pur=true):(wks xs).all PV.pur=true:=by
 induction xs with
 |nil=>rfl
 |cons x xs ih=>
  simp only[aP,aC]at h;simp only[wks,aP,aC];exact⟨Ld h.1,ih h.2⟩
def Al{x:PV}(h:x.pur=true):x.one=true:=by cases x<;>first|rfl|simp[PV.pur]at h
def rR{xs:List PV}(h:xs.all PV.pur=true):xs.all PV.one=true:=by
 rw[bJ]at h⊢;exact λx hx=>Al (h x hx)
def IK{xs:List Value}(h:xs.all bR=true):(ofVs xs).all PV.pur=true:=by
 induction xs with
 |nil=>rfl
 |cons x xs ih=>
  simp only[aP,aC]at h;simp only[PI.ofVs,aP,aC];refine⟨?_,ih h.2⟩;have h1:=h.1;cases x with
  |slice a l c=>cases a<;>first|rfl|simp[bR]at h1
  |_=>first|rfl|simp[bR]at h1
section
variable{P:Program}{J J':Nu}{I I1 I':Ga}{H H':St}{S:PS}{A:Slots}
def WG{k:Nat->K}{xs:List PV}{us:List Value}(r:RL J H xs us)(h1:xs.all PV.one=true){i:Nat}{x:PV}{b:Bool}{u:Value}(hx:(xs.map λc=>fl c false)[i]?=some (x,b))(hu:us[i]?=some u):
    R J H x u/\x.one=true/\(b=true->Ow J I H (k i) x u):=by
 rw[List.getElem?_map]at hx;cases hc:xs[i]? with
 |none=>rw[hc]at hx;cases hx
 |some c=>
  rw[hc]at hx;simp only[aK,aA]at hx;have hr:=r.2 i c u hc hu;have ho:=(bJ.1 h1) c (hQ hc);cases c<;>simp only[fl,aB]at hx<;>obtain⟨rfl,rfl⟩:=hx<;>first|(exact⟨hr,ho,λh=>(by cases h)⟩)|skip
  cases hr;exact⟨.emp0,rfl,λ_=> .nil _⟩
def RL.zeros{z:List PV}{w:List Value}(r:RL J H z w)(n:Nat):RL J H (iJ z n) (dR w n):=by
 induction n with
 |zero=>exact .nil
 |succ n ih=>exact r.append ih
def JO(x:PV)(n:Nat):eD (lS x n)=iJ x.cells n:=by
 induction n with
 |zero=>rfl
 |succ n ih=>simp only[lS,iJ,<-ih];simp[eD]
def CW(x:PV)(n:Nat):(lS x n).length=n:=by
 induction n with
 |zero=>rfl
 |succ n ih=>simp[lS,ih]
def Lo{x y:PV}{n:Nat}(h:y∈lS x n):y=x:=by
 induction n with
 |zero=>simp[lS]at h
 |succ n ih=>simp only[lS,List.mem_cons]at h;exact h.elim id ih
def rJ{a:Bool}{s:Nat}{x:PV}(h:shape a s x=true):x.cells.length=s/\x.cells.all PV.pur=true:=by
 cases x<;>simp only[shape,aC]at h
 case agg cs=>exact⟨aE h.1.2,h.2⟩
 all_goals
  refine⟨(aE h.1.2).symm,?_⟩;simp only[PV.cells,aP,List.all_nil,bE];exact h.2
def G7{a:Bool}{s:Nat}: ∀(ps:List (Nat×PV)) (qs:List (Nat×Value)) (es es':List PV) (B:Array Value),PRs J H ps qs->(∀e∈es,e.cells.length=s/\e.cells.all PV.pur=true)->RL J H (eD es) B.toList->
    mJ a s es ps=some es'->∃B',Instr.fill (λi=>some (i*s,s)) B qs=some B'/\RL J H (eD es') B'.toList/\(∀e∈es',e.cells.length=s/\e.cells.all PV.pur=true)/\es'.length=es.length:=by
 intro ps;induction ps with
 |nil=>
  intro qs es es' B hp hs hB h;have:qs=[]:=by have:=hp.1;simpa using this.symm
  subst this;simp only[mJ,aA]at h;subst h;exact⟨B,rfl,hB,hs,rfl⟩
 |cons q ps ih=>
  intro qs es es' B hp hs hB h;obtain⟨i,x⟩:=q;cases qs with
  |nil=>have:=hp.1;simp at this
  |cons q' qs=>
   obtain⟨i',u⟩:=q';have h1:=hp.1;simp only[aO,List.cons.injEq]at h1;obtain⟨rfl,h1⟩:=h1;have h2:=hp.2;simp only[aO]at h2;obtain⟨u',gm,he,hx,hr⟩:=h2.cons_inv;simp only[List.cons.injEq]at he;obtain⟨rfl,rfl⟩:=he;simp only[mJ]at h;cases hc:Nat.blt i es.length&&shape a s x with
   |false=>rw[hc,aJ]at h;cases h
   |true=>
    rw[hc,aI]at h;simp only[aC,gQ,aD]at hc;obtain⟨gr,hxp⟩:=rJ hc.2;have hcs:=hx.cells (rR hxp);have hcw:=hcs.wks;have cr: ∀e∈es,e.cells.length=s:=λe he=>(hs e he).1
    have hle:i*s+s<=es.length*s:=by rw[<-Nat.succ_mul];exact Nat.mul_le_mul_right _ hc.1
    have fu:u.cells.size=s:=by have:=hcs.1;simp at this;omega
    have hBl:B.size=es.length*s:=by have:=hB.1;rw[gW cr]at this;simpa using this.symm
    simp only[Instr.fill];rw[bH (by simp[fu];omega)]
    have kz:(wk x).cells.length=s:=by rw[lH,jL,gr]
    obtain⟨B',hB1,hB2,hB3,hB4⟩:=ih qs (es.set i (wk x)) es' (u.cells.zipIdx.foldl (λcs (c,j)=>cs.setIfInBounds (i*s+j) c) B) ⟨h1,hr⟩ (λe he=>by
            rcases List.mem_or_eq_of_mem_set he with h'|h'
            · exact hs e h'
            · subst h';exact⟨kz,by rw[lH];exact Ai hxp⟩) (by
            have:=JK (J:=J) (H:=H) (i*s) (wks x.cells) u.cells.toList 0 (eD es) B hcw hB;rw[JN cr hc.1 kz,lH];rw[<-Array.foldl_toList,Array.toList_zipIdx];exact this) h
    exact⟨B',hB1,hB2,hB3,by simpa using hB4⟩
def SB{p p':PSt}{id:Nat}(M:Mem J I p H)(F:FR J I H S A)(hf:H.get id=none)(bh:id<H.next){o:Oper}(ho:o.op.operands.all (cI P)=true){v:PV}{own:Bool}
    (h:eO P p S o=some (v,own,p')):
    ∃u ob J' I',eZ P (ev A) o id=some (u,ob)/\R J' (H.put id ob) v u/\Mem J' I' p' (H.put id ob)/\FR J' I' (H.put id ob) S A/\(own=true->Ow J' I' (H.put id ob) .hand v u)/\
      Mon H J J'/\GoOut H I I'/\p.next<=p'.next/\(∀k,k<p.next->J' k=J k)/\(p'.dirty=p.dirty/\p'.wr=p.wr)/\(∀k,k<p.next->p'.mem.get k=p.mem.get k):=by
 replace ho:=rU ho
 have go:GoOut H I I:= .refl H I;have hnm: ∀(ob:jU) (k:Nat),k<p.next->(p.new ob).mem.get k=p.mem.get k:=λob k hk=>by simp only[PSt.new,Tr.get_set];rw[bH (by omega)]
 obtain⟨dst,op,ty,pos,af,g⟩:=o;cases op with
 |alloc t=>
  simp only[eO]at h;split at h
  .rename_i z hz;obtain⟨w,hw,hp,rfl⟩:=pQ hz;simp only[aA,aB]at h;obtain⟨rfl,rfl,rfl⟩:=h;obtain⟨J',h1,h2,h3,h4,h5⟩:=M.mk' (o:= .box ((ofVs w.cells.toList).map λc=>fl c false)) (ob:= .cells w.cells.toList boxMeta) F hf bh λJ' h1 _=>
    ⟨id,w.cells.toList,h1,by rw[cA,bI rfl],by simp[rV],λi x b u hx hu=>WG (k:=λi=> .cell p.next i) (.ofVs hp) (IL hp) hx hu⟩
   exact⟨_,_,J',I,by simp only[eZ,hw,hp,aI],.ptr _ _ _ h1,h2,h3,λh=>(by cases h),h4,go,by simp[PSt.new],h5,⟨rfl,rfl⟩,hnm _⟩
  .cases h
 |box t x=>
  simp only[Op.operands,aP,List.all_nil,bE]at ho;have rx:=cU F ho;simp only[eO]at h;cases hc:(cP S x).cells.all PV.one with
  |false=>rw[hc,aJ]at h;cases h
  |true=>
   rw[hc,aI]at h;simp only[aA,aB]at h;obtain⟨rfl,rfl,rfl⟩:=h;have hcs:=rx.cells hc;obtain⟨J',h1,h2,h3,h4,h5⟩:=M.mk' (o:= .box ((cP S x).cells.map λc=>fl c false)) (ob:= .cells (ev A x).cells.toList boxMeta) F hf bh λJ' h1 hm=>
    ⟨id,(ev A x).cells.toList,h1,by rw[cA,bI rfl],by rw[List.length_map];exact hcs.1.symm,λi y b u hx hu=>WG (k:=λi=> .cell p.next i) (hcs.keep (Keep.put hf) hm) hc hx hu⟩
   exact⟨_,_,J',I,by simp only[eZ,hcs.one hc,aI],.ptr _ _ _ h1,h2,h3,λh=>(by cases h),h4,go,by simp[PSt.new],h5,⟨rfl,rfl⟩,hnm _⟩
 |buildSlice t len parts=>
  simp only[eO]at h;simp only[eZ];split at h
  .rename_i e he;simp only[he];split at h
   .rename_i s a z hs ha hz;obtain⟨w,hw,hp,rfl⟩:=pQ hz;simp only[hs,hw];cases hc:Nat.ble (len*s) 1000000&&Nat.beq (ofVs w.cells.toList).length s&&Nat.ble 1 s&&(a||Nat.beq s 1)with
    |false=>rw[hc,aJ]at h;cases h
    |true=>
     rw[hc,aI]at h;simp only[aC]at hc;obtain⟨⟨⟨hc1,hc2⟩,hc3⟩,hc4⟩:=hc;have kz:w.cells.toList.length=s:=by have:=aE hc2;rw[rV]at this;exact this
     split at h
     .rename_i es ll;simp only[aA,aB]at h;obtain⟨rfl,rfl,rfl⟩:=h;have hzc:(bif a then PV.agg (ofVs w.cells.toList)else(ofVs w.cells.toList).headD .und).cells=ofVs w.cells.toList:=by
       cases a with
       |true=>rfl
       |false=>
        simp only[Bool.false_or]at hc4;have hs1:=aE hc4;simp only[aJ];cases hl:w.cells.toList with
        |nil=>rw[hl]at kz;simp at kz;omega
        |cons y ys=>
         have:ys=[]:=by rw[hl]at kz;simp at kz;exact List.eq_nil_of_length_eq_zero (by omega)
         subst this;rw[hl]at hp;have:=IL hp;simp only[PI.ofVs,aP,List.all_nil,bE]at this;simp only[PI.ofVs,List.headD_cons];exact yD this
      have jo:PRs J H (parts.toList.map λ(i,x)=>(i,cP S x)) (parts.toList.map λ(i,x)=>(i,ev A x)):=PRs.of (P:=P) F (by simpa [Op.operands]using ho)
      have hzero:RL J H (eD (lS (wk (bif a then PV.agg (ofVs w.cells.toList)else(ofVs w.cells.toList).headD .und)) len)) (dR w.cells.toList len).toArray.toList:=by
       rw[JO,lH,hzc];simpa using RL.zeros (RL.wks (RL.ofVs hp)) len
      obtain⟨B',hB1,hB2,hB3,hB4⟩:=G7 (a:=a) (s:=s) _ _ _ es _ jo (λe he=>by
                rw[Lo he,lH,hzc,jL,rV];exact⟨kz,Ai (IK hp)⟩) hzero ll
      rw[CW]at hB4;obtain⟨M',F',dn⟩:=M.fz (ob:= .cells B'.toList (cS s)) F hf bh;have bi:Fz J (H.put id (.cells B'.toList (cS s))) id B'.toList (cS s):=⟨row_of_get (by rw[cA,bI rfl]) rfl,dn⟩
      refine⟨.slice (some ⟨id,0,none⟩) len len,.cells B'.toList (cS s),J,I,?_,?_,M',F',λ_=> .exact _ _ _ _ _ _ bi,.refl H J,go,aS _,λ_ _=>rfl,⟨rfl,rfl⟩,λ_ _=>rfl⟩
      .rw[show(w.cells.toList.all bR&&Nat.ble (len*s) 1000000&&Nat.beq w.cells.size s&&Nat.ble 1 s)=true by
        simp only[hp,hc1,hc3,Bool.true_and,bE];rw[cQ];simpa using kz]
       simp only[aI];rw[Array.toList_map,hB1];rfl
      .rw[<-hB4];refine E9 (.sl s es id 0 es.length B'.toList (cS s) (bP hc3) hB3 bi rfl ?_ λi x u hx hu=>?_)
       .have:=hB2.1;rw[gW (λe he=>(hB3 e he).1)]at this;omega
       .rw[Nat.zero_add]at hu;exact(hB2.2 i x u hx hu).keep (Keep.put hf) (.refl H J)
     .cases h
   .cases h
  .cases h
 |makeSlice t l c=>
  simp only[Op.operands,aP,List.all_nil,bE,aC]at ho;have rl:=cU F ho.1;have rc:=cU F ho.2;simp only[eO]at h;simp only[eZ];split at h
  .rename_i e n k he hl md;rw[hl]at rl;rw[md]at rc;generalize ev A l=ul at rl⊢;generalize ev A c=uc at rc⊢;cases rl;cases rc;simp only[he];split at h
   .rename_i info a hi ha;simp only[hi];split at h
    .rename_i z hz;simp only[hz];cases hc:decide (0<=n)&&decide (n<=k)&&decide (k*(info.bytes:Int)<=1073741824)&&decide (k<=1073741824)&&z.cells.toList.all bR&&Nat.beq z.cells.size info.size&&Nat.ble 1 info.size&&(a||Nat.beq info.size 1)with
     |false=>rw[hc,aJ]at h;cases h
     |true=>
      rw[hc,aI]at h;have md:=hc;simp only[aC]at hc;rw[show(decide (0<=n)&&decide (n<=k)&&decide (k*(info.bytes:Int)<=1073741824)&&decide (k<=1073741824)&&z.cells.toList.all bR&&Nat.beq z.cells.size info.size&&Nat.ble 1 info.size)=true by
       simp only[hc.1.1.1.1.1.1.1,hc.1.1.1.1.1.1.2,hc.1.1.1.1.1.2,hc.1.1.1.1.2,hc.1.1.1.2,hc.1.1.2,hc.1.2,Bool.and_self]]
      simp only[aI];by_cases hn0:n=0
      .subst hn0;simp only[bM,aI,aA,aB]at h;obtain⟨rfl,rfl,rfl⟩:=h;by_cases hk:(0:Int)=k
       .simp only[hk,bM,aI];rw[<-hk];obtain⟨M',F',dn⟩:=M.fz (ob:= .cells [] (cS info.size)) F hf bh;have bi:Fz J (H.put id (.cells [] (cS info.size))) id [] (cS info.size):=⟨row_of_get (by rw[cA,bI rfl]) rfl,dn⟩
        refine⟨.slice (some ⟨id,0,none⟩) 0 0,.cells [] (cS info.size),J,I,rfl,?_,M',F',λ_=> .exact _ _ _ _ _ _ bi,.refl H J,go,aS _,(by simp),(by simp),(by simp)⟩
        exact .sl info.size [] id 0 0 [] _ (bP hc.1.2) (λe he=>by simp at he) bi rfl (by simp) (λi x u hx=>by simp[eD]at hx)
       .simp only[hk,decide_false,aJ];obtain⟨M',F',dn⟩:=M.fz (ob:= .cells [] {wr:=true,tip:=true,z:=info.size,grp:=some (id,0)}) F hf bh;have bf:(H.put id (.cells [] {wr:=true,tip:=true,z:=info.size,grp:=some (id,0)})).good {wr:=true,tip:=true,z:=info.size,grp:=some (id,0)}=true:=by
         show Nat.beq (H.ver id) 0=true;rw[M.ver id];rfl
        have bi:Fz J (H.put id (.cells [] {wr:=true,tip:=true,z:=info.size,grp:=some (id,0)})) id [] {wr:=true,tip:=true,z:=info.size,grp:=some (id,0)}:=⟨row_of_get (by rw[cA,bI rfl]) bf,dn⟩
        refine⟨.slice (some ⟨id,0,none⟩) 0 1,.cells [] _,J,λi=>if i=id then some .hand else I i,rfl,?_,?_,?_,λ_=>?_,.refl H J,?_,aS _,(by simp),(by simp),(by simp)⟩
        .exact .sl info.size [] id 0 1 [] _ (bP hc.1.2) (λe he=>by simp at he) bi rfl (by simp) (λi x u hx=>by simp[eD]at hx)
        .refine⟨M'.le,M'.lt,M'.inj,M'.live,λk o hk=>?_,M'.free,M'.ver⟩
         refine(M.get k o hk).keep (I1:=jS) (Keep.put hf) (.refl H J) rfl (λa ha=>?_) λi off hi hn=>⟨rfl,?_⟩
         .rw[cA,bH (λe=>dn k (by rw[<-e];exact ha))]
         .show(if i=id then some K.hand else I i)=_
          rw[bH (λe=>hn (by rw[e];exact hf))];exact hi
        .refine F.keep (I1:=jS) (Keep.put hf) (.refl H J) λi t hi hn=>⟨rfl,?_⟩
         show(if i=id then some K.hand else I i)=_
         rw[bH (λe=>hn (by rw[e];exact hf))];exact hi
        .exact .tip info.size [] id 0 1 [] _ bi rfl rfl rfl (by simp) (by simp)
        .intro i hn hi;show(if i=id then some K.hand else I i)=some K.out;rw[bH (λe=>hn (by rw[e];exact hf))];exact hi
      .by_cases hnk:n=k
       .subst hnk;simp only[hn0,decide_false,aJ,bM,aI,aA,aB]at h;obtain⟨rfl,rfl,rfl⟩:=h;simp only[bM,aI];have di:=hc.1.1.1.2;have ln:RL J H (iJ (wks (ofVs z.cells.toList)) n.toNat) (dR z.cells.toList n.toNat):=RL.zeros (RL.wks (RL.ofVs di)) _;obtain⟨J',h1,h2,h3,h4,h5⟩:=M.mk' (o:= .row info.size a (iJ (wks (ofVs z.cells.toList)) n.toNat)) (ob:= .cells (dR z.cells.toList n.toNat) (cS info.size)) F hf bh λJ' h1 hm=>
         ⟨id,dR z.cells.toList n.toNat,h1,by rw[cA,bI rfl],ln.1.symm,by
          rw[bJ];intro x hx;have: ∀m,x∈iJ (wks (ofVs z.cells.toList)) m->x∈wks (ofVs z.cells.toList):=by
           intro m;induction m with
           |zero=>intro h;simp[iJ]at h
           |succ m ih=>intro h;simp only[iJ,List.mem_append]at h;exact h.elim (λh=>h) ih
          exact(bJ.1 (rR (Ai (IK di)))) x (this _ hx),λi x u hx hu=>(ln.2 i x u hx hu).keep (Keep.put hf) hm⟩
        exact⟨_,_,J',I,rfl,.rs _ _ _ _ _ h1,h2,h3,λh=>(by cases h),h4,go,by simp[PSt.new],h5,⟨rfl,rfl⟩,hnm _⟩
       .simp only[hn0,hnk,decide_false,aJ]at h;cases h
    .cases h
   .cases h
  .cases h
 |_=>simp only[eO]at h;cases h
end
end Go.PI
namespace Go.PI
open Go.AI
section
variable{P:Program}{J J':Nu}{I I1 I':Ga}{H H':St}{S:PS}{A:Slots}
def Keep.weak(k:Keep J I1 H H')(h: ∀a,I a=some .out->I1 a=some .out):Keep J I H H':=
 ⟨k.vers,k.next,k.dom,λa hn cs m hg=>by
  obtain⟨b,h1,h2,h3⟩:=k.row a hn cs m hg;exact⟨b,h1,h2,λhh=>h3 (h a hh)⟩⟩
def Keep.trans{H'':St}(k:Keep J I H H')(hm:Mon H J J')(k':Keep J' I' H' H'')(hg:GoOut H I I'):Keep J I H H'':=by
 refine⟨k'.vers.trans k.vers,Nat.le_trans k.next k'.next,λa ha=>k.dom a (k'.dom a ha),λa hn cs m bc=>?_⟩
 obtain⟨b,h1,h2,h3⟩:=k.row a hn cs m bc;obtain⟨b',h4,h5,h6⟩:=k'.row a (λj hj=>by
  rcases hm.2 j a hj with e|e
  .exact hn j e
  .rw[bc]at e;cases e) cs _ h1
 refine⟨b',h4,λht=>h5 (h2 ht),λho=>?_⟩
 rw[h6 (hg a (by rw[bc];simp) ho)]
 exact h3 ho
def Keep.write{id a:Nat}{o:AObj}(hν:J id=some (some a))(hd:H.get a≠none):Keep J jS H (H.put a o):=by
 refine⟨rfl,aS _,λk hk=>?_,λk hn cs m hg=>⟨m.tip,?_,λh=>h,λ_=>rfl⟩⟩
 .rw[cA]at hk;split at hk
  .cases hk
  .exact hk
 .rw[cA,bH (λe=>hn id (by rw[e];exact hν))];exact hg
def Mem.write{p:PSt}{id a:Nat}{o:jU}{ob ob':AObj}(M:Mem J I p H)(F:FR J I H S A)(hν:J id=some (some a))(hg:H.get a=some ob)(hp: ∃o',p.get id=some o')
    (hn:ObjR J I' (H.put a ob') id o) (hγ: ∀i j off,j≠id->I i=some (.cell j off)->I' i=some (.cell j off)) (hs: ∀i t,I i=some (.slot t)->I' i=some (.slot t)):
    Mem J I' (p.upd id o) (H.put a ob')/\FR J I' (H.put a ob') S A:=by
 have kp:Keep J jS H (H.put a ob'):=Keep.write hν (by rw[hg];simp)
 obtain⟨o',jd⟩:=hp;have hid:=LN jd;refine⟨⟨M.le,M.lt,M.inj,λk a hk=>?_,λk ob2 hk=>?_,λk hk=>?_,M.ver⟩,F.keep kp (.refl H J) λi t hi _=>⟨rfl,hs i t hi⟩⟩
 .rw[kG hid];split
  .exact⟨_,rfl⟩
  .exact M.live k a hk
 .rw[kG hid]at hk;split at hk
  .rename_i e;subst e;simp only[aA]at hk;subst hk;exact hn
  .rename_i e;refine(M.get k ob2 hk).keep kp (.refl H J) rfl (λa' dd=>?_) λi off hi _=>⟨rfl,hγ i k off e hi⟩
   rw[cA,bH (λe2=>e (M.inj k id a (by rw[<-e2];exact dd) hν))]
 .rw[cA,bH (λe=>by subst e;have:=M.lt _ _ hν;have h2:H.next<=k:=hk;omega)];exact M.free k hk
def qJ{N:Type}{cs xs:List N}{off i:Nat}{x:N}(h:off+xs.length<=cs.length)(hi:(cs.take off++xs++cs.drop (off+xs.length))[i]?=some x):
    (i<off/\cs[i]?=some x)∨(off<=i/\i<off+xs.length/\xs[i-off]?=some x)∨(off+xs.length<=i/\cs[i]?=some x):=by
 have hl:(cs.take off).length=off:=by simp;omega
 rcases Nat.lt_or_ge i off with h1|h1
 .left;rw[aQ,List.getElem?_append_left (by omega),List.getElem?_take,bI h1]at hi
  exact⟨h1,hi⟩
 .rcases Nat.lt_or_ge i (off+xs.length)with h2|h2
  .right;left;rw[aQ,List.getElem?_append_right (by omega),hl,List.getElem?_append_left (by omega)]at hi
   exact⟨h1,h2,hi⟩
  .right;right;rw[List.getElem?_append_right (by simp;omega),List.getElem?_drop]at hi
   refine⟨h2,?_⟩;rw[<-hi];congr 1;simp;omega
def Fg{id:Nat}{l:List Nat}:id∈CQ id l:=by
 unfold CQ;cases h:l.contains id with
 |true=>simpa using h
 |false=>simp
def Sr{p p':PSt}(M:Mem J I p H)(F:FR J I H S A){t:TypeId}{a x:PV}{w u:Value}{own:Bool}(ra:R J H a w)(rx:R J H x u)(kg:own=true->Ow J I H .hand x u)(h:mK P p t a x own=some p'):
    ∃H' I',gE P H t w u=some H'/\Mem J I' p' H'/\FR J I' H' S A/\Keep J I H H'/\GoOut H I I'/\p'.next=p.next/\H'.next=H.next/\(∃i0 a0,J i0=some (some a0)/\i0∈p'.wr/\∀b,b≠a0->H'.get b=H.get b):=by
 cases a<;>simp only[mK]at h<;>try cases h
 rename_i id off;split at h
 .rename_i cs n hg hn;cases hc:Nat.beq x.cells.length n&&Nat.ble (off+n) cs.length&&x.cells.all PV.one with
  |false=>rw[hc,aJ]at h;cases h
  |true=>
   rw[hc,aI]at h;simp only[aA]at h;subst h;simp only[aC]at hc;obtain⟨⟨hc1,hc2⟩,hc3⟩:=hc;have gr:=aE hc1;have hle:=bP hc2;have hcs:=rx.cells hc3;obtain⟨a',us,h1,h2,h3,h4⟩:=M.get id _ hg;have hw:w= .pointer (some ⟨a',off,none⟩):=by
    cases ra with
    |ptr _ _ _ hν=>rw[h1]at hν;simp only[aA]at hν;subst hν;rfl
    |ptr0 _ _ _ hν=>rw[h1]at hν;cases hν
   subst hw;have fu:u.cells.toList.length=n:=by rw[<-hcs.1,gr]
   have ci:gE P H t (.pointer (some ⟨a',off,none⟩)) u=some (H.put a' (.cells (eA us off u.cells.toList) boxMeta)):=by
    simp only[gE,row_of_get h2 rfl,hn];rw[show(boxMeta.wr&&Nat.beq u.cells.size n&&Nat.ble (off+n) us.length&&u.cells.toList.all one)=true by
     rw[hcs.one hc3,cQ,qX];simp only[Array.length_toList]at fu;simp[boxMeta,fu,h3,hle]]
    rfl
   have dh:=A5 u.cells.toList us off (by rw[fu,h3];exact hle)
   have hkp:Keep J jS H (H.put a' (.cells (eA us off u.cells.toList) boxMeta)):=Keep.write h1 (by rw[h2];simp)
   have hobj: ∀I',(∀i k,I i=some (.cell id k)->I' i=some (.cell id k))->(∀i,own=true->I i=some .hand->I' i=some (.cell id off))->
          ObjR J I' (H.put a' (.cells (eA us off u.cells.toList) boxMeta)) id (.box (cs.take off++x.cells.map (λc=>fl c own)++cs.drop (off+n))):=by
    intro I' hγ hγ2;refine⟨a',eA us off u.cells.toList,h1,by rw[cA,bI rfl],?_,λi y b v hy hv=>?_⟩
    .rw[dh];simp[h3];simp only[Array.length_toList]at fu;omega
    .rw[show off+n=off+(x.cells.map λc=>fl c own).length by simp[gr]]at hy
     rw[dh,fu]at hv;rw[show off+n=off+u.cells.toList.length by rw[fu]]at hv
     have mj:=qJ (by simp[gr];exact hle) hy
     have dy:=qJ (by rw[fu,h3];exact hle) hv
     rw[List.length_map,gr]at mj;rw[fu]at dy;rcases mj with⟨e1,e2⟩|⟨e1,e2,e3⟩|⟨e1,e2⟩
     .rcases dy with⟨f1,f2⟩|⟨f1,f2,f3⟩|⟨f1,f2⟩
      .obtain⟨g1,g2,g3⟩:=h4 i y b v e2 f2;exact⟨g1.keep hkp (.refl H J),g2,λhb=>(g3 hb).keep hkp (.refl H J) λj hj _=>⟨rfl,hγ j i hj⟩⟩
      .omega
      .omega
     .rcases dy with⟨f1,f2⟩|⟨f1,f2,f3⟩|⟨f1,f2⟩
      .omega
      .cases own with
       |false=>
        obtain⟨g1,g2,g3⟩:=WG (I:=I) (k:=λ_=> .hand) hcs hc3 e3 f3
        refine⟨g1.keep hkp (.refl H J),g2,λhb=>?_⟩
        have:=g3 hb;rw[List.getElem?_map]at e3;cases gp:x.cells[i-off]? with
        |none=>rw[gp]at e3;cases e3
        |some c=>
         rw[gp]at e3;simp only[aK,aA]at e3;have hr:=hcs.2 _ c v gp f3;cases c<;>simp only[fl,aB]at e3<;>obtain⟨rfl,rfl⟩:=e3<;>first|(cases hb)|skip
         cases hr;exact .nil _
       |true=>
        have how:=kg rfl;have cr:eT u=true:=how.slice hc3;have hxc:x.cells=[x]:=by
         cases x with
         |agg ys=>obtain⟨gm,rfl,_⟩:=rx.agg_inv;cases cr
         |_=>rfl
        have huc:u.cells.toList=[u]:=by cases u<;>first|rfl|cases cr
        rw[hxc]at e3;rw[huc]at f3;have hn1:n=1:=by rw[<-gr,hxc];rfl
        have hio:i=off:=by omega
        subst hio;simp only[Nat.sub_self,aO,List.map_nil,aU,aA]at e3 f3;subst f3;have hx1:x.one=true:=by rw[hxc]at hc3;simpa using hc3
        have hk:Ow J I' (H.put a' (.cells (eA us i u.cells.toList) boxMeta)) (.cell id i) x u:=how.keep hkp (.refl H J) λj hj _=>⟨rfl,hγ2 j rfl hj⟩
        cases x<;>simp only[fl,aB]at e3<;>obtain⟨rfl,rfl⟩:=e3<;>first|(exact⟨rx.keep hkp (.refl H J),hx1,λ_=>hk⟩)|skip
        cases rx;exact⟨.emp0,rfl,λ_=> .nil _⟩
      .omega
     .rcases dy with⟨f1,f2⟩|⟨f1,f2,f3⟩|⟨f1,f2⟩
      .omega
      .omega
      .obtain⟨g1,g2,g3⟩:=h4 i y b v e2 f2;exact⟨g1.keep hkp (.refl H J),g2,λhb=>(g3 hb).keep hkp (.refl H J) λj hj _=>⟨rfl,hγ j i hj⟩⟩
   have hmv: ∀i k,I i=some k->k≠ .hand->PI.mv .hand (.cell id off) I i=some k:=λi k hi hk=>by
    simp only[PI.mv,hi];rw[bH (by simpa using hk)]
   obtain⟨M',F'⟩:=M.write (I':=PI.mv .hand (.cell id off) I) F h1 h2 ⟨_,hg⟩ (hobj _ (λi k hi=>hmv i _ hi (by simp)) λi _ hi=>by simp[PI.mv,hi]) (λi j o' hj hi=>hmv i _ hi (by simp)) (λi t hi=>hmv i _ hi (by simp))
   exact⟨_,_,ci,M',F',hkp.weak λ_ _=>rfl,λi _ hi=>hmv i _ hi (by simp),rfl,rfl,id,a',h1,Fg,λb hb=>by rw[cA,bH hb]⟩
 .rename_i z ag cs n hg hn;cases hc:Nat.beq x.cells.length n&&Nat.ble (off+n) cs.length&&x.cells.all PV.one with
  |false=>rw[hc,aJ]at h;cases h
  |true=>
   rw[hc,aI]at h;simp only[aA]at h;subst h;simp only[aC]at hc;obtain⟨⟨hc1,hc2⟩,hc3⟩:=hc;have gr:=aE hc1;have hle:=bP hc2;have hcs:=rx.cells hc3;obtain⟨a',us,h1,h2,h3,h5,h4⟩:=M.get id _ hg;have hw:w= .pointer (some ⟨a',off,none⟩):=by
    cases ra with
    |ptr _ _ _ hν=>rw[h1]at hν;simp only[aA]at hν;subst hν;rfl
    |ptr0 _ _ _ hν=>rw[h1]at hν;cases hν
   subst hw;have fu:u.cells.toList.length=n:=by rw[<-hcs.1,gr]
   have ci:gE P H t (.pointer (some ⟨a',off,none⟩)) u=some (H.put a' (.cells (eA us off u.cells.toList) (cS z))):=by
    simp only[gE,row_of_get h2 rfl,hn];rw[show((cS z).wr&&Nat.beq u.cells.size n&&Nat.ble (off+n) us.length&&u.cells.toList.all one)=true by
     rw[hcs.one hc3,cQ,qX];simp only[Array.length_toList]at fu;simp[cS,fu,h3,hle]]
    rfl
   have dh:=A5 u.cells.toList us off (by rw[fu,h3];exact hle)
   have hkp:Keep J jS H (H.put a' (.cells (eA us off u.cells.toList) (cS z))):=Keep.write h1 (by rw[h2];simp)
   have kz:(wks x.cells).length=n:=by rw[jL,gr]
   obtain⟨M',F'⟩:=M.write (I':=I) (o:= .row z ag (cs.take off++wks x.cells++cs.drop (off+n))) (ob':= .cells (eA us off u.cells.toList) (cS z)) F h1 h2 ⟨_,hg⟩
    ⟨a',eA us off u.cells.toList,h1,by rw[cA,bI rfl],by rw[dh];simp[h3,jL,gr];simp only[Array.length_toList]at fu;omega,by
     have hw1:(wks x.cells).all PV.one=true:=by
      have: ∀ys:List PV,ys.all PV.one=true->(wks ys).all PV.one=true:=by
       intro ys;induction ys with
       |nil=>intro _;rfl
       |cons y ys ih=>
        intro h;simp only[aP,aC]at h;simp only[wks,aP,aC];refine⟨?_,ih h.2⟩;have:=h.1;cases y with
        |sl z es=>cases es<;>rfl
        |_=>first|rfl|exact this
      exact this _ hc3
     rw[List.all_append,List.all_append,hw1];simp only[bE,aC,bJ]at h5⊢;exact⟨λy hy=>h5 y (List.mem_of_mem_take hy),λy hy=>h5 y (List.mem_of_mem_drop hy)⟩,λi y v hy hv=>by
     rw[show off+n=off+(wks x.cells).length by rw[kz]]at hy
     rw[dh,fu]at hv;rw[show off+n=off+u.cells.toList.length by rw[fu]]at hv
     have mj:=qJ (by rw[kz];exact hle) hy
     have dy:=qJ (by rw[fu,h3];exact hle) hv
     rw[kz]at mj;rw[fu]at dy;rcases mj with⟨e1,e2⟩|⟨e1,e2,e3⟩|⟨e1,e2⟩
     .rcases dy with⟨f1,f2⟩|⟨f1,f2,f3⟩|⟨f1,f2⟩
      .exact(h4 i y v e2 f2).keep hkp (.refl H J)
      .omega
      .omega
     .rcases dy with⟨f1,f2⟩|⟨f1,f2,f3⟩|⟨f1,f2⟩
      .omega
      .exact(hcs.wks.2 _ y v e3 f3).keep hkp (.refl H J)
      .omega
     .rcases dy with⟨f1,f2⟩|⟨f1,f2,f3⟩|⟨f1,f2⟩
      .omega
      .omega
      .exact(h4 i y v e2 f2).keep hkp (.refl H J)⟩ (λi j o' hj hi=>hi) (λi t hi=>hi)
   exact⟨_,_,ci,M',F',hkp.weak λ_ _=>rfl,.refl H I,rfl,rfl,id,a',h1,Fg,λb hb=>by rw[cA,bH hb]⟩
 .cases h
end
end Go.PI
namespace Go.PI
open Go.AI
section
variable{P:Program}{J J':Nu}{I I1 I':Ga}{H H':St}{S:PS}{A:Slots}
def wB(cs:List Value)(off:Nat):cut cs off 0=some []:=by simp[cut,cQ]
def aMZ{cs:List Value}{off n:Nat}(h:off+n<=cs.length):cut cs off n=some ((cs.drop off).take n):=by
 simp only[cut,cQ];rw[show decide (((cs.drop off).take n).length=n)=true by simp;omega];rfl
def EL{z:Nat}{es:List PV}{id off n c:Nat}(r:R J H (.sl z es) (.slice (some ⟨id,off,none⟩) n c)):
    n=es.length/\1<=z/\(∀e∈es,e.cells.length=z/\e.cells.all PV.pur=true)/\∃rcs m l,Fz J H id rcs m/\m.z=z/\off+es.length*z<=rcs.length/\cut rcs off (es.length*z)=some l/\RL J H (eD es) l:=by
 cases r with
 |sl _ _ _ _ _ rcs m hz hs hr hm hb hh=>
  refine⟨rfl,hz,hs,rcs,m,_,hr,hm,hb,aMZ hb,?_⟩;have fm:=gW (λe he=>(hs e he).1)
  refine⟨by simp[fm];omega,λi x u hx hu=>?_⟩
  rw[List.getElem?_take]at hu;split at hu
  .rw[List.getElem?_drop]at hu;exact hh i x u hx hu
  .cases hu
def A7{z:Nat}{d:TypeDesc}{x:PV}{u:Value}{xs:List PV}(r:R J H x u)(hz1:1<=z)(h:sQ z d x=some xs):
    ∃vals,kO H z u=some (xs.length,vals)/\RL J H (eD xs) vals/\(∀e∈xs,e.cells.length=z/\e.cells.all PV.pur=true)/\BJ d u=true:=by
 unfold sQ at h;split at h
 .cases x<;>simp only[mQ]at h<;>try cases h
  .cases r;exact⟨[],rfl,.nil,λe he=>by simp at he,rfl⟩
  .cases r with
   |emp0=>exact⟨[],rfl,.nil,λe he=>by simp at he,rfl⟩
   |emp1 id off c rcs m hr=>exact⟨[],by simp only[kO,hr.1,Nat.zero_mul,wB];rfl,.nil,λe he=>by simp at he,rfl⟩
   |emp2 b o s c=>exact⟨[],rfl,.nil,λe he=>by simp at he,rfl⟩
  .rename_i z' es;cases hc:Nat.beq z z' with
   |false=>rw[hc,aJ]at h;cases h
   |true=>
    rw[hc,aI]at h;simp only[aA]at h;subst h;have gq:=aE hc;subst gq;cases r with
    |sl _ _ id off c rcs m hz hs hr hm hb hh=>
     obtain⟨_,_,fy,me,m',l,ca,_,bv,hl,hrl⟩:=EL (.sl z es id off c rcs m hz hs hr hm hb hh);exact⟨l,by simp only[kO,ca.1,hl];rfl,hrl,fy,rfl⟩
 .split at h
  .rename_i s;cases hc:Nat.beq z 1 with
   |false=>rw[hc,aJ]at h;cases h
   |true=>
    rw[hc,aI]at h;simp only[aA]at h;subst h;have gq:=aE hc;subst gq;cases r with
    |str ba=>
     refine⟨_,by simp only[kO,aI];rw[show Nat.beq 1 1=true from rfl,aI,List.length_map,Array.length_toList];rfl,?_,λe he=>?_,rfl⟩
     .have: ∀bs:List UInt8,RL J H (eD (bs.map λb=>PV.v (.int .u8 b.toNat))) (bs.map λb=>Value.int .u8 b.toNat):=by
       intro bs;induction bs with
       |nil=>exact .nil
       |cons b bs ih=>simp only[aO,eD,aN,PV.cells,aR];exact .cons (.v _ rfl) ih
      exact this _
     .obtain⟨b,_,rfl⟩:=List.mem_map.1 he;exact⟨rfl,rfl⟩
  .cases h
 .cases h
def BB{p:PSt}{id z:Nat}{es xs:List PV}{old vals:List Value}{m:mX}(M:Mem J I p H)(F:FR J I H S A)(hf:H.get id=none)(bh:id<H.next)(hz:1<=z)
    (mq: ∀e∈es++xs,e.cells.length=z/\e.cells.all PV.pur=true) (ho:RL J H (eD es) old) (hv:RL J H (eD xs) vals) (hm:m.z=z) (ht:m.tip=true) (hw:m.wr=true) (hg:m.grp.isSome=true) (bf:H.good m=true) (c:Nat) (bn:es++xs≠ []):
    ∃I',R J (H.put id (.cells (old++vals) m)) (dD z (es++xs)) (.slice (some ⟨id,0,none⟩) (es.length+xs.length) c)/\Mem J I' p (H.put id (.cells (old++vals) m))/\FR J I' (H.put id (.cells (old++vals) m)) S A/\
      Ow J I' (H.put id (.cells (old++vals) m)) .hand (dD z (es++xs)) (.slice (some ⟨id,0,none⟩) (es.length+xs.length) c)/\Keep J jS H (H.put id (.cells (old++vals) m))/\GoOut H I I':=by
 obtain⟨M',F',dn⟩:=M.fz (ob:= .cells (old++vals) m) F hf bh;have bi:Fz J (H.put id (.cells (old++vals) m)) id (old++vals) m:=⟨row_of_get (by rw[cA,bI rfl]) bf,dn⟩
 have dc:=ho.append hv;rw[<-JR]at dc;have fm:=gW (λe he=>(mq e he).1)
 have hlen:(old++vals).length=(es++xs).length*z:=by rw[<-fm];exact dc.1.symm
 have lg:dD z (es++xs)= .sl z (es++xs):=by
  cases hh:es++xs with
  |nil=>exact absurd hh bn
  |cons a l=>rfl
 have gc: ∀i k,I i=some k->H.get i≠none->(if i=id then some K.hand else I i)=some k:=λi k hi hn=>by
  rw[bH (λe=>hn (by rw[e];exact hf))];exact hi
 refine⟨λi=>if i=id then some .hand else I i,?_,?_,?_,?_,Keep.put hf,λi hn hi=>gc i _ hi hn⟩
 .rw[lg,<-aZ];exact .sl z (es++xs) id 0 c _ m hz mq bi hm (by rw[hlen];omega) λi x u hx hu=>(dc.2 i x u hx (by simpa using hu)).keep (Keep.put hf) (.refl H J)
 .refine⟨M'.le,M'.lt,M'.inj,M'.live,λk o hk=>?_,M'.free,M'.ver⟩
  refine(M.get k o hk).keep (I1:=jS) (Keep.put hf) (.refl H J) rfl (λa ha=>?_) λi off hi hn=>⟨rfl,gc i _ hi hn⟩
  rw[cA,bH (λe=>dn k (by rw[<-e];exact ha))]
 .exact F.keep (I1:=jS) (Keep.put hf) (.refl H J) λi t hi hn=>⟨rfl,gc i _ hi hn⟩
 .rw[lg,<-aZ];exact .tip z (es++xs) id 0 c _ m bi ht hw hg (by rw[hm,hlen];omega) (by simp)
def pN{z:Nat}{x:PV}{es:List PV}(h:mQ z x=some es):((x= .emp∨x= .nil)/\es=[])∨x= .sl z es:=by
 cases x<;>simp only[mQ]at h<;>try cases h
 .exact .inl ⟨.inr rfl,rfl⟩
 .exact .inl ⟨.inl rfl,rfl⟩
 .rename_i z' es';cases hc:Nat.beq z z' with
  |false=>rw[hc,aJ]at h;cases h
  |true=>
   rw[hc,aI]at h;simp only[aA]at h;subst h;have gq:=aE hc;subst gq;exact .inr rfl
def Pa{p:PSt}(M:Mem J I p H)(z id:Nat):H.good (fW z id)=true:=by
 show Nat.beq (H.ver id) 0=true;rw[M.ver id];rfl
def Lw{p:PSt}{id:Nat}(M:Mem J I p H)(F:FR J I H S A)(hf:H.get id=none)(bh:id<H.next){c:Call}{s x:Operand}(hs:cI P s=true)(hx:cI P x=true){v:PV}{own:Bool}{S':PS}
    (h:sR P S c s x=some (v,own,S')):
    ∃u H' I',fS P H id c (ev A s) (ev A x)=some (u,H')/\R J H' v u/\Mem J I' p H'/\FR J I' H' S' A/\(own=true->Ow J I' H' .hand v u)/\Keep J I H H'/\GoOut H I I'/\H'.next=H.next:=by
 unfold sR at h;unfold fS;split at h
 .rename_i t t1 ht;simp only[ht];split at h
  .rename_i e d he hd;simp only[he,hd];split at h
   .rename_i info hi;simp only[hi];split at h
    .rename_i es xs z ll hxs hz;cases hc:Nat.ble 1 info.size&&Nat.ble 1 info.bytes&&Nat.beq z.cells.size info.size with
     |false=>rw[hc,aJ]at h;cases h
     |true=>
      rw[hc,aI]at h;simp only[aC]at hc;have hz1:=bP hc.1.1;obtain⟨vals,mo,hvals,hxe,jq⟩:=A7 (cU F hx) hz1 hxs;obtain⟨I0,F0,how,g0⟩:=sU F s hs;have M0:=M.g2 g0;have rs:=cU F hs;have gw:vals.all one=true:=hvals.one (by
       rw[bJ];intro y hy;simp only[eD,List.mem_flatMap]at hy;obtain⟨e,he,hy⟩:=hy;exact Al ((bJ.1 (hxe e he).2) y hy))
      have cr:eT (ev A s)=true:=by
       rcases pN ll with⟨h1|h1,_⟩|h1<;>rw[h1]at rs<;>generalize ev A s=w at rs<;>cases rs<;>rfl
      simp only[jq,aI,mo,hz];rw[show(vals.all one&&Nat.ble 1 info.size&&Nat.ble 1 info.bytes&&Nat.beq z.cells.size info.size&&eT (ev A s))=true by
       simp only[gw,hc.1.1,hc.1.2,hc.2,cr,Bool.and_self]]
      simp only[aI];cases hx0:xs with
      |nil=>
       subst hx0;simp only[aA,aB]at h;obtain⟨rfl,rfl,rfl⟩:=h;exact⟨ev A s,H,I0,rfl,rs,M0,F0,how,.refl J I H,g0.out,rfl⟩
      |cons x0 xs0=>
       rw[hx0]at h;simp only at h;rw[<-hx0]at h;have hlen:xs.length≠0:=by rw[hx0];simp
       have bn:es++xs≠ []:=by rw[hx0];simp
       rw[<-hx0];rw[show Nat.beq xs.length 0=false by rw[cQ];simp[hlen]]
       simp only[aJ];cases hc2:gZ S s&&Nat.ble ((es.length+xs.length)*info.bytes) 1073741824 with
       |false=>rw[hc2,aJ]at h;cases h
       |true=>
        rw[hc2,aI]at h;simp only[aA,aB]at h;obtain⟨rfl,rfl,rfl⟩:=h;simp only[aC]at hc2;have how:=how hc2.1;have db:=hc2.2;have hgt:=Pa M0 info.size id;have py: ∀{old:List Value},RL J H (eD es) old->(∀e∈es,e.cells.length=info.size/\e.cells.all PV.pur=true)->
                    gX H id info.size info.bytes xs.length vals (ev A s)=some (.slice (some ⟨id,0,none⟩) (es.length+xs.length) (es.length+xs.length+1),H.put id (.cells (old++vals) (fW info.size id)))->
                    ∃u H' I',gX H id info.size info.bytes xs.length vals (ev A s)=some (u,H')/\R J H' (dD info.size (es++xs)) u/\Mem J I' p H'/\FR J I' H' (lK S s) A/\(true=true->Ow J I' H' .hand (dD info.size (es++xs)) u)/\Keep J I H H'/\GoOut H I I'/\H'.next=H.next:=by
         intro old hold mq kd;obtain⟨I',k1,k2,k3,k4,k5,k6⟩:=BB (m:=fW info.size id) M0 F0 hf bh hz1 (λe he=>(List.mem_append.1 he).elim (mq e) (hxe e)) hold hvals rfl rfl rfl rfl hgt (es.length+xs.length+1) bn
         exact⟨_,_,I',kd,k1,k2,k3,λ_=>k4,k5.weak λ_ _=>rfl,GoOut.trans (H':=H) g0.out k6 (λ_ h=>h),rfl⟩
        rcases pN ll with⟨h1,rfl⟩|h1
        ·
         have rse:R J H .emp (ev A s):=by
          rcases h1 with h1|h1<;>rw[h1]at rs
          .exact rs
          .generalize ev A s=w at rs⊢;cases rs;exact .emp0
         simp only[aX,Nat.zero_add]at db py⊢;refine py (old:=[]) .nil (λe he=>by simp at he) ?_
         have lb:Ow J I0 H .hand .emp (ev A s)∨ev A s= .slice none 0 0:=by
          rcases h1 with h1|h1<;>rw[h1]at how rs
          .exact .inl how
          .right;generalize ev A s=w at rs;cases rs;rfl
         clear how py;generalize ev A s=w at rse lb;cases rse with
         |emp0=>simp only[gX,db,aI];rfl
         |emp1 id0 off c rcs m hr=>
          have:c=0:=by
           rcases lb with how|how
           .cases how;rfl
           .cases how
          subst this;simp only[gX,Nat.zero_add,db,aI,hr.1,Nat.zero_mul,wB];rfl
         |emp2 b o s' c=>
          rcases lb with how|how
          .cases how;have hq:(Nat.beq 1 1&&Nat.ble (xs.length*info.bytes) 1073741824)=true:=by rw[db];rfl
           simp only[gX,hq,aI];rfl
          .cases how
        .rw[h1]at rs how;obtain⟨mq,tb⟩:(∀e∈es,e.cells.length=info.size/\e.cells.all PV.pur=true)/\∃id0 off cc rcs m l,ev A s= .slice (some ⟨id0,off,none⟩) es.length cc/\Fz J H id0 rcs m/\m.z=info.size/\off+es.length*info.size<=rcs.length/\cut rcs off (es.length*info.size)=some l/\RL J H (eD es) l:=by
          generalize ev A s=w at rs;cases rs with
          |sl _ _ id0 off cc rcs m hz hs hr hm hb hh=>
           obtain⟨_,_,fy,me,m',l,k1,k2,k3,k4,k5⟩:=EL (.sl info.size es id0 off cc rcs m hz hs hr hm hb hh);exact⟨fy,id0,off,cc,me,m',l,rfl,k1,k2,k3,k4,k5⟩
         obtain⟨id0,off,cc,rcs,m,l,hw,hr,ku,hb,hl,hrl⟩:=tb;by_cases gp:cc=es.length
         .refine py hrl mq ?_;rw[hw,gp];simp only[gX,db,aI,hr.1,hl];rw[show Nat.beq es.length es.length=true by simp[cQ]]
          rfl
         .rw[hw]at how⊢;cases how with
          |exact=>exact absurd rfl gp
          |tip z0 es0 _ _ _ rcs2 m2 hr2 ht fq hg hb2 hk=>
           have:rcs2=rcs/\m2=m:=by have:=hr2.1;rw[hr.1]at this;simp only[aA,aB]at this;exact⟨this.1.symm,this.2.symm⟩
           obtain⟨rfl,rfl⟩:=this;obtain⟨bc,bf⟩:=eI hr.1;have hii:id0≠id:=λe=>by rw[e,hf]at bc;cases bc
           have kd:gX H id info.size info.bytes xs.length vals (.slice (some ⟨id0,off,none⟩) es.length cc)=
                          some (.slice (some ⟨id,0,none⟩) (es.length+xs.length) (es.length+xs.length+1),(H.put id0 (.cells rcs2 {m2 with tip:=false})).put id (.cells (l++vals) {m2 with lim:=l.length})):=by
            simp only[gX,db,aI,hr.1,hl];rw[show Nat.beq cc es.length=false by rw[cQ];simp[gp]]
            simp only[aJ];rw[show(m2.tip&&m2.wr&&Nat.beq m2.z info.size&&Nat.beq (off+es.length*info.size) rcs2.length&&m2.grp.isSome)=true by
             rw[ku]at hb2;simp only[ht,fq,hg,cQ,ku,hb2,bM,Bool.and_self]]
            rfl
           have kp:Keep J (λi=>if i=id0 then none else some .out) H (H.put id0 (.cells rcs2 {m2 with tip:=false})):=by
            refine⟨rfl,aS _,λa ha=>?_,λa hn cs m bp=>?_⟩
            .rw[cA]at ha;split at ha
             .cases ha
             .exact ha
            .by_cases e:a=id0
             .subst e;rw[bc]at bp;simp only[aA,AObj.cells.injEq]at bp;obtain⟨rfl,rfl⟩:=bp;refine⟨false,by rw[cA,bI rfl],λ_=>rfl,λh=>?_⟩
              simp at h
             .exact⟨m.tip,by rw[cA,bH e];exact bp,λh=>h,λ_=>rfl⟩
           have se: ∀i k,I0 i=some k->k≠ .hand->(if i=id0 then none else some K.out)=some K.out:=λi k hi gx=>by
            rw[bH];intro e;rw[e,hk]at hi;simp only[aA]at hi;exact gx hi.symm
           have M1:Mem J I0 p (H.put id0 (.cells rcs2 {m2 with tip:=false})):=by
            refine⟨M0.le,M0.lt,M0.inj,M0.live,λk o gx=>?_,λa ha=>?_,M0.ver⟩
            .refine(M0.get k o gx).keep kp (.refl H J) rfl (λa ha=>?_) λi fh hi _=>⟨se i _ hi (by simp),hi⟩
             rw[cA,bH (λe=>hr.2 k (by rw[<-e];exact ha))]
            .rw[cA,bH (λe=>by subst e;rw[M0.free a ha]at bc;cases bc)];exact M0.free a ha
           have F1:FR J I0 (H.put id0 (.cells rcs2 {m2 with tip:=false})) (lK S s) A:=F0.keep kp (.refl H J) λi t hi _=>⟨se i _ hi (by simp),hi⟩
           obtain⟨I',k1,k2,k3,k4,k5,k6⟩:=BB (m:={m2 with lim:=l.length}) M1 F1 (by rw[cA,bH (Ne.symm hii)];exact hf) bh hz1 (λe he=>(List.mem_append.1 he).elim (mq e) (hxe e)) (hrl.keep kp (.refl H J)) (hvals.keep kp (.refl H J)) ku ht fq hg (by exact bf) (es.length+xs.length+1) bn
           refine⟨_,_,I',kd,k1,k2,k3,λ_=>k4,?_,GoOut.trans g0.out k6 (λa ha=>kp.dom a ha),rfl⟩
           have kp':Keep J I0 H (H.put id0 (.cells rcs2 {m2 with tip:=false})):=kp.weak λa ha=>by
            show(if a=id0 then none else some K.out)=some K.out
            exact se a _ ha (by simp)
           have:=Keep.trans (I:=I0) kp' (.refl H J) (k5.weak (I:=I0) λ_ _=>rfl) (.refl H I0)
           exact this.weak λa ha=>(g0 a).1 ha
    .cases h
   .cases h
  .cases h
 .cases h
end
end Go.PI
