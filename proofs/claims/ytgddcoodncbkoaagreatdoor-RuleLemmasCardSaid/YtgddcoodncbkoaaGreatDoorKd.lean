import Derived.Test.YtgddcoodncbkoaaGreatDoorKc
set_option linter.unusedVariables false
set_option linter.unusedSimpArgs false
set_option linter.constructorNameAsVariable false
set_option linter.defProp false
namespace Go.PI
open Go.AI
section
variable{P:Program}{J J':Nu}{I I1 I':Ga}{H H':St}{S:PS}{A:Slots}
def ObjR.keep{id:Nat}{o:mW}(h:ObjR J I H id o)(kp:Keep J I1 H H')(hm:Mon H J J')(hν:J' id=J id)(bf: ∀a,J id=some (some a)->H'.get a=H.get a)
    (hγ: ∀i off,I i=some (.cell id off)->H.get i≠none->I1 i=some .out/\I' i=some (.cell id off)):ObjR J' I' H' id o:=by
 cases o with
 |box cs=>
  obtain⟨a,us,h1,h2,h3,h4⟩:=h;refine⟨a,us,by rw[hν,h1],by rw[bf a h1,h2],h3,λi x b u hx hu=>?_⟩
  obtain⟨h5,h6,h7⟩:=h4 i x b u hx hu;exact⟨h5.keep kp hm,h6,λhb=>(h7 hb).keep kp hm λj hj hn=>hγ j i hj hn⟩
 |row z ag cs=>
  obtain⟨a,us,h1,h2,h3,h5,h4⟩:=h;exact⟨a,us,by rw[hν,h1],by rw[bf a h1,h2],h3,h5,λi x u hx hu=>(h4 i x u hx hu).keep kp hm⟩
 |map es=>exact h
 |gone=>show J' id=some none;rw[hν];exact h
def FR.keep(F:FR J I H S A)(kp:Keep J I1 H H')(hm:Mon H J J')(hγ: ∀i t,I i=some (.slot t)->H.get i≠none->I1 i=some .out/\I' i=some (.slot t)):FR J' I' H' S A:=
 λt=>⟨(F t).1.keep kp hm,λh=>((F t).2 h).keep kp hm λi hi hn=>hγ i t hi hn⟩
def FR.g(F:FR J I H S A)(hγ: ∀i t,I i=some (.slot t)->I' i=some (.slot t)):FR J I' H S A:=
 λt=>⟨(F t).1,λh=>((F t).2 h).weak λi hi=>hγ i t hi⟩
def Mem.upd{p:PSt}{id:Nat}{o o':mW}(M:Mem J I p H)(ho:p.get id=some o)(hn:ObjR J I' H id o')(hγ: ∀i j off,j≠id->I i=some (.cell j off)->I' i=some (.cell j off)):Mem J I' (p.upd id o') H:=by
 have hid:=aK0 ho;refine⟨M.le,M.lt,M.inj,λk a hk=>?_,λk ob hk=>?_,M.free,M.ver⟩
 ·rw[gO hid];split
  ·exact⟨_,rfl⟩
  ·exact M.live k a hk
 ·rw[gO hid]at hk;split at hk
  ·rename_i e;subst e;simp only[ojE]at hk;subst hk;exact hn
  ·rename_i e;exact(M.get k ob hk).g2 λi off hi=>hγ i k off e hi
def Mem.mark{p:PSt}{id:Nat}{o o':mW}(M:Mem J I p H)(ho:p.get id=some o)(hn:ObjR J I' H id o')(hγ: ∀i j off,j≠id->I i=some (.cell j off)->I' i=some (.cell j off)):Mem J I' (p.mark id o') H:=by
 have M':=M.upd ho hn hγ;exact⟨M'.le,M'.lt,M'.inj,M'.live,M'.get,M'.free,M'.ver⟩
def ptake_ok{p:PSt}(M:Mem J I p H)(F:FR J I H S A){t:TypeId}{a v:PV}{w u:Value}(r:R J H a w)(h:iF P p t a=some v)(hs:aIY v=true)(hu:kV P H t w=some u):
    ∃I',Mem J I' (eI p a).1 H/\FR J I' H S A/\((eI p a).2=true->Ow J I' H .hand v u)/\GoOut H I I':=by
 have kb:(eI p a)=(p,false)->∃I',Mem J I' (eI p a).1 H/\FR J I' H S A/\((eI p a).2=true->Ow J I' H .hand v u)/\GoOut H I I':=by
  intro e;rw[e];exact⟨I,M,F,λh=>(by cases h),.refl H I⟩
 cases a with
 |ptr id off=>
  cases hg:p.get id with
  |none=>exact kb (by simp only[eI,hg])
  |some ob=>
   cases ob with
   |box cs=>
    cases hc:cs[off]? with
    |none=>exact kb (by simp only[eI,hg,hc])
    |some c=>
     obtain⟨x,b⟩:=c;cases b with
     |false=>exact kb (by simp only[eI,hg,hc])
     |true=>
      have hobj:=M.get id _ hg;obtain⟨a',us,h1,h2,h3,h4⟩:=hobj;have hw:w= .pointer (some ⟨a',off,none⟩):=by
       cases r with
       |ptr _ _ _ hν=>rw[h1]at hν;simp only[ojE]at hν;subst hν;rfl
       |ptr0 _ _ _ hν=>rw[h1]at hν;cases hν
      subst hw;have hvx:v=x/\us[off]?=some u:=by
       simp only[iF,hg]at h;simp only[kV,aU h2 rfl]at hu;unfold pI at h;split at h
       ·split at h
        ·rename_i n en;cases hb:Nat.beq (((cs.map (·.1)).drop off).take n).length n with
         |false=>rw[hb,cdf]at h;cases h
         |true=>rw[hb,cdt]at h;simp only[ojE]at h;subst h;cases hs
        ·cases h
       ·rename_i e;rw[e]at hu;simp only[List.getElem?_map,hc,omS,ojE]at h;exact⟨h.symm,hu⟩
       ·cases h
      obtain⟨rfl,nv⟩:=hvx;obtain⟨h5,h6,h7⟩:=h4 off v true u hc nv;have jn:off<cs.length:=by
       rcases Nat.lt_or_ge off cs.length with h'|h'
       ·exact h'
       ·simp[List.getElem?_eq_none h']at hc
      refine⟨PI.mv (.cell id off) .hand I,?_,?_,?_,?_⟩
      ·simp only[eI,hg,hc];refine M.mark hg ⟨a',us,h1,h2,by simpa using h3,λi x b u' hx jt=>?_⟩ λi j o' hj hi=>?_
       ·rw[List.getElem?_set]at hx;split at hx
        ·rename_i e;subst e;simp only[ojE,pjE]at hx;obtain⟨rfl,rfl⟩:=hx;rw[nv]at jt;simp only[ojE]at jt;subst jt;exact⟨h5,h6,λh=>(by cases h)⟩
        ·rename_i e;obtain⟨h8,h9,h10⟩:=h4 i x b u' hx jt;exact⟨h8,h9,λhb=>(h10 hb).mv_ne (by simp;omega)⟩
       ·simp only[PI.mv,hi];rw[if_neg (by simp;intro e;exact absurd e hj)]
      ·exact F.g λi t hi=>by simp[PI.mv,hi]
      ·intro _;exact(h7 rfl).mv
      ·intro i _ hi;simp[PI.mv,hi]
   |_=>exact kb (by simp only[eI,hg])
 |_=>exact kb rfl
def pread_ok{p p':PSt}(M:Mem J I p H)(F:FR J I H S A){o:Oper}(ho:o.op.operands.all (aM P)=true){take own:Bool}{v:PV}(h:kJ P p S o take=some (v,own,p')):
    ∃u I',iT P H (ev A) o=some u/\R J H v u/\Mem J I' p' H/\FR J I' H S A/\(own=true->Ow J I' H .hand v u)/\GoOut H I I':=by
 replace ho:=sR ho
 obtain⟨dst,op,ty,pos,af,g⟩:=o;cases op with
 |load t a=>
  simp only[Op.operands,alC,List.all_nil,bnA]at ho;have ra:=aZ F ho;simp only[kJ]at h;simp only[iT];split at h
  ·rename_i v' hv;obtain⟨u,hu,hr⟩:=aAa M ra hv;cases hc:take&&aIY v' with
   |false=>
    rw[hc,cdf]at h;simp only[ojE,pjE]at h;obtain⟨rfl,rfl,rfl⟩:=h;exact⟨u,I,hu,hr,M,F,λh=>(by cases h),.refl H I⟩
   |true=>
    rw[hc,cdt]at h;simp only[ojE,pjE]at h;obtain⟨rfl,rfl,rfl⟩:=h;simp only[bjE]at hc;obtain⟨I',h1,h2,h3,h4⟩:=ptake_ok M F ra hv hc.2 hu;exact⟨u,I',hu,hr,h1,h2,h3,h4⟩
  ·cases h
 |slice t x lo hi mx=>
  simp only[Op.operands,Array.toList_append,List.all_append,bjE]at ho;simp only[kJ,mjE,pjE]at h;obtain⟨⟨w,fc⟩,hw,rfl,rfl,rfl⟩:=h;have hl: ∀{y:Option Operand},y.toArray.toList.all (aM P)=true->OR J H (y.map (pev S)) (y.map (ev A)):=by
   intro y hy;cases y with
   |none=>trivial
   |some y=>exact aZ F (by simpa using hy)
  obtain⟨y,h1,h2,h3⟩:=aKk M (aZ F (P:=P) (by simpa using ho.1.1.1)) (hl ho.1.1.2) (hl ho.1.2) (hl ho.2) hw
  exact⟨y,I,h1,h2,M,F,h3,.refl H I⟩
 |_=>simp only[kJ]at h;cases h
def aL(H:St)(id k:Nat)(o:AObj):(H.put id o).get k=if k=id then some o else H.get k:=by
 simp only[St.get,St.put,Tr.get_set]
def gQ:Ga:=λ_=>some .out
def Keep.put{id:Nat}{o:AObj}(h:H.get id=none):Keep J gQ H (H.put id o):=by
 refine⟨rfl,nlR _,λa ha=>?_,λa _ cs m hg=>⟨m.tip,?_,λh=>h,λ_=>rfl⟩⟩
 ·rw[aL]at ha;split at ha
  ·cases ha
  ·exact ha
 ·rw[aL,if_neg (by intro e;rw[e,h]at hg;cases hg)];exact hg
def gP{p:PSt}{o:mW}(k:Nat):(p.new o).get k=if k=p.next then some o else p.get k:=by
 simp only[PSt.get,PSt.new,Tr.get_set,iN,Bool.cond_decide];by_cases e:k=p.next
 ·subst e;simp
 ·simp only[e,if_false];by_cases h:k<p.next
  ·simp[h,show k<p.next+1 by omega]
  ·simp[h,show¬k<p.next+1 by omega]
def Mem.mk'{p:PSt}{id:Nat}{o:mW}{ob:AObj}(M:Mem J I p H)(F:FR J I H S A)(hf:H.get id=none)(bi:id<H.next)
    (hn: ∀J',J' p.next=some (some id)->Mon H J J'->ObjR J' I (H.put id ob) p.next o):
    ∃J',J' p.next=some (some id)/\Mem J' I (p.new o) (H.put id ob)/\FR J' I (H.put id ob) S A/\Mon H J J'/\(∀k,k<p.next->J' k=J k):=by
 have ca: ∀x,J p.next≠some x:=λx hx=>Nat.lt_irrefl _ (M.le _ _ hx)
 have e1:(λk=>if k=p.next then some (some id)else J k) p.next=some (some id):=by simp
 have gc:Mon H J (λk=>if k=p.next then some (some id)else J k):=by
  refine⟨λk x hk=>?_,λk a hk=>?_⟩
  ·by_cases e:k=p.next
   ·subst e;exact absurd hk (ca x)
   ·simp only[e,if_false];exact .inl hk
  ·by_cases e:k=p.next
   ·simp only[e,if_true,ojE]at hk;subst hk;exact .inr hf
   ·simp only[e,if_false]at hk;exact .inl hk
 refine⟨λk=>if k=p.next then some (some id)else J k,e1,⟨λk x hk=>?_,λk a hk=>?_,λi j a hi hj=>?_,λk a hk=>?_,λk ob' hk=>?_,λa ha=>?_,M.ver⟩,?_,gc,λk hk=>if_neg (by omega)⟩
 ·show k<p.next+1
  by_cases e:k=p.next
  ·omega
  ·simp only[e,if_false]at hk;have:=M.le _ _ hk;omega
 ·show a<H.next
  by_cases e:k=p.next
  ·simp only[e,if_true,ojE]at hk;omega
  ·simp only[e,if_false]at hk;exact M.lt _ _ hk
 ·have ne: ∀k a,J k=some (some a)->a≠id:=by
   intro k a hk e;subst e;obtain⟨o',fv⟩:=M.live _ _ hk;have:=M.get _ _ fv;cases o' with
   |box cs=>obtain⟨a',us,h1,h2,_⟩:=this;rw[hk]at h1;simp only[ojE]at h1;subst h1;rw[hf]at h2;cases h2
   |row z ag cs=>obtain⟨a',us,h1,h2,_⟩:=this;rw[hk]at h1;simp only[ojE]at h1;subst h1;rw[hf]at h2;cases h2
   |map es=>exact this.elim
   |gone=>rw[show J k=some none from this]at hk;cases hk
  by_cases e:i=p.next<;>by_cases e':j=p.next
  ·omega
  ·simp only[e,e',if_true,if_false,ojE]at hi hj;subst hi;exact absurd rfl (ne _ _ hj)
  ·simp only[e,e',if_true,if_false,ojE]at hi hj;subst hj;exact absurd rfl (ne _ _ hi)
  ·simp only[e,e',if_false]at hi hj;exact M.inj _ _ _ hi hj
 ·rw[gP];by_cases e:k=p.next
  ·simp[e]
  ·simp only[e,if_false]at hk⊢;exact M.live _ _ hk
 ·rw[gP]at hk;by_cases e:k=p.next
  ·subst e;simp only[if_true,ojE]at hk;subst hk;exact hn _ e1 gc
  ·simp only[e,if_false]at hk;refine(M.get k ob' hk).keep (Keep.put hf) gc (by simp[e]) (λa ha=>?_) λi off hi _=>⟨rfl,hi⟩
   rw[aL,if_neg];intro e2;subst e2;have:=M.get k ob' hk;cases ob' with
   |box cs=>obtain⟨a',us,h1,h2,_⟩:=this;rw[ha]at h1;simp only[ojE]at h1;subst h1;rw[hf]at h2;cases h2
   |row z ag cs=>obtain⟨a',us,h1,h2,_⟩:=this;rw[ha]at h1;simp only[ojE]at h1;subst h1;rw[hf]at h2;cases h2
   |map es=>exact this.elim
   |gone=>rw[show J k=some none from this]at ha;cases ha
 ·rw[aL,if_neg (by have:H.next<=a:=ha;omega)];exact M.free a ha
 ·exact F.keep (Keep.put hf) gc λi t hi _=>⟨rfl,hi⟩
def Mem.fz{p:PSt}{id:Nat}{ob:AObj}(M:Mem J I p H)(F:FR J I H S A)(hf:H.get id=none)(bi:id<H.next):
    Mem J I p (H.put id ob)/\FR J I (H.put id ob) S A/\∀k,J k≠some (some id):=by
 have de: ∀k,J k≠some (some id):=by
  intro k hk;obtain⟨o',fv⟩:=M.live _ _ hk;have:=M.get _ _ fv;cases o' with
  |box cs=>obtain⟨a',us,h1,h2,_⟩:=this;rw[hk]at h1;simp only[ojE]at h1;subst h1;rw[hf]at h2;cases h2
  |row z ag cs=>obtain⟨a',us,h1,h2,_⟩:=this;rw[hk]at h1;simp only[ojE]at h1;subst h1;rw[hf]at h2;cases h2
  |map es=>exact this.elim
  |gone=>rw[show J k=some none from this]at hk;cases hk
 refine⟨⟨M.le,M.lt,M.inj,M.live,λk o hk=>?_,λa ha=>?_,M.ver⟩,?_,de⟩
 ·refine(M.get k o hk).keep (Keep.put hf) (.refl H J) rfl (λa ha=>?_) λi off hi _=>⟨rfl,hi⟩
  rw[aL,if_neg (λe=>de k (by rw[<-e];exact ha))]
 ·rw[aL,if_neg (by have:H.next<=a:=ha;omega)];exact M.free a ha
 ·exact F.keep (Keep.put hf) (.refl H J) λi t hi _=>⟨rfl,hi⟩
end
end Go.PI
namespace Go.PI
open Go.AI
def aKg(xs cs:List PV)(off:Nat)(h:off+xs.length<=cs.length):aH5 cs off xs=cs.take off++xs++cs.drop (off+xs.length):=by
 induction xs generalizing cs off with
 |nil=>simp[aH5]
 |cons x xs ih=>
  simp only[lcS]at h;simp only[aH5];rw[ih _ _ (by simp;omega)]
  have h1:(cs.set off x).take (off+1)=cs.take off++ [x]:=by
   rw[List.take_add_one,List.take_set_of_le (nlR _),List.getElem?_set_self (by omega)];rfl
  have h2:(cs.set off x).drop (off+1+xs.length)=cs.drop (off+(xs.length+1)):=by
   rw[List.drop_set_of_lt (by omega)];congr 1;omega
  rw[h1,h2];simp
def zX(xs cs:List Value)(off:Nat)(h:off+xs.length<=cs.length):eZ cs off xs=cs.take off++xs++cs.drop (off+xs.length):=by
 induction xs generalizing cs off with
 |nil=>simp[eZ]
 |cons x xs ih=>
  simp only[lcS]at h;simp only[eZ];rw[ih _ _ (by simp;omega)]
  have h1:(cs.set off x).take (off+1)=cs.take off++ [x]:=by
   rw[List.take_add_one,List.take_set_of_le (nlR _),List.getElem?_set_self (by omega)];rfl
  have h2:(cs.set off x).drop (off+1+xs.length)=cs.drop (off+(xs.length+1)):=by
   rw[List.drop_set_of_lt (by omega)];congr 1;omega
  rw[h1,h2];simp
def aDC(a b:List PV):fL (a++b)=fL a++fL b:=by simp[fL]
def aGk{s:Nat}{es:List PV}(hs: ∀e∈es,e.cells.length=s){i:Nat}(hi:i<es.length){y:PV}(hy:y.cells.length=s):fL (es.set i y)=aH5 (fL es) (i*s) y.cells:=by
 have hle:i*s+s<=es.length*s:=by rw[<-Nat.succ_mul];exact Nat.mul_le_mul_right _ hi
 rw[aKg _ _ _ (by rw[hy,dR hs];exact hle),hy,<-aBN hs,show i*s+s=(i+1)*s by rw[Nat.succ_mul],<-aBO hs]
 rw[List.set_eq_take_append_cons_drop,if_pos hi];simp[fL]
def gW(x:PV):(wk x).cells=wks x.cells:=by
 cases x with
 |sl z es=>cases es<;>simp[wk,wks,PV.cells]
 |_=>simp[wk,wks,PV.cells]
def fF(xs:List PV):(wks xs).length=xs.length:=by
 induction xs with
 |nil=>rfl
 |cons x xs ih=>simp[wks,ih]
def aI7{x:PV}(h:x.pur=true):(wk x).pur=true:=by
 cases x with
 |sl z es=>cases es<;>rfl
 |_=>first|rfl|simp[PV.pur]at h
def zF{xs:List PV}(h:xs.all PV.pur=true):(wks xs).all PV.pur=true:=by
 induction xs with
 |nil=>rfl
 |cons x xs ih=>
  simp only[alC,bjE]at h;simp only[wks,alC,bjE];exact⟨aI7 h.1,ih h.2⟩
def zZ{x:PV}(h:x.pur=true):x.one=true:=by cases x<;>first|rfl|simp[PV.pur]at h
def nO{xs:List PV}(h:xs.all PV.pur=true):xs.all PV.one=true:=by
 rw[List.all_eq_true]at h⊢;exact λx hx=>zZ (h x hx)
def aFW{xs:List Value}(h:xs.all aE=true):(ofVs xs).all PV.pur=true:=by
 induction xs with
 |nil=>rfl
 |cons x xs ih=>
  simp only[alC,bjE]at h;simp only[PI.ofVs,alC,bjE];refine⟨?_,ih h.2⟩;have h1:=h.1;cases x with
  |slice a l c=>cases a<;>first|rfl|simp[aE]at h1
  |_=>first|rfl|simp[aE]at h1
section
variable{P:Program}{J J':Nu}{I I1 I':Ga}{H H':St}{S:PS}{A:Slots}
def fl_ok{k:Nat->K}{xs:List PV}{us:List Value}(r:RL J H xs us)(h1:xs.all PV.one=true){i:Nat}{x:PV}{b:Bool}{u:Value}(hx:(xs.map λc=>fl c false)[i]?=some (x,b))(hu:us[i]?=some u):
    R J H x u/\x.one=true/\(b=true->Ow J I H (k i) x u):=by
 rw[List.getElem?_map]at hx;cases hc:xs[i]? with
 |none=>rw[hc]at hx;cases hx
 |some c=>
  rw[hc]at hx;simp only[omS,ojE]at hx;have hr:=r.2 i c u hc hu;have ho:=(List.all_eq_true.1 h1) c (eA hc);cases c<;>simp only[fl,pjE]at hx<;>obtain⟨rfl,rfl⟩:=hx<;>first|(exact⟨hr,ho,λh=>(by cases h)⟩)|skip
  cases hr;exact⟨.emp0,rfl,λ_=> .nil _⟩
def RL.zeros{z:List PV}{w:List Value}(r:RL J H z w)(n:Nat):RL J H (eT z n) (bS w n):=by
 induction n with
 |zero=>exact .nil
 |succ n ih=>exact r.append ih
def aDB(x:PV)(n:Nat):fL (jS x n)=eT x.cells n:=by
 induction n with
 |zero=>rfl
 |succ n ih=>simp only[jS,eT,<-ih];simp[fL]
def zV(x:PV)(n:Nat):(jS x n).length=n:=by
 induction n with
 |zero=>rfl
 |succ n ih=>simp[jS,ih]
def aHZ{x y:PV}{n:Nat}(h:y∈jS x n):y=x:=by
 induction n with
 |zero=>simp[jS]at h
 |succ n ih=>simp only[jS,List.mem_cons]at h;exact h.elim id ih
def nH{a:Bool}{s:Nat}{x:PV}(h:shape a s x=true):x.cells.length=s/\x.cells.all PV.pur=true:=by
 cases x<;>simp only[shape,bjE]at h
 case agg cs=>exact⟨nqE h.1.2,h.2⟩
 all_goals
  refine⟨(nqE h.1.2).symm,?_⟩;simp only[PV.cells,alC,List.all_nil,bnA];exact h.2
def aC9{a:Bool}{s:Nat}: ∀(ps:List (Nat×PV)) (qs:List (Nat×Value)) (es es':List PV) (B:Array Value),PRs J H ps qs->(∀e∈es,e.cells.length=s/\e.cells.all PV.pur=true)->RL J H (fL es) B.toList->
    jA a s es ps=some es'->∃B',Instr.fill (λi=>some (i*s,s)) B qs=some B'/\RL J H (fL es') B'.toList/\(∀e∈es',e.cells.length=s/\e.cells.all PV.pur=true)/\es'.length=es.length:=by
 intro ps;induction ps with
 |nil=>
  intro qs es es' B hp hs hB h;have:qs=[]:=by have:=hp.1;simpa using this.symm
  subst this;simp only[jA,ojE]at h;subst h;exact⟨B,rfl,hB,hs,rfl⟩
 |cons q ps ih=>
  intro qs es es' B hp hs hB h;obtain⟨i,x⟩:=q;cases qs with
  |nil=>have:=hp.1;simp at this
  |cons q' qs=>
   obtain⟨i',u⟩:=q';have h1:=hp.1;simp only[mpC,List.cons.injEq]at h1;obtain⟨rfl,h1⟩:=h1;have h2:=hp.2;simp only[mpC]at h2;obtain⟨u',jd,he,hx,hr⟩:=h2.cons_inv;simp only[List.cons.injEq]at he;obtain⟨rfl,rfl⟩:=he;simp only[jA]at h;cases hc:Nat.blt i es.length&&shape a s x with
   |false=>rw[hc,cdf]at h;cases h
   |true=>
    rw[hc,cdt]at h;simp only[bjE,iN,djE]at hc;obtain⟨gm,hxp⟩:=nH hc.2;have hcs:=hx.cells (nO hxp);have hcw:=hcs.wks;have cr: ∀e∈es,e.cells.length=s:=λe he=>(hs e he).1
    have hle:i*s+s<=es.length*s:=by rw[<-Nat.succ_mul];exact Nat.mul_le_mul_right _ hc.1
    have fu:u.cells.size=s:=by have:=hcs.1;simp at this;omega
    have hBl:B.size=es.length*s:=by have:=hB.1;rw[dR cr]at this;simpa using this.symm
    simp only[Instr.fill];rw[if_neg (by simp[fu];omega)]
    have lg:(wk x).cells.length=s:=by rw[gW,fF,gm]
    obtain⟨B',hB1,hB2,hB3,hB4⟩:=ih qs (es.set i (wk x)) es' (u.cells.zipIdx.foldl (λcs (c,j)=>cs.setIfInBounds (i*s+j) c) B) ⟨h1,hr⟩ (λe he=>by
            rcases List.mem_or_eq_of_mem_set he with h'|h'
            · exact hs e h'
            · subst h';exact⟨lg,by rw[gW];exact zF hxp⟩) (by
            have:=aGj (J:=J) (H:=H) (i*s) (wks x.cells) u.cells.toList 0 (fL es) B hcw hB;rw[aGk cr hc.1 lg,gW];rw[<-Array.foldl_toList,Array.toList_zipIdx];exact this) h
    exact⟨B',hB1,hB2,hB3,by simpa using hB4⟩
def aKt{p p':PSt}{id:Nat}(M:Mem J I p H)(F:FR J I H S A)(hf:H.get id=none)(bi:id<H.next){o:Oper}(ho:o.op.operands.all (aM P)=true){v:PV}{own:Bool}
    (h:dB P p S o=some (v,own,p')):
    ∃u ob J' I',eO P (ev A) o id=some (u,ob)/\R J' (H.put id ob) v u/\Mem J' I' p' (H.put id ob)/\FR J' I' (H.put id ob) S A/\(own=true->Ow J' I' (H.put id ob) .hand v u)/\
      Mon H J J'/\GoOut H I I'/\p.next<=p'.next/\(∀k,k<p.next->J' k=J k)/\(p'.dirty=p.dirty/\p'.wr=p.wr)/\(∀k,k<p.next->p'.mem.get k=p.mem.get k):=by
 replace ho:=sR ho
 have go:GoOut H I I:= .refl H I;have hnm: ∀(ob:mW) (k:Nat),k<p.next->(p.new ob).mem.get k=p.mem.get k:=λob k hk=>by simp only[PSt.new,Tr.get_set];rw[if_neg (by omega)]
 obtain⟨dst,op,ty,pos,af,g⟩:=o;cases op with
 |alloc t=>
  simp only[dB]at h;split at h
  ·rename_i z hz;obtain⟨w,hw,hp,rfl⟩:=kD hz;simp only[ojE,pjE]at h;obtain⟨rfl,rfl,rfl⟩:=h;obtain⟨J',h1,h2,h3,h4,h5⟩:=M.mk' (o:= .box ((ofVs w.cells.toList).map λc=>fl c false)) (ob:= .cells w.cells.toList boxMeta) F hf bi λJ' h1 _=>
    ⟨id,w.cells.toList,h1,by rw[aL,if_pos rfl],by simp[mE],λi x b u hx hu=>fl_ok (k:=λi=> .cell p.next i) (.ofVs hp) (aFX hp) hx hu⟩
   exact⟨_,_,J',I,by simp only[eO,hw,hp,cdt],.ptr _ _ _ h1,h2,h3,λh=>(by cases h),h4,go,by simp[PSt.new],h5,⟨rfl,rfl⟩,hnm _⟩
  ·cases h
 |box t x=>
  simp only[Op.operands,alC,List.all_nil,bnA]at ho;have rx:=aZ F ho;simp only[dB]at h;cases hc:(pev S x).cells.all PV.one with
  |false=>rw[hc,cdf]at h;cases h
  |true=>
   rw[hc,cdt]at h;simp only[ojE,pjE]at h;obtain⟨rfl,rfl,rfl⟩:=h;have hcs:=rx.cells hc;obtain⟨J',h1,h2,h3,h4,h5⟩:=M.mk' (o:= .box ((pev S x).cells.map λc=>fl c false)) (ob:= .cells (ev A x).cells.toList boxMeta) F hf bi λJ' h1 hm=>
    ⟨id,(ev A x).cells.toList,h1,by rw[aL,if_pos rfl],by rw[List.length_map];exact hcs.1.symm,λi y b u hx hu=>fl_ok (k:=λi=> .cell p.next i) (hcs.keep (Keep.put hf) hm) hc hx hu⟩
   exact⟨_,_,J',I,by simp only[eO,hcs.one hc,cdt],.ptr _ _ _ h1,h2,h3,λh=>(by cases h),h4,go,by simp[PSt.new],h5,⟨rfl,rfl⟩,hnm _⟩
 |buildSlice t len parts=>
  simp only[dB]at h;simp only[eO];split at h
  ·rename_i e he;simp only[he];split at h
   ·rename_i s a z hs ha hz;obtain⟨w,hw,hp,rfl⟩:=kD hz;simp only[hs,hw];cases hc:Nat.ble (len*s) 1000000&&Nat.beq (ofVs w.cells.toList).length s&&Nat.ble 1 s&&(a||Nat.beq s 1)with
    |false=>rw[hc,cdf]at h;cases h
    |true=>
     rw[hc,cdt]at h;simp only[bjE]at hc;obtain⟨⟨⟨hc1,hc2⟩,hc3⟩,hc4⟩:=hc;have lg:w.cells.toList.length=s:=by have:=nqE hc2;rw[mE]at this;exact this
     split at h
     ·rename_i es mw;simp only[ojE,pjE]at h;obtain⟨rfl,rfl,rfl⟩:=h;have hzc:(bif a then PV.agg (ofVs w.cells.toList)else(ofVs w.cells.toList).headD .und).cells=ofVs w.cells.toList:=by
       cases a with
       |true=>rfl
       |false=>
        simp only[Bool.false_or]at hc4;have hs1:=nqE hc4;simp only[cdf];cases hl:w.cells.toList with
        |nil=>rw[hl]at lg;simp at lg;omega
        |cons y ys=>
         have:ys=[]:=by rw[hl]at lg;simp at lg;exact List.eq_nil_of_length_eq_zero (by omega)
         subst this;rw[hl]at hp;have:=aFX hp;simp only[PI.ofVs,alC,List.all_nil,bnA]at this;simp only[PI.ofVs,List.headD_cons];exact uD this
      have jv:PRs J H (parts.toList.map λ(i,x)=>(i,pev S x)) (parts.toList.map λ(i,x)=>(i,ev A x)):=PRs.of (P:=P) F (by simpa [Op.operands]using ho)
      have hzero:RL J H (fL (jS (wk (bif a then PV.agg (ofVs w.cells.toList)else(ofVs w.cells.toList).headD .und)) len)) (bS w.cells.toList len).toArray.toList:=by
       rw[aDB,gW,hzc];simpa using RL.zeros (RL.wks (RL.ofVs hp)) len
      obtain⟨B',hB1,hB2,hB3,hB4⟩:=aC9 (a:=a) (s:=s) _ _ _ es _ jv (λe he=>by
                rw[aHZ he,gW,hzc,fF,mE];exact⟨lg,zF (aFW hp)⟩) hzero mw
      rw[zV]at hB4;obtain⟨M',F',de⟩:=M.fz (ob:= .cells B'.toList (bO s)) F hf bi;have bh:Fz J (H.put id (.cells B'.toList (bO s))) id B'.toList (bO s):=⟨aU (by rw[aL,if_pos rfl]) rfl,de⟩
      refine⟨.slice (some ⟨id,0,none⟩) len len,.cells B'.toList (bO s),J,I,?_,?_,M',F',λ_=> .exact _ _ _ _ _ _ bh,.refl H J,go,nlR _,λ_ _=>rfl,⟨rfl,rfl⟩,λ_ _=>rfl⟩
      ·rw[show(w.cells.toList.all aE&&Nat.ble (len*s) 1000000&&Nat.beq w.cells.size s&&Nat.ble 1 s)=true by
        simp only[hp,hc1,hc3,Bool.true_and,bnA];rw[cG];simpa using lg]
       simp only[cdt];rw[Array.toList_map,hB1];rfl
      ·rw[<-hB4];refine aF2 (.sl s es id 0 es.length B'.toList (bO s) (Nat.le_of_ble_eq_true hc3) hB3 bh rfl ?_ λi x u hx hu=>?_)
       ·have:=hB2.1;rw[dR (λe he=>(hB3 e he).1)]at this;omega
       ·rw[Nat.zero_add]at hu;exact(hB2.2 i x u hx hu).keep (Keep.put hf) (.refl H J)
     ·cases h
   ·cases h
  ·cases h
 |makeSlice t l c=>
  simp only[Op.operands,alC,List.all_nil,bnA,bjE]at ho;have rl:=aZ F ho.1;have rc:=aZ F ho.2;simp only[dB]at h;simp only[eO];split at h
  ·rename_i e n k he hl me;rw[hl]at rl;rw[me]at rc;generalize ev A l=ul at rl⊢;generalize ev A c=uc at rc⊢;cases rl;cases rc;simp only[he];split at h
   ·rename_i info a hi ha;simp only[hi];split at h
    ·rename_i z hz;simp only[hz];cases hc:decide (0<=n)&&decide (n<=k)&&decide (k*(info.bytes:Int)<=1073741824)&&decide (k<=1073741824)&&z.cells.toList.all aE&&Nat.beq z.cells.size info.size&&Nat.ble 1 info.size&&(a||Nat.beq info.size 1)with
     |false=>rw[hc,cdf]at h;cases h
     |true=>
      rw[hc,cdt]at h;have me:=hc;simp only[bjE]at hc;rw[show(decide (0<=n)&&decide (n<=k)&&decide (k*(info.bytes:Int)<=1073741824)&&decide (k<=1073741824)&&z.cells.toList.all aE&&Nat.beq z.cells.size info.size&&Nat.ble 1 info.size)=true by
       simp only[hc.1.1.1.1.1.1.1,hc.1.1.1.1.1.1.2,hc.1.1.1.1.1.2,hc.1.1.1.1.2,hc.1.1.1.2,hc.1.1.2,hc.1.2,Bool.and_self]]
      simp only[cdt];by_cases hn0:n=0
      ·subst hn0;simp only[decide_true,cdt,ojE,pjE]at h;obtain⟨rfl,rfl,rfl⟩:=h;by_cases hk:(0:Int)=k
       ·simp only[hk,decide_true,cdt];rw[<-hk];obtain⟨M',F',de⟩:=M.fz (ob:= .cells [] (bO info.size)) F hf bi;have bh:Fz J (H.put id (.cells [] (bO info.size))) id [] (bO info.size):=⟨aU (by rw[aL,if_pos rfl]) rfl,de⟩
        refine⟨.slice (some ⟨id,0,none⟩) 0 0,.cells [] (bO info.size),J,I,rfl,?_,M',F',λ_=> .exact _ _ _ _ _ _ bh,.refl H J,go,nlR _,(by simp),(by simp),(by simp)⟩
        exact .sl info.size [] id 0 0 [] _ (Nat.le_of_ble_eq_true hc.1.2) (λe he=>by simp at he) bh rfl (by simp) (λi x u hx=>by simp[fL]at hx)
       ·simp only[hk,decide_false,cdf];obtain⟨M',F',de⟩:=M.fz (ob:= .cells [] {wr:=true,tip:=true,z:=info.size,grp:=some (id,0)}) F hf bi;have bc:(H.put id (.cells [] {wr:=true,tip:=true,z:=info.size,grp:=some (id,0)})).good {wr:=true,tip:=true,z:=info.size,grp:=some (id,0)}=true:=by
         show Nat.beq (H.ver id) 0=true;rw[M.ver id];rfl
        have bh:Fz J (H.put id (.cells [] {wr:=true,tip:=true,z:=info.size,grp:=some (id,0)})) id [] {wr:=true,tip:=true,z:=info.size,grp:=some (id,0)}:=⟨aU (by rw[aL,if_pos rfl]) bc,de⟩
        refine⟨.slice (some ⟨id,0,none⟩) 0 1,.cells [] _,J,λi=>if i=id then some .hand else I i,rfl,?_,?_,?_,λ_=>?_,.refl H J,?_,nlR _,(by simp),(by simp),(by simp)⟩
        ·exact .sl info.size [] id 0 1 [] _ (Nat.le_of_ble_eq_true hc.1.2) (λe he=>by simp at he) bh rfl (by simp) (λi x u hx=>by simp[fL]at hx)
        ·refine⟨M'.le,M'.lt,M'.inj,M'.live,λk o hk=>?_,M'.free,M'.ver⟩
         refine(M.get k o hk).keep (I1:=gQ) (Keep.put hf) (.refl H J) rfl (λa ha=>?_) λi off hi hn=>⟨rfl,?_⟩
         ·rw[aL,if_neg (λe=>de k (by rw[<-e];exact ha))]
         ·show(if i=id then some K.hand else I i)=_
          rw[if_neg (λe=>hn (by rw[e];exact hf))];exact hi
        ·refine F.keep (I1:=gQ) (Keep.put hf) (.refl H J) λi t hi hn=>⟨rfl,?_⟩
         show(if i=id then some K.hand else I i)=_
         rw[if_neg (λe=>hn (by rw[e];exact hf))];exact hi
        ·exact .tip info.size [] id 0 1 [] _ bh rfl rfl rfl (by simp) (by simp)
        ·intro i hn hi;show(if i=id then some K.hand else I i)=some K.out;rw[if_neg (λe=>hn (by rw[e];exact hf))];exact hi
      ·by_cases hnk:n=k
       ·subst hnk;simp only[hn0,decide_false,cdf,decide_true,cdt,ojE,pjE]at h;obtain⟨rfl,rfl,rfl⟩:=h;simp only[decide_true,cdt];have dd:=hc.1.1.1.2;have nd:RL J H (eT (wks (ofVs z.cells.toList)) n.toNat) (bS z.cells.toList n.toNat):=RL.zeros (RL.wks (RL.ofVs dd)) _;obtain⟨J',h1,h2,h3,h4,h5⟩:=M.mk' (o:= .row info.size a (eT (wks (ofVs z.cells.toList)) n.toNat)) (ob:= .cells (bS z.cells.toList n.toNat) (bO info.size)) F hf bi λJ' h1 hm=>
         ⟨id,bS z.cells.toList n.toNat,h1,by rw[aL,if_pos rfl],nd.1.symm,by
          rw[List.all_eq_true];intro x hx;have: ∀m,x∈eT (wks (ofVs z.cells.toList)) m->x∈wks (ofVs z.cells.toList):=by
           intro m;induction m with
           |zero=>intro h;simp[eT]at h
           |succ m ih=>intro h;simp only[eT,List.mem_append]at h;exact h.elim (λh=>h) ih
          exact(List.all_eq_true.1 (nO (zF (aFW dd)))) x (this _ hx),λi x u hx hu=>(nd.2 i x u hx hu).keep (Keep.put hf) hm⟩
        exact⟨_,_,J',I,rfl,.rs _ _ _ _ _ h1,h2,h3,λh=>(by cases h),h4,go,by simp[PSt.new],h5,⟨rfl,rfl⟩,hnm _⟩
       ·simp only[hn0,hnk,decide_false,cdf]at h;cases h
    ·cases h
   ·cases h
  ·cases h
 |_=>simp only[dB]at h;cases h
end
end Go.PI
namespace Go.PI
open Go.AI
section
variable{P:Program}{J J':Nu}{I I1 I':Ga}{H H':St}{S:PS}{A:Slots}
def Keep.weak(k:Keep J I1 H H')(h: ∀a,I a=some .out->I1 a=some .out):Keep J I H H':=
 ⟨k.vers,k.next,k.dom,λa hn cs m hg=>by
  obtain⟨b,h1,h2,h3⟩:=k.row a hn cs m hg;exact⟨b,h1,h2,λhh=>h3 (h a hh)⟩⟩
def Keep.trans{H'':St}(k:Keep J I H H')(hm:Mon H J J')(k':Keep J' I' H' H'')(hg:GoOut H I I'):Keep J I H H'':=by
 refine⟨k'.vers.trans k.vers,Nat.le_trans k.next k'.next,λa ha=>k.dom a (k'.dom a ha),λa hn cs m bf=>?_⟩
 obtain⟨b,h1,h2,h3⟩:=k.row a hn cs m bf;obtain⟨b',h4,h5,h6⟩:=k'.row a (λj hj=>by
  rcases hm.2 j a hj with e|e
  ·exact hn j e
  ·rw[bf]at e;cases e) cs _ h1
 refine⟨b',h4,λht=>h5 (h2 ht),λho=>?_⟩
 rw[h6 (hg a (by rw[bf];simp) ho)]
 exact h3 ho
def Keep.write{id a:Nat}{o:AObj}(hν:J id=some (some a))(hd:H.get a≠none):Keep J gQ H (H.put a o):=by
 refine⟨rfl,nlR _,λk hk=>?_,λk hn cs m hg=>⟨m.tip,?_,λh=>h,λ_=>rfl⟩⟩
 ·rw[aL]at hk;split at hk
  ·cases hk
  ·exact hk
 ·rw[aL,if_neg (λe=>hn id (by rw[e];exact hν))];exact hg
def Mem.write{p:PSt}{id a:Nat}{o:mW}{ob ob':AObj}(M:Mem J I p H)(F:FR J I H S A)(hν:J id=some (some a))(hg:H.get a=some ob)(hp: ∃o',p.get id=some o')
    (hn:ObjR J I' (H.put a ob') id o) (hγ: ∀i j off,j≠id->I i=some (.cell j off)->I' i=some (.cell j off)) (hs: ∀i t,I i=some (.slot t)->I' i=some (.slot t)):
    Mem J I' (p.upd id o) (H.put a ob')/\FR J I' (H.put a ob') S A:=by
 have kp:Keep J gQ H (H.put a ob'):=Keep.write hν (by rw[hg];simp)
 obtain⟨o',fv⟩:=hp;have hid:=aK0 fv;refine⟨⟨M.le,M.lt,M.inj,λk a hk=>?_,λk ob2 hk=>?_,λk hk=>?_,M.ver⟩,F.keep kp (.refl H J) λi t hi _=>⟨rfl,hs i t hi⟩⟩
 ·rw[gO hid];split
  ·exact⟨_,rfl⟩
  ·exact M.live k a hk
 ·rw[gO hid]at hk;split at hk
  ·rename_i e;subst e;simp only[ojE]at hk;subst hk;exact hn
  ·rename_i e;refine(M.get k ob2 hk).keep kp (.refl H J) rfl (λa' cz=>?_) λi off hi _=>⟨rfl,hγ i k off e hi⟩
   rw[aL,if_neg (λe2=>e (M.inj k id a (by rw[<-e2];exact cz) hν))]
 ·rw[aL,if_neg (λe=>by subst e;have:=M.lt _ _ hν;have h2:H.next<=k:=hk;omega)];exact M.free k hk
def lH{N:Type}{cs xs:List N}{off i:Nat}{x:N}(h:off+xs.length<=cs.length)(hi:(cs.take off++xs++cs.drop (off+xs.length))[i]?=some x):
    (i<off/\cs[i]?=some x)∨(off<=i/\i<off+xs.length/\xs[i-off]?=some x)∨(off+xs.length<=i/\cs[i]?=some x):=by
 have hl:(cs.take off).length=off:=by simp;omega
 rcases Nat.lt_or_ge i off with h1|h1
 ·left;rw[apA,List.getElem?_append_left (by omega),List.getElem?_take,if_pos h1]at hi
  exact⟨h1,hi⟩
 ·rcases Nat.lt_or_ge i (off+xs.length)with h2|h2
  ·right;left;rw[apA,List.getElem?_append_right (by omega),hl,List.getElem?_append_left (by omega)]at hi
   exact⟨h1,h2,hi⟩
  ·right;right;rw[List.getElem?_append_right (by simp;omega),List.getElem?_drop]at hi
   refine⟨h2,?_⟩;rw[<-hi];congr 1;simp;omega
def aDp{id:Nat}{l:List Nat}:id∈ins id l:=by
 unfold ins;cases h:l.contains id with
 |true=>simpa using h
 |false=>simp
def aKj{p p':PSt}(M:Mem J I p H)(F:FR J I H S A){t:TypeId}{a x:PV}{w u:Value}{own:Bool}(ra:R J H a w)(rx:R J H x u)(kd:own=true->Ow J I H .hand x u)(h:kI P p t a x own=some p'):
    ∃H' I',cO P H t w u=some H'/\Mem J I' p' H'/\FR J I' H' S A/\Keep J I H H'/\GoOut H I I'/\p'.next=p.next/\H'.next=H.next/\(∃i0 a0,J i0=some (some a0)/\i0∈p'.wr/\∀b,b≠a0->H'.get b=H.get b):=by
 cases a<;>simp only[kI]at h<;>try cases h
 rename_i id off;split at h
 ·rename_i cs n hg hn;cases hc:Nat.beq x.cells.length n&&Nat.ble (off+n) cs.length&&x.cells.all PV.one with
  |false=>rw[hc,cdf]at h;cases h
  |true=>
   rw[hc,cdt]at h;simp only[ojE]at h;subst h;simp only[bjE]at hc;obtain⟨⟨hc1,hc2⟩,hc3⟩:=hc;have gm:=nqE hc1;have hle:=Nat.le_of_ble_eq_true hc2;have hcs:=rx.cells hc3;obtain⟨a',us,h1,h2,h3,h4⟩:=M.get id _ hg;have hw:w= .pointer (some ⟨a',off,none⟩):=by
    cases ra with
    |ptr _ _ _ hν=>rw[h1]at hν;simp only[ojE]at hν;subst hν;rfl
    |ptr0 _ _ _ hν=>rw[h1]at hν;cases hν
   subst hw;have fu:u.cells.toList.length=n:=by rw[<-hcs.1,gm]
   have bw:cO P H t (.pointer (some ⟨a',off,none⟩)) u=some (H.put a' (.cells (eZ us off u.cells.toList) boxMeta)):=by
    simp only[cO,aU h2 rfl,hn];rw[show(boxMeta.wr&&Nat.beq u.cells.size n&&Nat.ble (off+n) us.length&&u.cells.toList.all one)=true by
     rw[hcs.one hc3,cG,aIb];simp only[Array.length_toList]at fu;simp[boxMeta,fu,h3,hle]]
    rfl
   have dc:=zX u.cells.toList us off (by rw[fu,h3];exact hle)
   have hkp:Keep J gQ H (H.put a' (.cells (eZ us off u.cells.toList) boxMeta)):=Keep.write h1 (by rw[h2];simp)
   have hobj: ∀I',(∀i k,I i=some (.cell id k)->I' i=some (.cell id k))->(∀i,own=true->I i=some .hand->I' i=some (.cell id off))->
          ObjR J I' (H.put a' (.cells (eZ us off u.cells.toList) boxMeta)) id (.box (cs.take off++x.cells.map (λc=>fl c own)++cs.drop (off+n))):=by
    intro I' hγ hγ2;refine⟨a',eZ us off u.cells.toList,h1,by rw[aL,if_pos rfl],?_,λi y b v hy hv=>?_⟩
    ·rw[dc];simp[h3];simp only[Array.length_toList]at fu;omega
    ·rw[show off+n=off+(x.cells.map λc=>fl c own).length by simp[gm]]at hy
     rw[dc,fu]at hv;rw[show off+n=off+u.cells.toList.length by rw[fu]]at hv
     have mi:=lH (by simp[gm];exact hle) hy
     have dr:=lH (by rw[fu,h3];exact hle) hv
     rw[List.length_map,gm]at mi;rw[fu]at dr;rcases mi with⟨e1,e2⟩|⟨e1,e2,e3⟩|⟨e1,e2⟩
     ·rcases dr with⟨f1,f2⟩|⟨f1,f2,f3⟩|⟨f1,f2⟩
      ·obtain⟨g1,g2,g3⟩:=h4 i y b v e2 f2;exact⟨g1.keep hkp (.refl H J),g2,λhb=>(g3 hb).keep hkp (.refl H J) λj hj _=>⟨rfl,hγ j i hj⟩⟩
      ·omega
      ·omega
     ·rcases dr with⟨f1,f2⟩|⟨f1,f2,f3⟩|⟨f1,f2⟩
      ·omega
      ·cases own with
       |false=>
        obtain⟨g1,g2,g3⟩:=fl_ok (I:=I) (k:=λ_=> .hand) hcs hc3 e3 f3
        refine⟨g1.keep hkp (.refl H J),g2,λhb=>?_⟩
        have:=g3 hb;rw[List.getElem?_map]at e3;cases gj:x.cells[i-off]? with
        |none=>rw[gj]at e3;cases e3
        |some c=>
         rw[gj]at e3;simp only[omS,ojE]at e3;have hr:=hcs.2 _ c v gj f3;cases c<;>simp only[fl,pjE]at e3<;>obtain⟨rfl,rfl⟩:=e3<;>first|(cases hb)|skip
         cases hr;exact .nil _
       |true=>
        have how:=kd rfl;have cr:dQ u=true:=how.slice hc3;have hxc:x.cells=[x]:=by
         cases x with
         |agg ys=>obtain⟨jd,rfl,_⟩:=rx.agg_inv;cases cr
         |_=>rfl
        have huc:u.cells.toList=[u]:=by cases u<;>first|rfl|cases cr
        rw[hxc]at e3;rw[huc]at f3;have hn1:n=1:=by rw[<-gm,hxc];rfl
        have hio:i=off:=by omega
        subst hio;simp only[Nat.sub_self,mpC,List.map_nil,gcZ,ojE]at e3 f3;subst f3;have hx1:x.one=true:=by rw[hxc]at hc3;simpa using hc3
        have hk:Ow J I' (H.put a' (.cells (eZ us i u.cells.toList) boxMeta)) (.cell id i) x u:=how.keep hkp (.refl H J) λj hj _=>⟨rfl,hγ2 j rfl hj⟩
        cases x<;>simp only[fl,pjE]at e3<;>obtain⟨rfl,rfl⟩:=e3<;>first|(exact⟨rx.keep hkp (.refl H J),hx1,λ_=>hk⟩)|skip
        cases rx;exact⟨.emp0,rfl,λ_=> .nil _⟩
      ·omega
     ·rcases dr with⟨f1,f2⟩|⟨f1,f2,f3⟩|⟨f1,f2⟩
      ·omega
      ·omega
      ·obtain⟨g1,g2,g3⟩:=h4 i y b v e2 f2;exact⟨g1.keep hkp (.refl H J),g2,λhb=>(g3 hb).keep hkp (.refl H J) λj hj _=>⟨rfl,hγ j i hj⟩⟩
   have hmv: ∀i k,I i=some k->k≠ .hand->PI.mv .hand (.cell id off) I i=some k:=λi k hi hk=>by
    simp only[PI.mv,hi];rw[if_neg (by simpa using hk)]
   obtain⟨M',F'⟩:=M.write (I':=PI.mv .hand (.cell id off) I) F h1 h2 ⟨_,hg⟩ (hobj _ (λi k hi=>hmv i _ hi (by simp)) λi _ hi=>by simp[PI.mv,hi]) (λi j o' hj hi=>hmv i _ hi (by simp)) (λi t hi=>hmv i _ hi (by simp))
   exact⟨_,_,bw,M',F',hkp.weak λ_ _=>rfl,λi _ hi=>hmv i _ hi (by simp),rfl,rfl,id,a',h1,aDp,λb hb=>by rw[aL,if_neg hb]⟩
 ·rename_i z ag cs n hg hn;cases hc:Nat.beq x.cells.length n&&Nat.ble (off+n) cs.length&&x.cells.all PV.one with
  |false=>rw[hc,cdf]at h;cases h
  |true=>
   rw[hc,cdt]at h;simp only[ojE]at h;subst h;simp only[bjE]at hc;obtain⟨⟨hc1,hc2⟩,hc3⟩:=hc;have gm:=nqE hc1;have hle:=Nat.le_of_ble_eq_true hc2;have hcs:=rx.cells hc3;obtain⟨a',us,h1,h2,h3,h5,h4⟩:=M.get id _ hg;have hw:w= .pointer (some ⟨a',off,none⟩):=by
    cases ra with
    |ptr _ _ _ hν=>rw[h1]at hν;simp only[ojE]at hν;subst hν;rfl
    |ptr0 _ _ _ hν=>rw[h1]at hν;cases hν
   subst hw;have fu:u.cells.toList.length=n:=by rw[<-hcs.1,gm]
   have bw:cO P H t (.pointer (some ⟨a',off,none⟩)) u=some (H.put a' (.cells (eZ us off u.cells.toList) (bO z))):=by
    simp only[cO,aU h2 rfl,hn];rw[show((bO z).wr&&Nat.beq u.cells.size n&&Nat.ble (off+n) us.length&&u.cells.toList.all one)=true by
     rw[hcs.one hc3,cG,aIb];simp only[Array.length_toList]at fu;simp[bO,fu,h3,hle]]
    rfl
   have dc:=zX u.cells.toList us off (by rw[fu,h3];exact hle)
   have hkp:Keep J gQ H (H.put a' (.cells (eZ us off u.cells.toList) (bO z))):=Keep.write h1 (by rw[h2];simp)
   have lg:(wks x.cells).length=n:=by rw[fF,gm]
   obtain⟨M',F'⟩:=M.write (I':=I) (o:= .row z ag (cs.take off++wks x.cells++cs.drop (off+n))) (ob':= .cells (eZ us off u.cells.toList) (bO z)) F h1 h2 ⟨_,hg⟩
    ⟨a',eZ us off u.cells.toList,h1,by rw[aL,if_pos rfl],by rw[dc];simp[h3,fF,gm];simp only[Array.length_toList]at fu;omega,by
     have hw1:(wks x.cells).all PV.one=true:=by
      have: ∀ys:List PV,ys.all PV.one=true->(wks ys).all PV.one=true:=by
       intro ys;induction ys with
       |nil=>intro _;rfl
       |cons y ys ih=>
        intro h;simp only[alC,bjE]at h;simp only[wks,alC,bjE];refine⟨?_,ih h.2⟩;have:=h.1;cases y with
        |sl z es=>cases es<;>rfl
        |_=>first|rfl|exact this
      exact this _ hc3
     rw[List.all_append,List.all_append,hw1];simp only[bnA,bjE,List.all_eq_true]at h5⊢;exact⟨λy hy=>h5 y (List.mem_of_mem_take hy),λy hy=>h5 y (List.mem_of_mem_drop hy)⟩,λi y v hy hv=>by
     rw[show off+n=off+(wks x.cells).length by rw[lg]]at hy
     rw[dc,fu]at hv;rw[show off+n=off+u.cells.toList.length by rw[fu]]at hv
     have mi:=lH (by rw[lg];exact hle) hy
     have dr:=lH (by rw[fu,h3];exact hle) hv
     rw[lg]at mi;rw[fu]at dr;rcases mi with⟨e1,e2⟩|⟨e1,e2,e3⟩|⟨e1,e2⟩
     ·rcases dr with⟨f1,f2⟩|⟨f1,f2,f3⟩|⟨f1,f2⟩
      ·exact(h4 i y v e2 f2).keep hkp (.refl H J)
      ·omega
      ·omega
     ·rcases dr with⟨f1,f2⟩|⟨f1,f2,f3⟩|⟨f1,f2⟩
      ·omega
      ·exact(hcs.wks.2 _ y v e3 f3).keep hkp (.refl H J)
      ·omega
     ·rcases dr with⟨f1,f2⟩|⟨f1,f2,f3⟩|⟨f1,f2⟩
      ·omega
      ·omega
      ·exact(h4 i y v e2 f2).keep hkp (.refl H J)⟩ (λi j o' hj hi=>hi) (λi t hi=>hi)
   exact⟨_,_,bw,M',F',hkp.weak λ_ _=>rfl,.refl H I,rfl,rfl,id,a',h1,aDp,λb hb=>by rw[aL,if_neg hb]⟩
 ·cases h
end
end Go.PI
namespace Go.PI
open Go.AI
section
variable{P:Program}{J J':Nu}{I I1 I':Ga}{H H':St}{S:PS}{A:Slots}
def rZ(cs:List Value)(off:Nat):cut cs off 0=some []:=by simp[cut,cG]
def cut_of{cs:List Value}{off n:Nat}(h:off+n<=cs.length):cut cs off n=some ((cs.drop off).take n):=by
 simp only[cut,cG];rw[show decide (((cs.drop off).take n).length=n)=true by simp;omega];rfl
def aFg{z:Nat}{es:List PV}{id off n c:Nat}(r:R J H (.sl z es) (.slice (some ⟨id,off,none⟩) n c)):
    n=es.length/\1<=z/\(∀e∈es,e.cells.length=z/\e.cells.all PV.pur=true)/\∃rcs m l,Fz J H id rcs m/\m.z=z/\off+es.length*z<=rcs.length/\cut rcs off (es.length*z)=some l/\RL J H (fL es) l:=by
 cases r with
 |sl _ _ _ _ _ rcs m hz hs hr hm hb hh=>
  refine⟨rfl,hz,hs,rcs,m,_,hr,hm,hb,cut_of hb,?_⟩;have kx:=dR (λe he=>(hs e he).1)
  refine⟨by simp[kx];omega,λi x u hx hu=>?_⟩
  rw[List.getElem?_take]at hu;split at hu
  ·rw[List.getElem?_drop]at hu;exact hh i x u hx hu
  ·cases hu
def wT{z:Nat}{d:TypeDesc}{x:PV}{u:Value}{xs:List PV}(r:R J H x u)(hz1:1<=z)(h:pG z d x=some xs):
    ∃vals,mU H z u=some (xs.length,vals)/\RL J H (fL xs) vals/\(∀e∈xs,e.cells.length=z/\e.cells.all PV.pur=true)/\fits d u=true:=by
 unfold pG at h;split at h
 ·cases x<;>simp only[mO]at h<;>try cases h
  ·cases r;exact⟨[],rfl,.nil,λe he=>by simp at he,rfl⟩
  ·cases r with
   |emp0=>exact⟨[],rfl,.nil,λe he=>by simp at he,rfl⟩
   |emp1 id off c rcs m hr=>exact⟨[],by simp only[mU,hr.1,Nat.zero_mul,rZ];rfl,.nil,λe he=>by simp at he,rfl⟩
   |emp2 b o s c=>exact⟨[],rfl,.nil,λe he=>by simp at he,rfl⟩
  ·rename_i z' es;cases hc:Nat.beq z z' with
   |false=>rw[hc,cdf]at h;cases h
   |true=>
    rw[hc,cdt]at h;simp only[ojE]at h;subst h;have gl:=nqE hc;subst gl;cases r with
    |sl _ _ id off c rcs m hz hs hr hm hb hh=>
     obtain⟨_,_,fy,mf,m',l,cb,_,bv,hl,hrl⟩:=aFg (.sl z es id off c rcs m hz hs hr hm hb hh);exact⟨l,by simp only[mU,cb.1,hl];rfl,hrl,fy,rfl⟩
 ·split at h
  ·rename_i s;cases hc:Nat.beq z 1 with
   |false=>rw[hc,cdf]at h;cases h
   |true=>
    rw[hc,cdt]at h;simp only[ojE]at h;subst h;have gl:=nqE hc;subst gl;cases r with
    |str ba=>
     refine⟨_,by simp only[mU,cdt];rw[show Nat.beq 1 1=true from rfl,cdt,List.length_map,Array.length_toList];rfl,?_,λe he=>?_,rfl⟩
     ·have: ∀bs:List UInt8,RL J H (fL (bs.map λb=>PV.v (.int .u8 b.toNat))) (bs.map λb=>Value.int .u8 b.toNat):=by
       intro bs;induction bs with
       |nil=>exact .nil
       |cons b bs ih=>simp only[mpC,fL,fmC,PV.cells,sgA];exact .cons (.v _ rfl) ih
      exact this _
     ·obtain⟨b,_,rfl⟩:=List.mem_map.1 he;exact⟨rfl,rfl⟩
  ·cases h
 ·cases h
def aAA{p:PSt}{id z:Nat}{es xs:List PV}{old vals:List Value}{m:Mta}(M:Mem J I p H)(F:FR J I H S A)(hf:H.get id=none)(bi:id<H.next)(hz:1<=z)
    (mn: ∀e∈es++xs,e.cells.length=z/\e.cells.all PV.pur=true) (ho:RL J H (fL es) old) (hv:RL J H (fL xs) vals) (hm:m.z=z) (ht:m.tip=true) (hw:m.wr=true) (hg:m.grp.isSome=true) (bc:H.good m=true) (c:Nat) (bu:es++xs≠ []):
    ∃I',R J (H.put id (.cells (old++vals) m)) (dN z (es++xs)) (.slice (some ⟨id,0,none⟩) (es.length+xs.length) c)/\Mem J I' p (H.put id (.cells (old++vals) m))/\FR J I' (H.put id (.cells (old++vals) m)) S A/\
      Ow J I' (H.put id (.cells (old++vals) m)) .hand (dN z (es++xs)) (.slice (some ⟨id,0,none⟩) (es.length+xs.length) c)/\Keep J gQ H (H.put id (.cells (old++vals) m))/\GoOut H I I':=by
 obtain⟨M',F',de⟩:=M.fz (ob:= .cells (old++vals) m) F hf bi;have bh:Fz J (H.put id (.cells (old++vals) m)) id (old++vals) m:=⟨aU (by rw[aL,if_pos rfl]) bc,de⟩
 have ch:=ho.append hv;rw[<-aDC]at ch;have kx:=dR (λe he=>(mn e he).1)
 have hlen:(old++vals).length=(es++xs).length*z:=by rw[<-kx];exact ch.1.symm
 have lk:dN z (es++xs)= .sl z (es++xs):=by
  cases hh:es++xs with
  |nil=>exact absurd hh bu
  |cons a l=>rfl
 have jo: ∀i k,I i=some k->H.get i≠none->(if i=id then some K.hand else I i)=some k:=λi k hi hn=>by
  rw[if_neg (λe=>hn (by rw[e];exact hf))];exact hi
 refine⟨λi=>if i=id then some .hand else I i,?_,?_,?_,?_,Keep.put hf,λi hn hi=>jo i _ hi hn⟩
 ·rw[lk,<-lnA];exact .sl z (es++xs) id 0 c _ m hz mn bh hm (by rw[hlen];omega) λi x u hx hu=>(ch.2 i x u hx (by simpa using hu)).keep (Keep.put hf) (.refl H J)
 ·refine⟨M'.le,M'.lt,M'.inj,M'.live,λk o hk=>?_,M'.free,M'.ver⟩
  refine(M.get k o hk).keep (I1:=gQ) (Keep.put hf) (.refl H J) rfl (λa ha=>?_) λi off hi hn=>⟨rfl,jo i _ hi hn⟩
  rw[aL,if_neg (λe=>de k (by rw[<-e];exact ha))]
 ·exact F.keep (I1:=gQ) (Keep.put hf) (.refl H J) λi t hi hn=>⟨rfl,jo i _ hi hn⟩
 ·rw[lk,<-lnA];exact .tip z (es++xs) id 0 c _ m bh ht hw hg (by rw[hm,hlen];omega) (by simp)
def kS{z:Nat}{x:PV}{es:List PV}(h:mO z x=some es):((x= .emp∨x= .nil)/\es=[])∨x= .sl z es:=by
 cases x<;>simp only[mO]at h<;>try cases h
 ·exact .inl ⟨.inr rfl,rfl⟩
 ·exact .inl ⟨.inl rfl,rfl⟩
 ·rename_i z' es';cases hc:Nat.beq z z' with
  |false=>rw[hc,cdf]at h;cases h
  |true=>
   rw[hc,cdt]at h;simp only[ojE]at h;subst h;have gl:=nqE hc;subst gl;exact .inr rfl
def aJc{p:PSt}(M:Mem J I p H)(z id:Nat):H.good (dO z id)=true:=by
 show Nat.beq (H.ver id) 0=true;rw[M.ver id];rfl
def aH7{p:PSt}{id:Nat}(M:Mem J I p H)(F:FR J I H S A)(hf:H.get id=none)(bi:id<H.next){c:Call}{s x:Operand}(hs:aM P s=true)(hx:aM P x=true){v:PV}{own:Bool}{S':PS}
    (h:pL P S c s x=some (v,own,S')):
    ∃u H' I',iH P H id c (ev A s) (ev A x)=some (u,H')/\R J H' v u/\Mem J I' p H'/\FR J I' H' S' A/\(own=true->Ow J I' H' .hand v u)/\Keep J I H H'/\GoOut H I I'/\H'.next=H.next:=by
 unfold pL at h;unfold iH;split at h
 ·rename_i t t1 ht;simp only[ht];split at h
  ·rename_i e d he hd;simp only[he,hd];split at h
   ·rename_i info hi;simp only[hi];split at h
    ·rename_i es xs z mw hxs hz;cases hc:Nat.ble 1 info.size&&Nat.ble 1 info.bytes&&Nat.beq z.cells.size info.size with
     |false=>rw[hc,cdf]at h;cases h
     |true=>
      rw[hc,cdt]at h;simp only[bjE]at hc;have hz1:=Nat.le_of_ble_eq_true hc.1.1;obtain⟨vals,ml,hvals,hxe,jp⟩:=wT (aZ F hx) hz1 hxs;obtain⟨I0,F0,how,g0⟩:=pO F s hs;have M0:=M.g2 g0;have rs:=aZ F hs;have fh:vals.all one=true:=hvals.one (by
       rw[List.all_eq_true];intro y hy;simp only[fL,List.mem_flatMap]at hy;obtain⟨e,he,hy⟩:=hy;exact zZ ((List.all_eq_true.1 (hxe e he).2) y hy))
      have cr:dQ (ev A s)=true:=by
       rcases kS mw with⟨h1|h1,_⟩|h1<;>rw[h1]at rs<;>generalize ev A s=w at rs<;>cases rs<;>rfl
      simp only[jp,cdt,ml,hz];rw[show(vals.all one&&Nat.ble 1 info.size&&Nat.ble 1 info.bytes&&Nat.beq z.cells.size info.size&&dQ (ev A s))=true by
       simp only[fh,hc.1.1,hc.1.2,hc.2,cr,Bool.and_self]]
      simp only[cdt];cases hx0:xs with
      |nil=>
       subst hx0;simp only[ojE,pjE]at h;obtain⟨rfl,rfl,rfl⟩:=h;exact⟨ev A s,H,I0,rfl,rs,M0,F0,how,.refl J I H,g0.out,rfl⟩
      |cons x0 xs0=>
       rw[hx0]at h;simp only at h;rw[<-hx0]at h;have hlen:xs.length≠0:=by rw[hx0];simp
       have bu:es++xs≠ []:=by rw[hx0];simp
       rw[<-hx0];rw[show Nat.beq xs.length 0=false by rw[cG];simp[hlen]]
       simp only[cdf];cases hc2:jD S s&&Nat.ble ((es.length+xs.length)*info.bytes) 1073741824 with
       |false=>rw[hc2,cdf]at h;cases h
       |true=>
        rw[hc2,cdt]at h;simp only[ojE,pjE]at h;obtain⟨rfl,rfl,rfl⟩:=h;simp only[bjE]at hc2;have how:=how hc2.1;have cy:=hc2.2;have hgt:=aJc M0 info.size id;have pi: ∀{old:List Value},RL J H (fL es) old->(∀e∈es,e.cells.length=info.size/\e.cells.all PV.pur=true)->
                    kC H id info.size info.bytes xs.length vals (ev A s)=some (.slice (some ⟨id,0,none⟩) (es.length+xs.length) (es.length+xs.length+1),H.put id (.cells (old++vals) (dO info.size id)))->
                    ∃u H' I',kC H id info.size info.bytes xs.length vals (ev A s)=some (u,H')/\R J H' (dN info.size (es++xs)) u/\Mem J I' p H'/\FR J I' H' (qU S s) A/\(true=true->Ow J I' H' .hand (dN info.size (es++xs)) u)/\Keep J I H H'/\GoOut H I I'/\H'.next=H.next:=by
         intro old hold mn gz;obtain⟨I',k1,k2,k3,k4,k5,k6⟩:=aAA (m:=dO info.size id) M0 F0 hf bi hz1 (λe he=>(List.mem_append.1 he).elim (mn e) (hxe e)) hold hvals rfl rfl rfl rfl hgt (es.length+xs.length+1) bu
         exact⟨_,_,I',gz,k1,k2,k3,λ_=>k4,k5.weak λ_ _=>rfl,GoOut.trans (H':=H) g0.out k6 (λ_ h=>h),rfl⟩
        rcases kS mw with⟨h1,rfl⟩|h1
        ·
         have rse:R J H .emp (ev A s):=by
          rcases h1 with h1|h1<;>rw[h1]at rs
          ·exact rs
          ·generalize ev A s=w at rs⊢;cases rs;exact .emp0
         simp only[lnN,Nat.zero_add]at cy pi⊢;refine pi (old:=[]) .nil (λe he=>by simp at he) ?_
         have li:Ow J I0 H .hand .emp (ev A s)∨ev A s= .slice none 0 0:=by
          rcases h1 with h1|h1<;>rw[h1]at how rs
          ·exact .inl how
          ·right;generalize ev A s=w at rs;cases rs;rfl
         clear how pi;generalize ev A s=w at rse li;cases rse with
         |emp0=>simp only[kC,cy,cdt];rfl
         |emp1 id0 off c rcs m hr=>
          have:c=0:=by
           rcases li with how|how
           ·cases how;rfl
           ·cases how
          subst this;simp only[kC,Nat.zero_add,cy,cdt,hr.1,Nat.zero_mul,rZ];rfl
         |emp2 b o s' c=>
          rcases li with how|how
          ·cases how;have hq:(Nat.beq 1 1&&Nat.ble (xs.length*info.bytes) 1073741824)=true:=by rw[cy];rfl
           simp only[kC,hq,cdt];rfl
          ·cases how
        ·rw[h1]at rs how;obtain⟨mn,se⟩:(∀e∈es,e.cells.length=info.size/\e.cells.all PV.pur=true)/\∃id0 off cc rcs m l,ev A s= .slice (some ⟨id0,off,none⟩) es.length cc/\Fz J H id0 rcs m/\m.z=info.size/\off+es.length*info.size<=rcs.length/\cut rcs off (es.length*info.size)=some l/\RL J H (fL es) l:=by
          generalize ev A s=w at rs;cases rs with
          |sl _ _ id0 off cc rcs m hz hs hr hm hb hh=>
           obtain⟨_,_,fy,mf,m',l,k1,k2,k3,k4,k5⟩:=aFg (.sl info.size es id0 off cc rcs m hz hs hr hm hb hh);exact⟨fy,id0,off,cc,mf,m',l,rfl,k1,k2,k3,k4,k5⟩
         obtain⟨id0,off,cc,rcs,m,l,hw,hr,kv,hb,hl,hrl⟩:=se;by_cases gj:cc=es.length
         ·refine pi hrl mn ?_;rw[hw,gj];simp only[kC,cy,cdt,hr.1,hl];rw[show Nat.beq es.length es.length=true by simp[cG]]
          rfl
         ·rw[hw]at how⊢;cases how with
          |exact=>exact absurd rfl gj
          |tip z0 es0 _ _ _ rcs2 m2 hr2 ht fq hg hb2 hk=>
           have:rcs2=rcs/\m2=m:=by have:=hr2.1;rw[hr.1]at this;simp only[ojE,pjE]at this;exact⟨this.1.symm,this.2.symm⟩
           obtain⟨rfl,rfl⟩:=this;obtain⟨bf,bc⟩:=bQ hr.1;have hii:id0≠id:=λe=>by rw[e,hf]at bf;cases bf
           have gz:kC H id info.size info.bytes xs.length vals (.slice (some ⟨id0,off,none⟩) es.length cc)=
                          some (.slice (some ⟨id,0,none⟩) (es.length+xs.length) (es.length+xs.length+1),(H.put id0 (.cells rcs2 {m2 with tip:=false})).put id (.cells (l++vals) {m2 with lim:=l.length})):=by
            simp only[kC,cy,cdt,hr.1,hl];rw[show Nat.beq cc es.length=false by rw[cG];simp[gj]]
            simp only[cdf];rw[show(m2.tip&&m2.wr&&Nat.beq m2.z info.size&&Nat.beq (off+es.length*info.size) rcs2.length&&m2.grp.isSome)=true by
             rw[kv]at hb2;simp only[ht,fq,hg,cG,kv,hb2,decide_true,Bool.and_self]]
            rfl
           have kp:Keep J (λi=>if i=id0 then none else some .out) H (H.put id0 (.cells rcs2 {m2 with tip:=false})):=by
            refine⟨rfl,nlR _,λa ha=>?_,λa hn cs m bn=>?_⟩
            ·rw[aL]at ha;split at ha
             ·cases ha
             ·exact ha
            ·by_cases e:a=id0
             ·subst e;rw[bf]at bn;simp only[ojE,AObj.cells.injEq]at bn;obtain⟨rfl,rfl⟩:=bn;refine⟨false,by rw[aL,if_pos rfl],λ_=>rfl,λh=>?_⟩
              simp at h
             ·exact⟨m.tip,by rw[aL,if_neg e];exact bn,λh=>h,λ_=>rfl⟩
           have re: ∀i k,I0 i=some k->k≠ .hand->(if i=id0 then none else some K.out)=some K.out:=λi k hi ge=>by
            rw[if_neg];intro e;rw[e,hk]at hi;simp only[ojE]at hi;exact ge hi.symm
           have M1:Mem J I0 p (H.put id0 (.cells rcs2 {m2 with tip:=false})):=by
            refine⟨M0.le,M0.lt,M0.inj,M0.live,λk o ge=>?_,λa ha=>?_,M0.ver⟩
            ·refine(M0.get k o ge).keep kp (.refl H J) rfl (λa ha=>?_) λi fe hi _=>⟨re i _ hi (by simp),hi⟩
             rw[aL,if_neg (λe=>hr.2 k (by rw[<-e];exact ha))]
            ·rw[aL,if_neg (λe=>by subst e;rw[M0.free a ha]at bf;cases bf)];exact M0.free a ha
           have F1:FR J I0 (H.put id0 (.cells rcs2 {m2 with tip:=false})) (qU S s) A:=F0.keep kp (.refl H J) λi t hi _=>⟨re i _ hi (by simp),hi⟩
           obtain⟨I',k1,k2,k3,k4,k5,k6⟩:=aAA (m:={m2 with lim:=l.length}) M1 F1 (by rw[aL,if_neg (Ne.symm hii)];exact hf) bi hz1 (λe he=>(List.mem_append.1 he).elim (mn e) (hxe e)) (hrl.keep kp (.refl H J)) (hvals.keep kp (.refl H J)) kv ht fq hg (by exact bc) (es.length+xs.length+1) bu
           refine⟨_,_,I',gz,k1,k2,k3,λ_=>k4,?_,GoOut.trans g0.out k6 (λa ha=>kp.dom a ha),rfl⟩
           have kp':Keep J I0 H (H.put id0 (.cells rcs2 {m2 with tip:=false})):=kp.weak λa ha=>by
            show(if a=id0 then none else some K.out)=some K.out
            exact re a _ ha (by simp)
           have:=Keep.trans (I:=I0) kp' (.refl H J) (k5.weak (I:=I0) λ_ _=>rfl) (.refl H I0)
           exact this.weak λa ha=>(g0 a).1 ha
    ·cases h
   ·cases h
  ·cases h
 ·cases h
end
end Go.PI
namespace Go.AI
section
variable{P:Program}{Y:Mp}
def vH(t:TypeId):aR P (typeInfo t)=P.info? t:=by
 unfold typeInfo;simp only[bind,Sem.bind,program,aR];cases P.info? t<;>rfl
def aF(t:TypeId):aR P (underlying t)=P.underlying t:=by
 unfold underlying;simp only[bind,Sem.bind,program,aR];cases P.underlying t<;>rfl
def aQ(t:TypeId):aR P (Go.sizeOf t)=iK P t:=by
 unfold Go.sizeOf iK;rw[aA,vH];cases P.info? t<;>rfl
def iZ(t:TypeId):aR P (isAgg t)=gU P t:=by
 unfold isAgg gU;rw[aA,aF];cases h:P.underlying t with
 |none=>rfl
 |some d=>cases d<;>rfl
def gJ{s:Sem Value}{v:Value}(h:aY P s=some v): ∃v',aR P s=some v'/\VR Y v v':=by
 unfold aY at h;split at h<;>try cases h
 rename_i u hu;cases hp:aO u with
 |false=>simp[hp]at h
 |true=>simp only[hp,cdt,ojE]at h;subst h;exact⟨u,hu,.same1 hp⟩
def VRL.extract{xs us:Array Value}(r:VRL Y xs.toList us.toList)(i j:Nat):VRL Y (xs.extract i j).toList (us.extract i j).toList:=by
 simp only[Array.toList_extract,List.extract_eq_take_drop];exact(r.drop i).take (j-i)
def VRL.size{xs us:Array Value}(r:VRL Y xs.toList us.toList):xs.size=us.size:=by simpa using r.1
def aGC{t:TypeId}{cs us:Array Value}{off:Nat}{v:Value}(r:VRL Y cs.toList us.toList)(h:aAQ P t cs off=some v): ∃v',aR P (part t us off)=some v'/\VR Y v v':=by
 unfold aAQ at h;unfold part;rw[aA,iZ];cases ha:gU P t with
 |none=>simp[ha]at h
 |some b=>
  cases b with
  |true=>
   simp only[ha]at h;cases hs:iK P t with
   |none=>simp[hs]at h
   |some n=>
    simp only[hs,ojE]at h;subst h;refine⟨.agg (us.extract off (off+n)),?_,.mkAgg' (r.extract _ _)⟩;simp only[obS,if_true,aA,aQ,hs,aB]
  |false=>
   simp only[ha]at h;obtain⟨u,hu,hr⟩:=r.get (i:=off) (x:=v) (by simpa using h)
   refine⟨u,?_,hr⟩;have:us[off]?=some u:=by simpa using hu
   simp[this,aB]
def aLa(place:Nat): ∀(c c':List Value) (k:Nat) (A A':Array Value),VRL Y c c'->VRL Y A.toList A'.toList->
    VRL Y ((c.zipIdx k).foldl (λ(cs:Array Value) x=>cs.setIfInBounds (place+x.2) x.1) A).toList ((c'.zipIdx k).foldl (λ(cs:Array Value) x=>cs.setIfInBounds (place+x.2) x.1) A').toList:=by
 intro c;induction c with
 |nil=>intro c' k A A' hc hA;rw[hc.nil_inv];simpa using hA
 |cons x c ih=>
  intro c' k A A' hc hA;obtain⟨u,c'',rfl,hx,me⟩:=hc.cons_inv;simp only[List.zipIdx_cons,List.foldl_cons];refine ih _ _ _ _ me ?_;simp only[Array.toList_setIfInBounds];exact hA.set hx _
def PR(Y:Mp):List (Nat×Value)->List (Nat×Value)->Prop
 |[],[]=>True
 |(i,x)::xs,(j,u)::us=>i=j/\VR Y x u/\PR Y xs us
 |_,_=>False
def aDE(place:Nat->Option (Nat×Nat)): ∀(ps qs:List (Nat×Value)) (A A':Array Value) (r:Array Value),PR Y ps qs->VRL Y A.toList A'.toList->Instr.fill place A ps=some r->
    ∃r',Instr.fill place A' qs=some r'/\VRL Y r.toList r'.toList:=by
 intro ps;induction ps with
 |nil=>
  intro qs A A' r hp hA h;cases qs with
  |nil=>simp only[Instr.fill,ojE]at h;subst h;exact⟨A',rfl,hA⟩
  |cons q qs=>exact hp.elim
 |cons p ps ih=>
  intro qs A A' r hp hA h;obtain⟨i,x⟩:=p;cases qs with
  |nil=>exact hp.elim
  |cons q qs=>
   obtain⟨j,u⟩:=q;obtain⟨rfl,hx,du⟩:=hp;have co:u.cells.size=x.cells.size:=(hx.cells.size).symm;have hsA:A'.size=A.size:=hA.size.symm;simp only[Instr.fill]at h⊢;cases dd:place i with
   |none=>simp[dd]at h
   |some os=>
    obtain⟨off,size⟩:=os;simp only[dd]at h⊢;rw[co,hsA];split at h
    ·cases h
    ·rename_i hn;rw[if_neg hn];refine ih _ _ _ _ du ?_ h;have:=aLa (Y:=Y) off x.cells.toList u.cells.toList 0 A A' hx.cells hA;rw[<-Array.foldl_toList,<-Array.foldl_toList,Array.toList_zipIdx,Array.toList_zipIdx];exact this
def PR_map{Z Z':Operand->Value}(l:List (Nat×Operand))(h: ∀x∈l,VR Y (Z x.2) (Z' x.2)):PR Y (l.map λ(i,x)=>(i,Z x)) (l.map λ(i,x)=>(i,Z' x)):=by
 induction l with
 |nil=>trivial
 |cons x l ih=>exact⟨rfl,h x (by simp),ih λy hy=>h y (by simp[hy])⟩
def aA3{Z Z':Operand->Value}(l:List Operand)(h: ∀x∈l,VR Y (Z x) (Z' x)):VRL Y (l.map Z) (l.map Z'):=by
 induction l with
 |nil=>exact .nil
 |cons x l ih=>exact .cons (h x (by simp)) (ih λy hy=>h y (by simp[hy]))
def aMT{t:TypeId}{ps qs:Array (Nat×Value)}{v:Value}(r:PR Y ps.toList qs.toList)(h:aCp P t ps=some v): ∃v',aR P (Instr.build t qs)=some v'/\VR Y v v':=by
 unfold aCp at h;cases hz:aR P (zeroValue t)with
 |none=>simp[hz]at h
 |some z=>
  simp only[hz]at h;cases hp:z.cells.toList.all aE with
  |false=>simp[hp]at h
  |true=>
   simp only[hp,cdt]at h;unfold Instr.build;simp only[aA,hz,obS,aF];cases hu:P.underlying t with
   |none=>simp[hu]at h
   |some d=>
    simp only[hu]at h;cases d with
    |struct fs=>
     simp only at h;cases hm:aR P (fs.mapM λf=>do pure (f.offset,<-Go.sizeOf f.type))with
     |none=>rw[hm]at h;cases h
     |some places=>
      simp only[hm,mjE]at h;obtain⟨cs,hf,rfl⟩:=h;obtain⟨cx,gf,hr⟩:=aDE _ _ _ _ _ _ r (VRL.same hp) hf;refine⟨.agg cx,?_,.mkAgg' hr⟩;simp only[obS,aA,hm];rw[gf];rfl
    |array n e=>
     simp only at h;cases hs:iK P e with
     |none=>simp[hs]at h
     |some s=>
      simp only[hs,mjE]at h;obtain⟨cs,hf,rfl⟩:=h;obtain⟨cx,gf,hr⟩:=aDE _ _ _ _ _ _ r (VRL.same hp) hf;refine⟨.agg cx,?_,.mkAgg' hr⟩;simp only[obS,aA,aQ,hs];rw[gf];rfl
    |_=>simp at h
def eW(id off n:Nat):(Addr.mk id off none).add n=⟨id,off+n,none⟩:=by
 unfold Addr.add;split
 ·rename_i h;subst h;rfl
 ·rfl
def VR.ptr_inv{id off:Nat}{u:Value}(r:VR Y (.pointer (some ⟨id,off,none⟩)) u): ∃p,Y id=some p/\u= .pointer (some ⟨p.b,p.o+off,none⟩):=by
 cases r with
 |same _ h=>simp[aE]at h
 |ptr _ _ p h=>exact⟨p,h,rfl⟩
def VR.slc_inv{id off len c:Nat}{u:Value}(r:VR Y (.slice (some ⟨id,off,none⟩) len c) u):
    ∃p cap,Y id=some p/\u= .slice (some ⟨p.b,p.o+off,none⟩) len cap/\(c=len->cap=len)/\len<=cap/\(p.o+off+cap*p.z<=p.e∨p.z=0):=by
 cases r with
 |same _ h=>simp[aE]at h
 |slc _ _ _ _ cap p h hc hl he=>exact⟨p,cap,h,rfl,hc,hl,he⟩
def VR.nilslc_inv{len c:Nat}{u:Value}(r:VR Y (.slice none len c) u):len=0/\c=0/\u= .slice none 0 0:=by
 cases r with
 |same _ h=>simp only[aE,cG,bjE,djE]at h;obtain⟨rfl,rfl⟩:=h;exact⟨rfl,rfl,rfl⟩
def VR.int_inv{k:IntKind}{n:Int}{u:Value}(r:VR Y (.int k n) u):u= .int k n:=r.eq0 rfl
def VR.bool_inv{b:Bool}{u:Value}(r:VR Y (.bool b) u):u= .bool b:=r.eq0 rfl
def VR.string_inv{s:ByteArray}{u:Value}(r:VR Y (.string s) u):u= .string s:=r.eq0 rfl
def aAS{s:TypeId}{a b v:Value}{f:Nat}(r:VR Y a b)(h:iU P s a f=some v): ∃v',aR P (Instr.fieldAt s b f)=some v'/\VR Y v v':=by
 unfold iU at h;unfold Instr.fieldAt;rw[aA,aF];split at h<;>try cases h
 rename_i fs hu;split at h<;>try cases h
 rename_i fd hf;split at h<;>try cases h
 rename_i n hn;split at h<;>try cases h
 rename_i id off;obtain⟨p,hp,rfl⟩:=r.ptr_inv;rw[cG,Bool.cond_decide]at h;split at h
 ·cases h
 ·rename_i hn0;cases h;refine⟨.pointer (some ⟨p.b,p.o+(off+fd.offset),none⟩),?_,.ptr _ _ p hp⟩;simp only[hu,obS,hf,Instr.sureAddr,aA,aB,fieldPlace,aQ,hn,if_neg hn0,eW,Nat.add_assoc]
def aMR{t:TypeId}{a b v:Value}{f:Nat}(r:VR Y a b)(h:aCn P t a f=some v): ∃v',aR P (Instr.field t b f)=some v'/\VR Y v v':=by
 unfold aCn at h;unfold Instr.field;rw[aA,aF];split at h<;>try cases h
 rename_i fs hu;split at h<;>try cases h
 rename_i fd hf;split at h<;>try cases h
 obtain⟨us,rfl,hl⟩:=r.agg_inv;obtain⟨v',hv,hr⟩:=aGC hl h;refine⟨v',?_,hr⟩;simp only[hu,obS,hf,asAgg,aA,aB,hv]
def mI{i:Int}{n:Nat}:bC i n=true↔0<=i/\i<(n:Int):=by simp[bC]
def aAR{t:TypeId}{a b i j v:Value}(r:VR Y a b)(ri:VR Y i j)(h:gG P t a i=some v): ∃v',aR P (Instr.indexAt t b j)=some v'/\VR Y v v':=by
 unfold gG at h;unfold Instr.indexAt;split at h<;>try cases h
 rename_i k n;obtain rfl:=ri.int_inv;rw[aA];simp only[asIntOf,aB,obS];rw[aA,aF];split at h<;>try cases h
 ·rename_i e hu;split at h<;>try cases h
  rename_i id off len c;obtain⟨p,cap,hp,rfl,_⟩:=r.slc_inv;split at h<;>try cases h
  rename_i z hz;cases hin:bC n len with
  |false=>simp[hin]at h
  |true=>
   simp only[hin,cdt,ojE]at h;subst h;rw[mI]at hin;refine⟨.pointer (some ⟨p.b,p.o+(off+n.toNat*z),none⟩),?_,.ptr _ _ p hp⟩;simp only[hu,obS,aA,aB,aF,if_pos hin,aQ,hz,eW,Nat.add_assoc]
 ·rename_i len e hu;split at h<;>try cases h
  rename_i id off;obtain⟨p,hp,rfl⟩:=r.ptr_inv;split at h<;>try cases h
  rename_i z hz;cases hin:bC n len with
  |false=>simp[hin]at h
  |true=>
   simp only[hin,cdt,ojE]at h;subst h;rw[mI]at hin;refine⟨.pointer (some ⟨p.b,p.o+(off+n.toNat*z),none⟩),?_,.ptr _ _ p hp⟩;simp only[hu,obS,aA,aB,aF,if_pos hin,aQ,hz,eW,Nat.add_assoc,Instr.sureAddr]
def aMP{t:TypeId}{a b i j v:Value}(r:VR Y a b)(ri:VR Y i j)(h:aCm P t a i=some v): ∃v',aR P (Instr.index t b j)=some v'/\VR Y v v':=by
 unfold aCm at h;split at h<;>try cases h
 ·rename_i hu;cases hp:(aE a&&aE i)with
  |false=>simp[hp]at h
  |true=>
   simp only[hp,cdt]at h;simp only[bjE]at hp;obtain rfl:=r.eq0 hp.1;obtain rfl:=ri.eq0 hp.2;exact gJ h
 ·rename_i len e hu;split at h<;>try cases h
  rename_i k n cs;obtain rfl:=ri.int_inv;obtain⟨us,rfl,hl⟩:=r.agg_inv;split at h<;>try cases h
  rename_i z hz;cases hin:bC n len with
  |false=>simp[hin]at h
  |true=>
   simp only[hin,cdt]at h;rw[mI]at hin;obtain⟨v',hv,hr⟩:=aGC hl h;refine⟨v',?_,hr⟩;unfold Instr.index;simp only[asIntOf,aA,aB,obS,aF,hu,if_pos hin,aQ,hz,hv]
def bZ{n:Int}{k:IntKind}{y:Nat}{code:BoundsCode}(h0:0<=n)(h1:n<=(y:Int)):aR P (Instr.sliceBound (.int k n) y code)=some n.toNat:=by
 unfold Instr.sliceBound;simp only[asIntOf,aA,aB,obS];rw[if_pos ⟨h0,h1⟩];rfl
def cH{a:Option Value}{l:Option Int}(h:jV a=some l):(a=none/\l=none)∨∃k n,a=some (.int k n)/\l=some n:=by
 unfold jV at h;split at h
 ·cases h;exact .inl ⟨rfl,rfl⟩
 ·rename_i k n;cases h;exact .inr ⟨k,n,rfl,rfl⟩
 ·cases h
def OR(Y:Mp):Option Value->Option Value->Prop
 |none,none=>True
 |some x,some u=>VR Y x u
 |_,_=>False
def aNQ{Z Z':Operand->Value}(x:Option Operand)(h: ∀y,x=some y->VR Y (Z y) (Z' y)):OR Y (x.map Z) (x.map Z'):=by
 cases x with
 |none=>trivial
 |some y=>exact h y rfl
def OR.int{a b:Option Value}{l:Option Int}(r:OR Y a b)(h:jV a=some l):b=a:=by
 rcases cH h with⟨rfl,rfl⟩|⟨k,n,rfl,rfl⟩
 ·cases b with
  |none=>rfl
  |some x=>exact r.elim
 ·cases b with
  |none=>exact r.elim
  |some x=>rw[VR.int_inv r]
def OR.plain{a b:Option Value}(r:OR Y a b)(h:aE (a.getD (.bool true))=true):b=a:=by
 cases a with
 |none=>cases b with
  |none=>rfl
  |some x=>exact r.elim
 |some y=>cases b with
  |none=>exact r.elim
  |some x=>rw[VR.eq0 r h]
def eG{lo hi mx:Option Value}{len cap:Nat}{l h m:Option Int}(hl:jV lo=some l)(hh:jV hi=some h)(hm:jV mx=some m)
    (hmh:m≠none->h≠none) (h0:0<=l.getD 0) (h1:l.getD 0<=h.getD (len:Int)) (h2:h.getD (len:Int)<=m.getD (cap:Int)) (h3:m.getD (cap:Int)<=(cap:Int)) (h4:len<=cap):
    aR P (Instr.sliceBounds true len cap lo hi mx)=some ((l.getD 0).toNat,(h.getD (len:Int)).toNat,(m.getD (cap:Int)).toNat):=by
 unfold Instr.sliceBounds;rcases cH hm with⟨rfl,rfl⟩|⟨km,nm,rfl,rfl⟩
 ·rcases cH hh with⟨rfl,rfl⟩|⟨kh,nh,rfl,rfl⟩
  ·rcases cH hl with⟨rfl,rfl⟩|⟨kl,nl,rfl,rfl⟩
   ·simp[aA,aB]
   ·simp only[Option.getD_none,Option.getD_some]at*;simp only[aA,aB,obS,bZ h0 h1,Int.toNat_natCast]
  ·rcases cH hl with⟨rfl,rfl⟩|⟨kl,nl,rfl,rfl⟩
   ·simp only[Option.getD_none,Option.getD_some]at*;simp only[aA,aB,obS,bZ (show 0<=nh by omega) h2,Int.toNat_natCast,Int.toNat_zero]
   ·simp only[Option.getD_none,Option.getD_some]at*;simp only[aA,aB,obS,bZ (show 0<=nh by omega) h2,Int.toNat_natCast]
    rw[bZ h0 (by omega)];rfl
 ·rcases cH hh with⟨rfl,rfl⟩|⟨kh,nh,rfl,rfl⟩
  ·exact absurd rfl (hmh (by simp))
  ·rcases cH hl with⟨rfl,rfl⟩|⟨kl,nl,rfl,rfl⟩
   ·simp only[Option.getD_none,Option.getD_some]at*;simp only[aA,aB,obS,bZ (show 0<=nm by omega) h3,Int.toNat_zero]
    rw[bZ (show 0<=nh by omega) (by omega)];rfl
   ·simp only[Option.getD_none,Option.getD_some]at*;simp only[aA,aB,obS,bZ (show 0<=nm by omega) h3]
    rw[bZ (show 0<=nh by omega) (by omega)]
    simp only[obS];rw[bZ h0 (by omega)];rfl
def aMK{H:St}{t:TypeId}{a b v:Value}{lo hi mx lp jx mx':Option Value}(hZ: ∀id p z,Y id=some p->vI H id z=true->p.z=z)
    (r:VR Y a b) (rl:OR Y lo lp) (rh:OR Y hi jx) (rm:OR Y mx mx') (h:qX P H t a lo hi mx=some v):
    ∃v',aR P (Instr.sliceAt t b lp jx mx')=some v'/\VR Y v v':=by
 unfold qX at h;split at h<;>try cases h
 ·rename_i hu;split at h<;>try cases h
  rename_i s;obtain rfl:=r.string_inv;cases hp:(mx.isNone&&aE (lo.getD (.bool true))&&aE (hi.getD (.bool true)))with
  |false=>simp[hp]at h
  |true=>
   simp only[hp,cdt]at h;simp only[bjE]at hp;obtain rfl:=rl.plain hp.1.2;obtain rfl:=rh.plain hp.2;have:mx=none:=by simpa using hp.1.1
   subst this;obtain rfl:mx'=none:=by cases mx' with|none=>rfl|some x=>exact rm.elim
   exact gJ h
 ·rename_i e hu;split at h<;>try cases h
  rename_i base len c;split at h<;>try cases h
  rename_i z l hh m hz hl jy hm;obtain rfl:=rl.int hl;obtain rfl:=rh.int jy;obtain rfl:=rm.int hm;simp only at h;cases hb:(decide (0<=l.getD 0)&&decide (l.getD 0<=hh.getD (len:Int))&&decide (hh.getD (len:Int)<=(len:Int)))with
  |false=>rw[hb]at h;cases h
  |true=>
   rw[hb]at h;simp only[bjE,djE]at hb;obtain⟨⟨h0,h1⟩,h2⟩:=hb;simp only[cdt]at h;have hS: ∀x,aR P (Instr.sliceAt t x lp jx mx')=aR P (Instr.slice t x lp jx mx'):=by
    intro x;unfold Instr.sliceAt;rw[aA,aF,hu];rfl
   rw[hS];by_cases hz0:(Nat.beq len 0&&aIh m&&hh.isSome)=true
   ·rw[hz0,cdt]at h;simp only[ojE]at h;subst h;simp only[bjE]at hz0;obtain⟨⟨hz1,hz2⟩,hz3⟩:=hz0;have hl0:=nqE hz1;subst hl0;have hm0:m=some 0:=by
     cases m with
     |none=>cases hz2
     |some n=>simp only[aIh,djE]at hz2;rw[hz2]
    subst hm0;have hn:hh≠none:=by intro e;subst e;cases hz3
    have e1:(l.getD 0).toNat=0:=by simp only[Int.natCast_zero]at h2 h1;omega
    have e2:(hh.getD ((0:Nat):Int)).toNat=0:=by simp only[Int.natCast_zero]at h2 h1⊢;omega
    have hB:=λcap=>eG (P:=P) (len:=0) (cap:=cap) hl jy hm (λ_=>hn) h0 h1 (by simp only[Int.natCast_zero,Option.getD_some]at h2⊢;omega) (by simp) (Nat.zero_le _)
    cases base with
    |none=>
     obtain⟨_,rfl,rfl⟩:=r.nilslc_inv;refine⟨.slice none 0 0,?_,.same _ rfl⟩;unfold Instr.slice;rw[aA,aF,hu];simp only[obS];rw[aA,hB 0];simp only[obS,aA,aQ,hz,e1,e2,Option.getD_some,Int.toNat_zero,if_true,Nat.sub_self,aB]
    |some a=>
     obtain⟨a',cap,rfl⟩: ∃a' cap,b= .slice (some a') 0 cap:=by
      cases r with
      |same _ hp=>simp[aE]at hp
      |slc=>exact⟨_,_,rfl⟩
      |emp=>exact⟨_,_,rfl⟩
     refine⟨.slice (some a') 0 0,?_,.emp _ 1 0 λ_=>rfl⟩
     unfold Instr.slice;rw[aA,aF,hu];simp only[obS];rw[aA,hB cap];simp only[obS,aA,aQ,hz,e1,e2,Option.getD_some,Int.toNat_zero,if_true,Nat.sub_self,aB]
   rw[Bool.not_eq_true]at hz0;rw[hz0,cdf]at h;have hzero: ∀a' cap,len=0->mx'=none->aR P (Instr.slice t (.slice (some a') len cap) lp jx mx')=some (.slice (some a') len cap):=by
    rintro a' cap rfl rfl;unfold Instr.slice;rw[aA,aF,hu];simp only[obS];rcases cH hm with⟨_,rfl⟩|⟨_,_,e,_⟩
    ·have hB:=eG (P:=P) (len:=0) (cap:=cap) hl jy hm (by simp) h0 h1 (by simp only[Option.getD_none,Int.natCast_zero]at h2⊢;omega) (by simp) (Nat.zero_le _)
     simp only[Option.getD_none]at hB;rw[aA,hB];have e1:(l.getD 0).toNat=0:=by simp only[Int.natCast_zero]at h2 h1;omega
     have e2:(hh.getD ((0:Nat):Int)).toNat=0:=by simp only[Int.natCast_zero]at h2 h1⊢;omega
     simp only[obS,aA,aQ,hz,e1,e2,Int.toNat_natCast,Nat.sub_self,Nat.sub_zero,aB,Nat.zero_mul];split
     ·rfl
     ·simp only[omS,Addr.add,if_true]
    ·cases e
   by_cases hsp: ∃x y s,base=some ⟨x,y,some s⟩
   ·obtain⟨x,y,s,rfl⟩:=hsp;simp only at h;cases hc0:(Nat.beq len 0&&mx'.isNone)with
    |false=>rw[hc0]at h;cases h
    |true=>
     rw[hc0]at h;simp only[cdt,ojE]at h;subst h;simp only[bjE]at hc0;have hl0:=nqE hc0.1;have qc:mx'=none:=by simpa using hc0.2
     cases r with
     |same _ hp=>simp[aE]at hp
     |emp a' _ cap hs=>exact⟨_,hzero a' cap rfl qc,.emp a' _ cap hs⟩
   by_cases hrz0: ∃id off,base=some ⟨id,off,none⟩/\vI H id z=false
   ·obtain⟨id,off,rfl,lu⟩:=hrz0;simp only[lu,cdf]at h;cases hc0:(Nat.beq len 0&&mx'.isNone)with
    |false=>rw[hc0]at h;cases h
    |true=>
     rw[hc0]at h;simp only[cdt,ojE]at h;subst h;simp only[bjE]at hc0;have hl0:=nqE hc0.1;have qc:mx'=none:=by simpa using hc0.2
     obtain⟨p,cap,hp,rfl,hc,hlc,he⟩:=r.slc_inv;exact⟨_,hzero _ cap hl0 qc,r⟩
   unfold Instr.slice;rw[aA,aF,hu];simp only[obS];split at h
   ·
    obtain⟨rfl,rfl,rfl⟩:=r.nilslc_inv;cases hmx:mx'.isNone with
    |false=>simp[hmx]at h
    |true=>
     simp only[hmx,cdt,ojE]at h;subst h;have:mx'=none:=by simpa using hmx
     subst this;rcases cH hm with⟨_,rfl⟩|⟨_,_,e,_⟩
     ·have hB:=eG (P:=P) (len:=0) (cap:=0) hl jy hm (by simp) h0 h1 (by simpa using h2) (by simp) (nlR _)
      refine⟨.slice none 0 0,?_,.same _ rfl⟩;simp only[Option.getD_none]at hB;rw[aA,hB];have e1:(l.getD 0).toNat=0:=by simp only[Int.natCast_zero]at h2 h1;omega
      have e2:(hh.getD ((0:Nat):Int)).toNat=0:=by simp only[Int.natCast_zero]at h2 h1⊢;omega
      simp only[obS,aA,aQ,hz,e1,e2,Int.toNat_natCast,if_true,Nat.sub_self,aB]
     ·cases e
   ·rename_i id off;obtain⟨p,cap,hp,rfl,hc,hlc,he⟩:=r.slc_inv;cases lu:vI H id z with
    |false=>exact absurd ⟨id,off,rfl,lu⟩ hrz0
    |true=>
    rw[lu]at h;simp only[cdt]at h;have qp:=hZ id p z hp lu;generalize hL:(l.getD 0).toNat=L at*;generalize hH:(hh.getD (len:Int)).toNat=σ at*;have hLH:L<=σ:=by omega
    have hHl:σ<=len:=by omega
    have hmul:p.o+(off+L*z)+(cap-L)*p.z<=p.e∨p.z=0:=by
     refine he.imp (λhe=>?_) _root_.id
     have:(cap-L)*p.z=cap*p.z-L*p.z:=Nat.sub_mul _ _ _;have h':L*p.z<=cap*p.z:=Nat.mul_le_mul_right _ (by omega)
     rw[<-qp];omega
    split at h
    ·
     rename_i qc;rcases cH hm with⟨rfl,_⟩|⟨_,_,_,e⟩
     ·have hB:=eG (P:=P) (len:=len) (cap:=cap) hl jy hm (by simp) h0 h1 (by simp;omega) (by simp) hlc
      simp only[Option.getD_none,Int.toNat_natCast,hL,hH]at hB;simp only;rw[aA,hB];simp only[obS,aA,aQ,hz,aB];refine⟨_,rfl,?_⟩;simp only[cG,Bool.cond_decide,<-Bool.decide_and]at h;split at h
      ·rename_i dt;obtain⟨dt,pg⟩:=dt;have fa:=hc dt;subst fa;split at h
       ·rename_i hll;cases h;rw[if_pos hll.symm,pg,hll,Nat.sub_self];exact .slc id off 0 0 0 p hp (λ_=>rfl) (nlR _) (he.imp (λhe=>by simp;have:=Nat.zero_le (cap*p.z);omega) _root_.id)
       ·rename_i hll;cases h;rw[if_neg (by omega),pg]
        simp only[omS,eW,Nat.add_assoc];exact .slc id (off+L*z) (cap-L) (cap-L) (cap-L) p hp (λ_=>rfl) (nlR _) hmul
      ·split at h
       ·rename_i dt pg;cases h;obtain⟨pg,hl0⟩:=pg;have: ¬cap=L∨cap=0:=by omega
        subst pg;subst hl0;have e3:(if cap=0 then some (Addr.mk p.b (p.o+off) none)else Option.map (λx=>x.add (0*z)) (some (Addr.mk p.b (p.o+off) none)))=some (Addr.mk p.b (p.o+off) none):=by
         split
         ·rfl
         ·simp[eW]
        rw[e3];exact .slc id off _ c cap p hp hc hlc he
       ·split at h
        ·rename_i hll;cases h;rw[if_neg (by omega)]
         simp only[omS,eW,Nat.add_assoc];exact .slc id (off+L*z) (σ-L) (σ-L+1) (cap-L) p hp (λe=>by omega) (by omega) hmul
        ·cases h;rw[show σ-L=0 by omega]
         split
         ·exact .emp _ 0 _ (λh=>by cases h)
         ·simp only[omS];exact .emp _ 0 _ (λh=>by cases h)
     ·cases e
    ·rename_i m';rcases cH hm with⟨_,e⟩|⟨km,nm,rfl,e⟩
     ·cases e
     ·cases e;cases hd:(decide (hh.getD (len:Int)=m')&&decide (l.getD 0<m')&&hh.isSome)with
      |false=>rw[hd]at h;cases h
      |true=>
       rw[hd]at h;simp only[bjE,djE]at hd;obtain⟨⟨hd1,hd2⟩,hd3⟩:=hd;simp only[cdt,ojE]at h;subst h;have hn:hh≠none:=by intro e;subst e;cases hd3
       have hB:=eG (P:=P) (len:=len) (cap:=cap) hl jy hm (λ_=>hn) h0 h1 (by simp;omega) (by simp;omega) hlc
       simp only[Option.getD_some,hL,hH]at hB;simp only;rw[aA,hB];simp only[obS,aA,aQ,hz,aB];refine⟨_,rfl,?_⟩;have qf:m'.toNat=σ:=by omega
       rw[qf,if_neg (by omega)]
       simp only[omS,eW,Nat.add_assoc];have hm2:p.o+(off+L*z)+(σ-L)*p.z<=p.e∨p.z=0:=by
        refine hmul.imp (λhmul=>?_) _root_.id
        have:(σ-L)*p.z<=(cap-L)*p.z:=Nat.mul_le_mul_right _ (by omega)
        omega
       exact .slc id (off+L*z) (σ-L) (σ-L) (σ-L) p hp (λ_=>rfl) (nlR _) hm2
   ·exact absurd ⟨_,_,_,rfl⟩ hsp
 ·rename_i n e hu;split at h<;>try cases h
  rename_i id off z hz;cases hr:vI H id 0 with
  |false=>rw[hr]at h;cases h
  |true=>
   rw[hr,cdt,ojE]at h;subst h;obtain⟨p,hp,rfl⟩:=r.ptr_inv;obtain rfl:lp=none:=by cases lp with|none=>rfl|some x=>exact rl.elim
   obtain rfl:jx=none:=by cases jx with|none=>rfl|some x=>exact rh.elim
   obtain rfl:mx'=none:=by cases mx' with|none=>rfl|some x=>exact rm.elim
   refine⟨.slice (some ⟨p.b,p.o+off,none⟩) n n,?_,.slc id off n n n p hp (λ_=>rfl) (nlR _) (.inr (hZ id p 0 hp hr))⟩
   unfold Instr.sliceAt Instr.sliceBounds;rw[aA,aF,hu];simp[-bind_pure_comp,aA,aB,aQ,hz,Instr.sureAddr,eW]
def alen_ok{t:TypeId}{a b v:Value}{ts:Array TypeId}{ty:TypeId}{us:Array Value}(r:VR Y a b)(ht:ts[0]?=some t)(hb:us[0]?=some b)(h:alen P t a=some v):
    ∃v',aR P (Builtin.len_ ts ty us)=some v'/\VR Y v v':=by
 unfold alen at h;unfold Builtin.len_;simp only[ht,hb];rw[aA,aF];split at h<;>try cases h
 ·rename_i e hu;split at h<;>try cases h
  rename_i base n c;have: ∃qk cap,b= .slice qk n cap:=by
   cases base with
   |none=>obtain⟨rfl,rfl,rfl⟩:=r.nilslc_inv;exact⟨none,0,rfl⟩
   |some a=>
    cases r with
    |same _ h=>simp[aE]at h
    |slc id off len c cap p h hc hl he=>exact⟨_,_,rfl⟩
    |emp a s cap h=>exact⟨_,_,rfl⟩
  obtain⟨qk,cap,rfl⟩:=this;exact⟨goInt n,by simp[hu,aB],.same _ rfl⟩
 ·rename_i hu;split at h<;>try cases h
  rename_i s;obtain rfl:=r.string_inv;exact⟨goInt s.size,by simp[hu,aB],.same _ rfl⟩
 ·rename_i n e hu;exact⟨goInt n,by simp[hu,aB],.same _ rfl⟩
def aBS{t e:TypeId}(ht:P.underlying t=some (.slice e))(a:Addr)(l c l' c':Nat):aR P (Op.equal t (.slice (some a) l c) (.slice none l' c'))=some false:=by
 unfold Op.equal;rw[show Op.maxDepth=Nat.succ 9999 from rfl,Op.equalIn.eq_2,aA,aF,ht];rfl
def aBT{t e:TypeId}(ht:P.underlying t=some (.slice e))(a:Addr)(l c l' c':Nat):aR P (Op.equal t (.slice none l' c') (.slice (some a) l c))=some false:=by
 unfold Op.equal;rw[show Op.maxDepth=Nat.succ 9999 from rfl,Op.equalIn.eq_2,aA,aF,ht];rfl
def anil_ok{op:BinOp}{t:TypeId}{a b c d v:Value}{x y:Operand}(r:VR Y a b)(s:VR Y c d)(ht: ∃e,P.underlying t=some (.slice e))(h:anil op a c=some v):
    ∃v',aR P (do eqGuard op t x y b d;binOp op t b d)=some v'/\VR Y v v':=by
 obtain⟨e,ht⟩:=ht;unfold anil at h;simp only at h;split at h
 ·rename_i a0 l c l' c';obtain⟨rfl,rfl,rfl⟩:=s.nilslc_inv;have: ∃a1 l1 c1,b= .slice (some a1) l1 c1:=by
   cases r with
   |same _ h=>simp[aE]at h
   |slc id off len c cap p h hc hl he=>exact⟨_,_,_,rfl⟩
   |emp a s cap h=>exact⟨_,_,_,rfl⟩
  obtain⟨a1,l1,c1,rfl⟩:=this;cases op<;>simp only at h<;>first
   |(cases h;refine⟨_,?_,.same _ rfl⟩;simp only[aA,eqGuard,bnT,Bool.false_eq_true,if_false,aB,obS,binOp,aBS ht];done)
   |cases h
 ·rename_i l c a0 l' c';obtain⟨rfl,rfl,rfl⟩:=r.nilslc_inv;have: ∃a1 l1 c1,d= .slice (some a1) l1 c1:=by
   cases s with
   |same _ h=>simp[aE]at h
   |slc id off len c cap p h hc hl he=>exact⟨_,_,_,rfl⟩
   |emp a s cap h=>exact⟨_,_,_,rfl⟩
  obtain⟨a1,l1,c1,rfl⟩:=this;cases op<;>simp only at h<;>first
   |(cases h;refine⟨_,?_,.same _ rfl⟩;simp only[aA,eqGuard,bnT,Bool.false_eq_true,if_false,aB,obS,binOp,aBT ht];done)
   |cases h
 ·cases h
def dV(c:Call): ∀x∈c.args.toList,x∈(Op.call c).operands:=by
 intro x hx;simp only[Op.operands,Call.operands];exact Array.mem_append.2 (.inr (Array.mem_toList_iff.1 hx))
def apure_ok{Z Z':Operand->Value}{o:Oper}{v:Value}(hρ: ∀x∈o.op.operands,VR Y (Z x) (Z' x))(h:jN P Z o=some v):
    ∃v',aR P (execOp Z' o)=some (.value v')/\VR Y v v':=by
 have fin: ∀{s:Sem Value},(∃v',aR P s=some v'/\VR Y v v')->∃v',aR P (do pure (Next.value (<-s)))=some (.value v')/\VR Y v v':=by
  rintro s ⟨v',h1,h2⟩;exact⟨v',by rw[aA,h1];rfl,h2⟩
 unfold jN at h;unfold execOp;cases ho:o.op<;>simp only[ho]at h hρ⊢ <;>try cases h
 case move x=>exact⟨_,rfl,hρ x (by simp[Op.operands])⟩
 case assign x=>exact⟨_,rfl,hρ x (by simp[Op.operands])⟩
 case pick c a b=>
  have hc:=hρ c (by simp[Op.operands])
  split at h<;>try cases h
  ·rename_i hb;rw[hb]at hc;rw[hc.bool_inv];exact⟨_,rfl,hρ a (by simp[Op.operands])⟩
  ·rename_i hb;rw[hb]at hc;rw[hc.bool_inv];exact⟨_,rfl,hρ b (by simp[Op.operands])⟩
 case build t parts=>
  refine fin (aMT ?_ h);simpa using PR_map parts.toList (λx hx=>hρ x.2 (by simp[Op.operands];exact⟨_,Array.mem_toList_iff.1 hx⟩))
 case nilCheck x=>
  have hx:=hρ x (by simp[Op.operands])
  split at h<;>try cases h
  rename_i a ha;rw[ha]at hx;generalize Z' x=u at hx⊢;cases hx with
  |same _ h=>simp[aE]at h
  |ptr id off p hp=>exact⟨_,rfl,.ptr id off p hp⟩
 case binOp op t x y yt=>
  have hx:=hρ x (by simp[Op.operands])
  have hy:=hρ y (by simp[Op.operands])
  cases hp:(aO (Z x)&&aO (Z y))with
  |true=>
   simp only[hp,cdt]at h;simp only[bjE]at hp;rw[hx.eq1 hp.1,hy.eq1 hp.2];exact fin (gJ h)
  |false=>
   simp only[hp,cdf]at h;split at h<;>try cases h
   rename_i e hu;exact fin (anil_ok hx hy ⟨e,hu⟩ h)
 case unOp op t x=>
  have hx:=hρ x (by simp[Op.operands])
  cases hp:aE (Z x)with
  |true=>simp only[hp,cdt]at h;rw[hx.eq0 hp];exact fin (gJ h)
  |false=>simp[hp]at h
 case convert s d x=>
  have hx:=hρ x (by simp[Op.operands])
  cases hp:aE (Z x)with
  |true=>simp only[hp,cdt]at h;rw[hx.eq0 hp];exact fin (gJ h)
  |false=>simp[hp]at h
 case makeFunc fn first captured=>
  refine⟨.func fn (first.map Z') (captured.map Z'),rfl,?_⟩
  have h1:=aA3 (Y:=Y) (Z:=Z) (Z':=Z') first.toList (λx hx=>hρ x (by simp[Op.operands];exact .inl (Array.mem_toList_iff.1 hx)))
  have h2:=aA3 (Y:=Y) (Z:=Z) (Z':=Z') captured.toList (λx hx=>hρ x (by simp[Op.operands];exact .inr (Array.mem_toList_iff.1 hx)))
  exact .fn fn _ _ _ _ (by simp) (by simpa using h1.2) (by simp) (by simpa using h2.2)
 case fieldAddr s x f=>exact fin (aAS (hρ x (by simp[Op.operands])) h)
 case field t x f=>exact fin (aMR (hρ x (by simp[Op.operands])) h)
 case indexAddr t x i=>exact fin (aAR (hρ x (by simp[Op.operands])) (hρ i (by simp[Op.operands])) h)
 case index t x i=>exact fin (aMP (hρ x (by simp[Op.operands])) (hρ i (by simp[Op.operands])) h)
 case extract t i=>
  have hx:=hρ t (by simp[Op.operands])
  split at h<;>try cases h
  rename_i vs js;rw[js]at hx;obtain⟨us,he,hl⟩:=hx.tuple_inv;rw[he];obtain⟨u,hu,hr⟩:=hl.get (i:=i) (x:=v) (by simpa using h)
  refine fin ⟨u,?_,hr⟩;have:us[i]?=some u:=by simpa using hu
  simp[Instr.extract,this,aB]
 case call c=>
  unfold kX at h;have hargs:=aA3 (Y:=Y) (Z:=Z) (Z':=Z') c.args.toList (λx hx=>hρ x (dV c x hx))
  split at h<;>try cases h
  ·rename_i hc;split at h<;>try cases h
   rename_i t x ht hx;have lq:c.args.toList[0]?=some x:=by simpa using hx
   obtain⟨v',h1,h2⟩:=alen_ok (P:=P) (ts:=c.argTypes) (ty:=o.type) (us:=c.args.map Z') (hρ x (dV c x (List.mem_of_getElem? lq))) ht (by simp[hx]) h
   refine⟨v',?_,h2⟩;simp only[resolve,hc,aA,aB,obS,invoke,builtin,h1]
  ·rename_i hc;cases hp:(c.args.map Z).toList.all aE with
   |false=>rw[hp]at h;cases h
   |true=>
    simp only[hp,cdt]at h;have e:c.args.map Z'=c.args.map Z:=by
     apply Array.toList_inj.1;simpa using hargs.eq0 (by simpa using hp)
    obtain⟨v',h1,h2⟩:=gJ (Y:=Y) h;refine⟨v',?_,h2⟩;simp only[resolve,hc,aA,aB,obS,invoke,builtin,e,h1]
  ·rename_i hc;cases hp:(c.args.map Z).toList.all aE with
   |false=>rw[hp]at h;cases h
   |true=>
    simp only[hp,cdt]at h;have e:c.args.map Z'=c.args.map Z:=by
     apply Array.toList_inj.1;simpa using hargs.eq0 (by simpa using hp)
    obtain⟨v',h1,h2⟩:=gJ (Y:=Y) h;refine⟨v',?_,h2⟩;simp only[resolve,hc,aA,aB,obS,invoke,builtin,e,h1]
end
end Go.AI
