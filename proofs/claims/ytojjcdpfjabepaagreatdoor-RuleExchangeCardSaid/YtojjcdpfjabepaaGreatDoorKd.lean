import Derived.Test.YtojjcdpfjabepaaGreatDoorKc
set_option linter.unusedVariables false
set_option linter.unusedSimpArgs false
set_option linter.constructorNameAsVariable false
namespace Go.PI
open Go.AI
section
variable{P:Program}{ν ν':Nu}{γ γ1 γ':Ga}{σ σ':St}{S:PS}{A:Slots}
theorem ObjR.keep{id:Nat}{o:lP}(h:ObjR ν γ σ id o)(kp:Keep ν γ1 σ σ')(hm:Mon σ ν ν')(hν:ν' id=ν id)(hget: ∀a,ν id=some (some a)→σ'.get a=σ.get a)
    (hγ: ∀i off,γ i=some (.cell id off)→σ.get i≠none→γ1 i=some .out∧γ' i=some (.cell id off)):ObjR ν' γ' σ' id o:=by
 cases o with
 |box cs=>
  obtain⟨a,us,h1,h2,h3,h4⟩:=h;refine⟨a,us,by rw[hν,h1],by rw[hget a h1,h2],h3,fun i x b u hx hu=>?_⟩
  obtain⟨h5,h6,h7⟩:=h4 i x b u hx hu;exact⟨h5.keep kp hm,h6,fun hb=>(h7 hb).keep kp hm fun j hj hn=>hγ j i hj hn⟩
 |row z ag cs=>
  obtain⟨a,us,h1,h2,h3,h5,h4⟩:=h;exact⟨a,us,by rw[hν,h1],by rw[hget a h1,h2],h3,h5,fun i x u hx hu=>(h4 i x u hx hu).keep kp hm⟩
 |map es=>exact h
 |gone=>show ν' id=some none;rw[hν];exact h
theorem FR.keep(F:FR ν γ σ S A)(kp:Keep ν γ1 σ σ')(hm:Mon σ ν ν')(hγ: ∀i t,γ i=some (.slot t)→σ.get i≠none→γ1 i=some .out∧γ' i=some (.slot t)):FR ν' γ' σ' S A:=
 fun t=>⟨(F t).1.keep kp hm,fun h=>((F t).2 h).keep kp hm fun i hi hn=>hγ i t hi hn⟩
theorem FR.g(F:FR ν γ σ S A)(hγ: ∀i t,γ i=some (.slot t)→γ' i=some (.slot t)):FR ν γ' σ S A:=
 fun t=>⟨(F t).1,fun h=>((F t).2 h).weak fun i hi=>hγ i t hi⟩
theorem Mem.upd{p:PSt}{id:Nat}{o o':lP}(M:Mem ν γ p σ)(ho:p.get id=some o)(hn:ObjR ν γ' σ id o')(hγ: ∀i j off,j≠id→γ i=some (.cell j off)→γ' i=some (.cell j off)):Mem ν γ' (p.upd id o') σ:=by
 have hid:=aHu ho;refine⟨M.le,M.lt,M.inj,fun k a hk=>?_,fun k ob hk=>?_,M.free,M.ver⟩
 ·rw[fJ hid];split
  ·exact⟨_,rfl⟩
  ·exact M.live k a hk
 ·rw[fJ hid]at hk;split at hk
  ·rename_i e;subst e;simp only[ojE]at hk;subst hk;exact hn
  ·rename_i e;exact(M.get k ob hk).g2 fun i off hi=>hγ i k off e hi
theorem Mem.mark{p:PSt}{id:Nat}{o o':lP}(M:Mem ν γ p σ)(ho:p.get id=some o)(hn:ObjR ν γ' σ id o')(hγ: ∀i j off,j≠id→γ i=some (.cell j off)→γ' i=some (.cell j off)):Mem ν γ' (p.mark id o') σ:=by
 have M':=M.upd ho hn hγ;exact⟨M'.le,M'.lt,M'.inj,M'.live,M'.get,M'.free,M'.ver⟩
theorem ptake_ok{p:PSt}(M:Mem ν γ p σ)(F:FR ν γ σ S A){t:TypeId}{a v:PV}{w u:Value}(r:R ν σ a w)(h:gD P p t a=some v)(hs:aFU v=true)(hu:fD P σ t w=some u):
    ∃γ',Mem ν γ' (dO p a).1 σ∧FR ν γ' σ S A∧((dO p a).2=true→Ow ν γ' σ .hand v u)∧GoOut σ γ γ':=by
 have triv:(dO p a)=(p,false)→∃γ',Mem ν γ' (dO p a).1 σ∧FR ν γ' σ S A∧((dO p a).2=true→Ow ν γ' σ .hand v u)∧GoOut σ γ γ':=by
  intro e;rw[e];exact⟨γ,M,F,fun h=>(by cases h),.refl σ γ⟩
 cases a with
 |ptr id off=>
  cases hg:p.get id with
  |none=>exact triv (by simp only[dO,hg])
  |some ob=>
   cases ob with
   |box cs=>
    cases hc:cs[off]? with
    |none=>exact triv (by simp only[dO,hg,hc])
    |some c=>
     obtain⟨x,b⟩:=c;cases b with
     |false=>exact triv (by simp only[dO,hg,hc])
     |true=>
      have hobj:=M.get id _ hg;obtain⟨a',us,h1,h2,h3,h4⟩:=hobj;have hw:w= .pointer (some ⟨a',off,none⟩):=by
       cases r with
       |ptr _ _ _ hν=>rw[h1]at hν;simp only[ojE]at hν;subst hν;rfl
       |ptr0 _ _ _ hν=>rw[h1]at hν;cases hν
      subst hw;have hvx:v=x∧us[off]?=some u:=by
       simp only[gD,hg]at h;simp only[fD,row_of_get h2 rfl]at hu;unfold nC at h;split at h
       ·split at h
        ·rename_i n en;cases hb:Nat.beq (((cs.map (·.1)).drop off).take n).length n with
         |false=>rw[hb,cdf]at h;cases h
         |true=>rw[hb,cdt]at h;simp only[ojE]at h;subst h;cases hs
        ·cases h
       ·rename_i e;rw[e]at hu;simp only[List.getElem?_map,hc,omS,ojE]at h;exact⟨h.symm,hu⟩
       ·cases h
      obtain⟨rfl,hus⟩:=hvx;obtain⟨h5,h6,h7⟩:=h4 off v true u hc hus;have hoff:off<cs.length:=by
       rcases Nat.lt_or_ge off cs.length with h'|h'
       ·exact h'
       ·simp[List.getElem?_eq_none h']at hc
      refine⟨PI.mv (.cell id off) .hand γ,?_,?_,?_,?_⟩
      ·simp only[dO,hg,hc];refine M.mark hg ⟨a',us,h1,h2,by simpa using h3,fun i x b u' hx hu'=>?_⟩ fun i j o' hj hi=>?_
       ·rw[List.getElem?_set]at hx;split at hx
        ·rename_i e;subst e;simp only[ojE,pjE]at hx;obtain⟨rfl,rfl⟩:=hx;rw[hus]at hu';simp only[ojE]at hu';subst hu';exact⟨h5,h6,fun h=>(by cases h)⟩
        ·rename_i e;obtain⟨h8,h9,h10⟩:=h4 i x b u' hx hu';exact⟨h8,h9,fun hb=>(h10 hb).mv_ne (by simp;omega)⟩
       ·simp only[PI.mv,hi];rw[if_neg (by simp;intro e;exact absurd e hj)]
      ·exact F.g fun i t hi=>by simp[PI.mv,hi]
      ·intro _;exact(h7 rfl).mv
      ·intro i _ hi;simp[PI.mv,hi]
   |_=>exact triv (by simp only[dO,hg])
 |_=>exact triv rfl
theorem pread_ok{p p':PSt}(M:Mem ν γ p σ)(F:FR ν γ σ S A){o:Oper}(ho:o.op.operands.all (aI P)=true){take own:Bool}{v:PV}(h:jL P p S o take=some (v,own,p')):
    ∃u γ',gO P σ (ev A) o=some u∧R ν σ v u∧Mem ν γ' p' σ∧FR ν γ' σ S A∧(own=true→Ow ν γ' σ .hand v u)∧GoOut σ γ γ':=by
 replace ho:=qN ho
 obtain⟨dst,op,ty,pos,af,g⟩:=o;cases op with
 |load t a=>
  simp only[Op.operands,alC,List.all_nil,bnA]at ho;have ra:=aT F ho;simp only[jL]at h;simp only[gO];split at h
  ·rename_i v' hv;obtain⟨u,hu,hr⟩:=vB M ra hv;cases hc:take&&aFU v' with
   |false=>
    rw[hc,cdf]at h;simp only[ojE,pjE]at h;obtain⟨rfl,rfl,rfl⟩:=h;exact⟨u,γ,hu,hr,M,F,fun h=>(by cases h),.refl σ γ⟩
   |true=>
    rw[hc,cdt]at h;simp only[ojE,pjE]at h;obtain⟨rfl,rfl,rfl⟩:=h;simp only[bjE]at hc;obtain⟨γ',h1,h2,h3,h4⟩:=ptake_ok M F ra hv hc.2 hu;exact⟨u,γ',hu,hr,h1,h2,h3,h4⟩
  ·cases h
 |slice t x lo hi mx=>
  simp only[Op.operands,Array.toList_append,List.all_append,bjE]at ho;simp only[jL,mjE,pjE]at h;obtain⟨⟨w,own'⟩,hw,rfl,rfl,rfl⟩:=h;have hl: ∀{y:Option Operand},y.toArray.toList.all (aI P)=true→OR ν σ (y.map (pev S)) (y.map (ev A)):=by
   intro y hy;cases y with
   |none=>trivial
   |some y=>exact aT F (by simpa using hy)
  obtain⟨y,h1,h2,h3⟩:=aGP M (aT F (P:=P) (by simpa using ho.1.1.1)) (hl ho.1.1.2) (hl ho.1.2) (hl ho.2) hw
  exact⟨y,γ,h1,h2,M,F,h3,.refl σ γ⟩
 |_=>simp only[jL]at h;cases h
theorem aG(σ:St)(id k:Nat)(o:AObj):(σ.put id o).get k=if k=id then some o else σ.get k:=by
 simp only[St.get,St.put,Tr.get_set]
def fM:Ga:=fun _=>some .out
theorem Keep.put{id:Nat}{o:AObj}(h:σ.get id=none):Keep ν fM σ (σ.put id o):=by
 refine⟨rfl,nlR _,fun a ha=>?_,fun a _ cs m hg=>⟨m.tip,?_,fun h=>h,fun _=>rfl⟩⟩
 ·rw[aG]at ha;split at ha
  ·cases ha
  ·exact ha
 ·rw[aG,if_neg (by intro e;rw[e,h]at hg;cases hg)];exact hg
theorem fK{p:PSt}{o:lP}(k:Nat):(p.new o).get k=if k=p.next then some o else p.get k:=by
 simp only[PSt.get,PSt.new,Tr.get_set,fP,Bool.cond_decide];by_cases e:k=p.next
 ·subst e;simp
 ·simp only[e,if_false];by_cases h:k<p.next
  ·simp[h,show k<p.next+1 by omega]
  ·simp[h,show¬k<p.next+1 by omega]
theorem Mem.mk'{p:PSt}{id:Nat}{o:lP}{ob:AObj}(M:Mem ν γ p σ)(F:FR ν γ σ S A)(hf:σ.get id=none)(hlt:id<σ.next)
    (hn: ∀ν',ν' p.next=some (some id)→Mon σ ν ν'→ObjR ν' γ (σ.put id ob) p.next o):
    ∃ν',ν' p.next=some (some id)∧Mem ν' γ (p.new o) (σ.put id ob)∧FR ν' γ (σ.put id ob) S A∧Mon σ ν ν'∧(∀k,k<p.next→ν' k=ν k):=by
 have hnone: ∀x,ν p.next≠some x:=fun x hx=>Nat.lt_irrefl _ (M.le _ _ hx)
 have e1:(fun k=>if k=p.next then some (some id)else ν k) p.next=some (some id):=by simp
 have hmon:Mon σ ν (fun k=>if k=p.next then some (some id)else ν k):=by
  refine⟨fun k x hk=>?_,fun k a hk=>?_⟩
  ·by_cases e:k=p.next
   ·subst e;exact absurd hk (hnone x)
   ·simp only[e,if_false];exact .inl hk
  ·by_cases e:k=p.next
   ·simp only[e,if_true,ojE]at hk;subst hk;exact .inr hf
   ·simp only[e,if_false]at hk;exact .inl hk
 refine⟨fun k=>if k=p.next then some (some id)else ν k,e1,⟨fun k x hk=>?_,fun k a hk=>?_,fun i j a hi hj=>?_,fun k a hk=>?_,fun k ob' hk=>?_,fun a ha=>?_,M.ver⟩,?_,hmon,fun k hk=>if_neg (by omega)⟩
 ·show k<p.next+1
  by_cases e:k=p.next
  ·omega
  ·simp only[e,if_false]at hk;have:=M.le _ _ hk;omega
 ·show a<σ.next
  by_cases e:k=p.next
  ·simp only[e,if_true,ojE]at hk;omega
  ·simp only[e,if_false]at hk;exact M.lt _ _ hk
 ·have ne: ∀k a,ν k=some (some a)→a≠id:=by
   intro k a hk e;subst e;obtain⟨o',ho'⟩:=M.live _ _ hk;have:=M.get _ _ ho';cases o' with
   |box cs=>obtain⟨a',us,h1,h2,_⟩:=this;rw[hk]at h1;simp only[ojE]at h1;subst h1;rw[hf]at h2;cases h2
   |row z ag cs=>obtain⟨a',us,h1,h2,_⟩:=this;rw[hk]at h1;simp only[ojE]at h1;subst h1;rw[hf]at h2;cases h2
   |map es=>exact this.elim
   |gone=>rw[show ν k=some none from this]at hk;cases hk
  by_cases e:i=p.next<;>by_cases e':j=p.next
  ·omega
  ·simp only[e,e',if_true,if_false,ojE]at hi hj;subst hi;exact absurd rfl (ne _ _ hj)
  ·simp only[e,e',if_true,if_false,ojE]at hi hj;subst hj;exact absurd rfl (ne _ _ hi)
  ·simp only[e,e',if_false]at hi hj;exact M.inj _ _ _ hi hj
 ·rw[fK];by_cases e:k=p.next
  ·simp[e]
  ·simp only[e,if_false]at hk⊢;exact M.live _ _ hk
 ·rw[fK]at hk;by_cases e:k=p.next
  ·subst e;simp only[if_true,ojE]at hk;subst hk;exact hn _ e1 hmon
  ·simp only[e,if_false]at hk;refine(M.get k ob' hk).keep (Keep.put hf) hmon (by simp[e]) (fun a ha=>?_) fun i off hi _=>⟨rfl,hi⟩
   rw[aG,if_neg];intro e2;subst e2;have:=M.get k ob' hk;cases ob' with
   |box cs=>obtain⟨a',us,h1,h2,_⟩:=this;rw[ha]at h1;simp only[ojE]at h1;subst h1;rw[hf]at h2;cases h2
   |row z ag cs=>obtain⟨a',us,h1,h2,_⟩:=this;rw[ha]at h1;simp only[ojE]at h1;subst h1;rw[hf]at h2;cases h2
   |map es=>exact this.elim
   |gone=>rw[show ν k=some none from this]at ha;cases ha
 ·rw[aG,if_neg (by have:σ.next≤a:=ha;omega)];exact M.free a ha
 ·exact F.keep (Keep.put hf) hmon fun i t hi _=>⟨rfl,hi⟩
theorem Mem.fz{p:PSt}{id:Nat}{ob:AObj}(M:Mem ν γ p σ)(F:FR ν γ σ S A)(hf:σ.get id=none)(hlt:id<σ.next):
    Mem ν γ p (σ.put id ob)∧FR ν γ (σ.put id ob) S A∧∀k,ν k≠some (some id):=by
 have hno: ∀k,ν k≠some (some id):=by
  intro k hk;obtain⟨o',ho'⟩:=M.live _ _ hk;have:=M.get _ _ ho';cases o' with
  |box cs=>obtain⟨a',us,h1,h2,_⟩:=this;rw[hk]at h1;simp only[ojE]at h1;subst h1;rw[hf]at h2;cases h2
  |row z ag cs=>obtain⟨a',us,h1,h2,_⟩:=this;rw[hk]at h1;simp only[ojE]at h1;subst h1;rw[hf]at h2;cases h2
  |map es=>exact this.elim
  |gone=>rw[show ν k=some none from this]at hk;cases hk
 refine⟨⟨M.le,M.lt,M.inj,M.live,fun k o hk=>?_,fun a ha=>?_,M.ver⟩,?_,hno⟩
 ·refine(M.get k o hk).keep (Keep.put hf) (.refl σ ν) rfl (fun a ha=>?_) fun i off hi _=>⟨rfl,hi⟩
  rw[aG,if_neg (fun e=>hno k (by rw[←e];exact ha))]
 ·rw[aG,if_neg (by have:σ.next≤a:=ha;omega)];exact M.free a ha
 ·exact F.keep (Keep.put hf) (.refl σ ν) fun i t hi _=>⟨rfl,hi⟩
end
end Go.PI
namespace Go.PI
open Go.AI
theorem aGL(xs cs:List PV)(off:Nat)(h:off+xs.length≤cs.length):aE9 cs off xs=cs.take off++xs++cs.drop (off+xs.length):=by
 induction xs generalizing cs off with
 |nil=>simp[aE9]
 |cons x xs ih=>
  simp only[lcS]at h;simp only[aE9];rw[ih _ _ (by simp;omega)]
  have h1:(cs.set off x).take (off+1)=cs.take off++ [x]:=by
   rw[List.take_add_one,List.take_set_of_le (nlR _),List.getElem?_set_self (by omega)];rfl
  have h2:(cs.set off x).drop (off+1+xs.length)=cs.drop (off+(xs.length+1)):=by
   rw[List.drop_set_of_lt (by omega)];congr 1;omega
  rw[h1,h2];simp
theorem uY(xs cs:List Value)(off:Nat)(h:off+xs.length≤cs.length):eZ cs off xs=cs.take off++xs++cs.drop (off+xs.length):=by
 induction xs generalizing cs off with
 |nil=>simp[eZ]
 |cons x xs ih=>
  simp only[lcS]at h;simp only[eZ];rw[ih _ _ (by simp;omega)]
  have h1:(cs.set off x).take (off+1)=cs.take off++ [x]:=by
   rw[List.take_add_one,List.take_set_of_le (nlR _),List.getElem?_set_self (by omega)];rfl
  have h2:(cs.set off x).drop (off+1+xs.length)=cs.drop (off+(xs.length+1)):=by
   rw[List.drop_set_of_lt (by omega)];congr 1;omega
  rw[h1,h2];simp
theorem aBk(a b:List PV):eG (a++b)=eG a++eG b:=by simp[eG]
theorem aDW{s:Nat}{es:List PV}(hs: ∀e∈es,e.cells.length=s){i:Nat}(hi:i<es.length){y:PV}(hy:y.cells.length=s):eG (es.set i y)=aE9 (eG es) (i*s) y.cells:=by
 have hle:i*s+s≤es.length*s:=by rw[←Nat.succ_mul];exact Nat.mul_le_mul_right _ hi
 rw[aGL _ _ _ (by rw[hy,cZ hs];exact hle),hy,←zA hs,show i*s+s=(i+1)*s by rw[Nat.succ_mul],←zB hs]
 rw[List.set_eq_take_append_cons_drop,if_pos hi];simp[eG]
theorem fS(x:PV):(wk x).cells=wks x.cells:=by
 cases x with
 |sl z es=>cases es<;>simp[wk,wks,PV.cells]
 |_=>simp[wk,wks,PV.cells]
theorem eM(xs:List PV):(wks xs).length=xs.length:=by
 induction xs with
 |nil=>rfl
 |cons x xs ih=>simp[wks,ih]
theorem aF2{x:PV}(h:x.pur=true):(wk x).pur=true:=by
 cases x with
 |sl z es=>cases es<;>rfl
 |_=>first|rfl|simp[PV.pur]at h
theorem uJ{xs:List PV}(h:xs.all PV.pur=true):(wks xs).all PV.pur=true:=by
 induction xs with
 |nil=>rfl
 |cons x xs ih=>
  simp only[alC,bjE]at h;simp only[wks,alC,bjE];exact⟨aF2 h.1,ih h.2⟩
theorem vA{x:PV}(h:x.pur=true):x.one=true:=by cases x<;>first|rfl|simp[PV.pur]at h
theorem mB{xs:List PV}(h:xs.all PV.pur=true):xs.all PV.one=true:=by
 rw[List.all_eq_true]at h⊢;exact fun x hx=>vA (h x hx)
theorem aDu{xs:List Value}(h:xs.all aB=true):(ofVs xs).all PV.pur=true:=by
 induction xs with
 |nil=>rfl
 |cons x xs ih=>
  simp only[alC,bjE]at h;simp only[PI.ofVs,alC,bjE];refine⟨?_,ih h.2⟩;have h1:=h.1;cases x with
  |slice a l c=>cases a<;>first|rfl|simp[aB]at h1
  |_=>first|rfl|simp[aB]at h1
section
variable{P:Program}{ν ν':Nu}{γ γ1 γ':Ga}{σ σ':St}{S:PS}{A:Slots}
theorem fl_ok{k:Nat→K}{xs:List PV}{us:List Value}(r:RL ν σ xs us)(h1:xs.all PV.one=true){i:Nat}{x:PV}{b:Bool}{u:Value}(hx:(xs.map fun c=>fl c false)[i]?=some (x,b))(hu:us[i]?=some u):
    R ν σ x u∧x.one=true∧(b=true→Ow ν γ σ (k i) x u):=by
 rw[List.getElem?_map]at hx;cases hc:xs[i]? with
 |none=>rw[hc]at hx;cases hx
 |some c=>
  rw[hc]at hx;simp only[omS,ojE]at hx;have hr:=r.2 i c u hc hu;have ho:=(List.all_eq_true.1 h1) c (dG hc);cases c<;>simp only[fl,pjE]at hx<;>obtain⟨rfl,rfl⟩:=hx<;>first|(exact⟨hr,ho,fun h=>(by cases h)⟩)|skip
  cases hr;exact⟨.emp0,rfl,fun _=> .nil _⟩
theorem RL.zeros{z:List PV}{w:List Value}(r:RL ν σ z w)(n:Nat):RL ν σ (dX z n) (bI w n):=by
 induction n with
 |zero=>exact .nil
 |succ n ih=>exact r.append ih
theorem aBj(x:PV)(n:Nat):eG (iO x n)=dX x.cells n:=by
 induction n with
 |zero=>rfl
 |succ n ih=>simp only[iO,dX,←ih];simp[eG]
theorem uW(x:PV)(n:Nat):(iO x n).length=n:=by
 induction n with
 |zero=>rfl
 |succ n ih=>simp[iO,ih]
theorem aE5{x y:PV}{n:Nat}(h:y∈iO x n):y=x:=by
 induction n with
 |zero=>simp[iO]at h
 |succ n ih=>simp only[iO,List.mem_cons]at h;exact h.elim id ih
theorem lX{a:Bool}{s:Nat}{x:PV}(h:shape a s x=true):x.cells.length=s∧x.cells.all PV.pur=true:=by
 cases x<;>simp only[shape,bjE]at h
 case agg cs=>exact⟨nqE h.1.2,h.2⟩
 all_goals
  refine⟨(nqE h.1.2).symm,?_⟩;simp only[PV.cells,alC,List.all_nil,bnA];exact h.2
theorem aAS{a:Bool}{s:Nat}: ∀(ps:List (Nat×PV)) (qs:List (Nat×Value)) (es es':List PV) (B:Array Value),PRs ν σ ps qs→(∀e∈es,e.cells.length=s∧e.cells.all PV.pur=true)→RL ν σ (eG es) B.toList→
    gW a s es ps=some es'→∃B',Instr.fill (fun i=>some (i*s,s)) B qs=some B'∧RL ν σ (eG es') B'.toList∧(∀e∈es',e.cells.length=s∧e.cells.all PV.pur=true)∧es'.length=es.length:=by
 intro ps;induction ps with
 |nil=>
  intro qs es es' B hp hs hB h;have:qs=[]:=by have:=hp.1;simpa using this.symm
  subst this;simp only[gW,ojE]at h;subst h;exact⟨B,rfl,hB,hs,rfl⟩
 |cons q ps ih=>
  intro qs es es' B hp hs hB h;obtain⟨i,x⟩:=q;cases qs with
  |nil=>have:=hp.1;simp at this
  |cons q' qs=>
   obtain⟨i',u⟩:=q';have h1:=hp.1;simp only[mpC,List.cons.injEq]at h1;obtain⟨rfl,h1⟩:=h1;have h2:=hp.2;simp only[mpC]at h2;obtain⟨u',us',he,hx,hr⟩:=h2.cons_inv;simp only[List.cons.injEq]at he;obtain⟨rfl,rfl⟩:=he;simp only[gW]at h;cases hc:Nat.blt i es.length&&shape a s x with
   |false=>rw[hc,cdf]at h;cases h
   |true=>
    rw[hc,cdt]at h;simp only[bjE,fP,djE]at hc;obtain⟨hxl,hxp⟩:=lX hc.2;have hcs:=hx.cells (mB hxp);have hcw:=hcs.wks;have hsl: ∀e∈es,e.cells.length=s:=fun e he=>(hs e he).1
    have hle:i*s+s≤es.length*s:=by rw[←Nat.succ_mul];exact Nat.mul_le_mul_right _ hc.1
    have hul:u.cells.size=s:=by have:=hcs.1;simp at this;omega
    have hBl:B.size=es.length*s:=by have:=hB.1;rw[cZ hsl]at this;simpa using this.symm
    simp only[Instr.fill];rw[if_neg (by simp[hul];omega)]
    have hwl:(wk x).cells.length=s:=by rw[fS,eM,hxl]
    obtain⟨B',hB1,hB2,hB3,hB4⟩:=ih qs (es.set i (wk x)) es' (u.cells.zipIdx.foldl (fun cs (c,j)=>cs.setIfInBounds (i*s+j) c) B) ⟨h1,hr⟩ (fun e he=>by
            rcases List.mem_or_eq_of_mem_set he with h'|h'
            · exact hs e h'
            · subst h';exact⟨hwl,by rw[fS];exact uJ hxp⟩) (by
            have:=aDV (ν:=ν) (σ:=σ) (i*s) (wks x.cells) u.cells.toList 0 (eG es) B hcw hB;rw[aDW hsl hc.1 hwl,fS];rw[←Array.foldl_toList,Array.toList_zipIdx];exact this) h
    exact⟨B',hB1,hB2,hB3,by simpa using hB4⟩
theorem aGX{p p':PSt}{id:Nat}(M:Mem ν γ p σ)(F:FR ν γ σ S A)(hf:σ.get id=none)(hlt:id<σ.next){o:Oper}(ho:o.op.operands.all (aI P)=true){v:PV}{own:Bool}
    (h:cI P p S o=some (v,own,p')):
    ∃u ob ν' γ',eA P (ev A) o id=some (u,ob)∧R ν' (σ.put id ob) v u∧Mem ν' γ' p' (σ.put id ob)∧FR ν' γ' (σ.put id ob) S A∧(own=true→Ow ν' γ' (σ.put id ob) .hand v u)∧
      Mon σ ν ν'∧GoOut σ γ γ'∧p.next≤p'.next∧(∀k,k<p.next→ν' k=ν k)∧(p'.dirty=p.dirty∧p'.wr=p.wr)∧(∀k,k<p.next→p'.mem.get k=p.mem.get k):=by
 replace ho:=qN ho
 have go:GoOut σ γ γ:= .refl σ γ;have hnm: ∀(ob:lP) (k:Nat),k<p.next→(p.new ob).mem.get k=p.mem.get k:=fun ob k hk=>by simp only[PSt.new,Tr.get_set];rw[if_neg (by omega)]
 obtain⟨dst,op,ty,pos,af,g⟩:=o;cases op with
 |alloc t=>
  simp only[cI]at h;split at h
  ·rename_i z hz;obtain⟨w,hw,hp,rfl⟩:=jE hz;simp only[ojE,pjE]at h;obtain⟨rfl,rfl,rfl⟩:=h;obtain⟨ν',h1,h2,h3,h4,h5⟩:=M.mk' (o:= .box ((ofVs w.cells.toList).map fun c=>fl c false)) (ob:= .cells w.cells.toList boxMeta) F hf hlt fun ν' h1 _=>
    ⟨id,w.cells.toList,h1,by rw[aG,if_pos rfl],by simp[lD],fun i x b u hx hu=>fl_ok (k:=fun i=> .cell p.next i) (.ofVs hp) (aDv hp) hx hu⟩
   exact⟨_,_,ν',γ,by simp only[eA,hw,hp,cdt],.ptr _ _ _ h1,h2,h3,fun h=>(by cases h),h4,go,by simp[PSt.new],h5,⟨rfl,rfl⟩,hnm _⟩
  ·cases h
 |box t x=>
  simp only[Op.operands,alC,List.all_nil,bnA]at ho;have rx:=aT F ho;simp only[cI]at h;cases hc:(pev S x).cells.all PV.one with
  |false=>rw[hc,cdf]at h;cases h
  |true=>
   rw[hc,cdt]at h;simp only[ojE,pjE]at h;obtain⟨rfl,rfl,rfl⟩:=h;have hcs:=rx.cells hc;obtain⟨ν',h1,h2,h3,h4,h5⟩:=M.mk' (o:= .box ((pev S x).cells.map fun c=>fl c false)) (ob:= .cells (ev A x).cells.toList boxMeta) F hf hlt fun ν' h1 hm=>
    ⟨id,(ev A x).cells.toList,h1,by rw[aG,if_pos rfl],by rw[List.length_map];exact hcs.1.symm,fun i y b u hx hu=>fl_ok (k:=fun i=> .cell p.next i) (hcs.keep (Keep.put hf) hm) hc hx hu⟩
   exact⟨_,_,ν',γ,by simp only[eA,hcs.one hc,cdt],.ptr _ _ _ h1,h2,h3,fun h=>(by cases h),h4,go,by simp[PSt.new],h5,⟨rfl,rfl⟩,hnm _⟩
 |buildSlice t len parts=>
  simp only[cI]at h;simp only[eA];split at h
  ·rename_i e he;simp only[he];split at h
   ·rename_i s a z hs ha hz;obtain⟨w,hw,hp,rfl⟩:=jE hz;simp only[hs,hw];cases hc:Nat.ble (len*s) 1000000&&Nat.beq (ofVs w.cells.toList).length s&&Nat.ble 1 s&&(a||Nat.beq s 1)with
    |false=>rw[hc,cdf]at h;cases h
    |true=>
     rw[hc,cdt]at h;simp only[bjE]at hc;obtain⟨⟨⟨hc1,hc2⟩,hc3⟩,hc4⟩:=hc;have hwl:w.cells.toList.length=s:=by have:=nqE hc2;rw[lD]at this;exact this
     split at h
     ·rename_i es hes;simp only[ojE,pjE]at h;obtain⟨rfl,rfl,rfl⟩:=h;have hzc:(bif a then PV.agg (ofVs w.cells.toList)else(ofVs w.cells.toList).headD .und).cells=ofVs w.cells.toList:=by
       cases a with
       |true=>rfl
       |false=>
        simp only[Bool.false_or]at hc4;have hs1:=nqE hc4;simp only[cdf];cases hl:w.cells.toList with
        |nil=>rw[hl]at hwl;simp at hwl;omega
        |cons y ys=>
         have:ys=[]:=by rw[hl]at hwl;simp at hwl;exact List.eq_nil_of_length_eq_zero (by omega)
         subst this;rw[hl]at hp;have:=aDv hp;simp only[PI.ofVs,alC,List.all_nil,bnA]at this;simp only[PI.ofVs,List.headD_cons];exact rP this
      have hps:PRs ν σ (parts.toList.map fun(i,x)=>(i,pev S x)) (parts.toList.map fun(i,x)=>(i,ev A x)):=PRs.of (P:=P) F (by simpa [Op.operands]using ho)
      have hzero:RL ν σ (eG (iO (wk (bif a then PV.agg (ofVs w.cells.toList)else(ofVs w.cells.toList).headD .und)) len)) (bI w.cells.toList len).toArray.toList:=by
       rw[aBj,fS,hzc];simpa using RL.zeros (RL.wks (RL.ofVs hp)) len
      obtain⟨B',hB1,hB2,hB3,hB4⟩:=aAS (a:=a) (s:=s) _ _ _ es _ hps (fun e he=>by
                rw[aE5 he,fS,hzc,eM,lD];exact⟨hwl,uJ (aDu hp)⟩) hzero hes
      rw[uW]at hB4;obtain⟨M',F',hno⟩:=M.fz (ob:= .cells B'.toList (bD s)) F hf hlt;have hrow:Fz ν (σ.put id (.cells B'.toList (bD s))) id B'.toList (bD s):=⟨row_of_get (by rw[aG,if_pos rfl]) rfl,hno⟩
      refine⟨.slice (some ⟨id,0,none⟩) len len,.cells B'.toList (bD s),ν,γ,?_,?_,M',F',fun _=> .exact _ _ _ _ _ _ hrow,.refl σ ν,go,nlR _,fun _ _=>rfl,⟨rfl,rfl⟩,fun _ _=>rfl⟩
      ·rw[show(w.cells.toList.all aB&&Nat.ble (len*s) 1000000&&Nat.beq w.cells.size s&&Nat.ble 1 s)=true by
        simp only[hp,hc1,hc3,Bool.true_and,bnA];rw[cJ];simpa using hwl]
       simp only[cdt];rw[Array.toList_map,hB1];rfl
      ·rw[←hB4];refine aDA (.sl s es id 0 es.length B'.toList (bD s) (Nat.le_of_ble_eq_true hc3) hB3 hrow rfl ?_ fun i x u hx hu=>?_)
       ·have:=hB2.1;rw[cZ (fun e he=>(hB3 e he).1)]at this;omega
       ·rw[Nat.zero_add]at hu;exact(hB2.2 i x u hx hu).keep (Keep.put hf) (.refl σ ν)
     ·cases h
   ·cases h
  ·cases h
 |makeSlice t l c=>
  simp only[Op.operands,alC,List.all_nil,bnA,bjE]at ho;have rl:=aT F ho.1;have rc:=aT F ho.2;simp only[cI]at h;simp only[eA];split at h
  ·rename_i e n k he hl hc';rw[hl]at rl;rw[hc']at rc;generalize ev A l=ul at rl⊢;generalize ev A c=uc at rc⊢;cases rl;cases rc;simp only[he];split at h
   ·rename_i info a hi ha;simp only[hi];split at h
    ·rename_i z hz;simp only[hz];cases hc:decide (0≤n)&&decide (n≤k)&&decide (k*(info.bytes:Int)≤1073741824)&&decide (k≤1073741824)&&z.cells.toList.all aB&&Nat.beq z.cells.size info.size&&Nat.ble 1 info.size&&(a||Nat.beq info.size 1)with
     |false=>rw[hc,cdf]at h;cases h
     |true=>
      rw[hc,cdt]at h;have hc':=hc;simp only[bjE]at hc;rw[show(decide (0≤n)&&decide (n≤k)&&decide (k*(info.bytes:Int)≤1073741824)&&decide (k≤1073741824)&&z.cells.toList.all aB&&Nat.beq z.cells.size info.size&&Nat.ble 1 info.size)=true by
       simp only[hc.1.1.1.1.1.1.1,hc.1.1.1.1.1.1.2,hc.1.1.1.1.1.2,hc.1.1.1.1.2,hc.1.1.1.2,hc.1.1.2,hc.1.2,Bool.and_self]]
      simp only[cdt];by_cases hn0:n=0
      ·subst hn0;simp only[decide_true,cdt,ojE,pjE]at h;obtain⟨rfl,rfl,rfl⟩:=h;by_cases hk:(0:Int)=k
       ·simp only[hk,decide_true,cdt];rw[←hk];obtain⟨M',F',hno⟩:=M.fz (ob:= .cells [] (bD info.size)) F hf hlt;have hrow:Fz ν (σ.put id (.cells [] (bD info.size))) id [] (bD info.size):=⟨row_of_get (by rw[aG,if_pos rfl]) rfl,hno⟩
        refine⟨.slice (some ⟨id,0,none⟩) 0 0,.cells [] (bD info.size),ν,γ,rfl,?_,M',F',fun _=> .exact _ _ _ _ _ _ hrow,.refl σ ν,go,nlR _,(by simp),(by simp),(by simp)⟩
        exact .sl info.size [] id 0 0 [] _ (Nat.le_of_ble_eq_true hc.1.2) (fun e he=>by simp at he) hrow rfl (by simp) (fun i x u hx=>by simp[eG]at hx)
       ·simp only[hk,decide_false,cdf];obtain⟨M',F',hno⟩:=M.fz (ob:= .cells [] {wr:=true,tip:=true,z:=info.size,grp:=some (id,0)}) F hf hlt;have hgood:(σ.put id (.cells [] {wr:=true,tip:=true,z:=info.size,grp:=some (id,0)})).good {wr:=true,tip:=true,z:=info.size,grp:=some (id,0)}=true:=by
         show Nat.beq (σ.ver id) 0=true;rw[M.ver id];rfl
        have hrow:Fz ν (σ.put id (.cells [] {wr:=true,tip:=true,z:=info.size,grp:=some (id,0)})) id [] {wr:=true,tip:=true,z:=info.size,grp:=some (id,0)}:=⟨row_of_get (by rw[aG,if_pos rfl]) hgood,hno⟩
        refine⟨.slice (some ⟨id,0,none⟩) 0 1,.cells [] _,ν,fun i=>if i=id then some .hand else γ i,rfl,?_,?_,?_,fun _=>?_,.refl σ ν,?_,nlR _,(by simp),(by simp),(by simp)⟩
        ·exact .sl info.size [] id 0 1 [] _ (Nat.le_of_ble_eq_true hc.1.2) (fun e he=>by simp at he) hrow rfl (by simp) (fun i x u hx=>by simp[eG]at hx)
        ·refine⟨M'.le,M'.lt,M'.inj,M'.live,fun k o hk=>?_,M'.free,M'.ver⟩
         refine(M.get k o hk).keep (γ1:=fM) (Keep.put hf) (.refl σ ν) rfl (fun a ha=>?_) fun i off hi hn=>⟨rfl,?_⟩
         ·rw[aG,if_neg (fun e=>hno k (by rw[←e];exact ha))]
         ·show(if i=id then some K.hand else γ i)=_
          rw[if_neg (fun e=>hn (by rw[e];exact hf))];exact hi
        ·refine F.keep (γ1:=fM) (Keep.put hf) (.refl σ ν) fun i t hi hn=>⟨rfl,?_⟩
         show(if i=id then some K.hand else γ i)=_
         rw[if_neg (fun e=>hn (by rw[e];exact hf))];exact hi
        ·exact .tip info.size [] id 0 1 [] _ hrow rfl rfl rfl (by simp) (by simp)
        ·intro i hn hi;show(if i=id then some K.hand else γ i)=some K.out;rw[if_neg (fun e=>hn (by rw[e];exact hf))];exact hi
      ·by_cases hnk:n=k
       ·subst hnk;simp only[hn0,decide_false,cdf,decide_true,cdt,ojE,pjE]at h;obtain⟨rfl,rfl,rfl⟩:=h;simp only[decide_true,cdt];have hpl:=hc.1.1.1.2;have hz':RL ν σ (dX (wks (ofVs z.cells.toList)) n.toNat) (bI z.cells.toList n.toNat):=RL.zeros (RL.wks (RL.ofVs hpl)) _;obtain⟨ν',h1,h2,h3,h4,h5⟩:=M.mk' (o:= .row info.size a (dX (wks (ofVs z.cells.toList)) n.toNat)) (ob:= .cells (bI z.cells.toList n.toNat) (bD info.size)) F hf hlt fun ν' h1 hm=>
         ⟨id,bI z.cells.toList n.toNat,h1,by rw[aG,if_pos rfl],hz'.1.symm,by
          rw[List.all_eq_true];intro x hx;have: ∀m,x∈dX (wks (ofVs z.cells.toList)) m→x∈wks (ofVs z.cells.toList):=by
           intro m;induction m with
           |zero=>intro h;simp[dX]at h
           |succ m ih=>intro h;simp only[dX,List.mem_append]at h;exact h.elim (fun h=>h) ih
          exact(List.all_eq_true.1 (mB (uJ (aDu hpl)))) x (this _ hx),fun i x u hx hu=>(hz'.2 i x u hx hu).keep (Keep.put hf) hm⟩
        exact⟨_,_,ν',γ,rfl,.rs _ _ _ _ _ h1,h2,h3,fun h=>(by cases h),h4,go,by simp[PSt.new],h5,⟨rfl,rfl⟩,hnm _⟩
       ·simp only[hn0,hnk,decide_false,cdf]at h;cases h
    ·cases h
   ·cases h
  ·cases h
 |_=>simp only[cI]at h;cases h
end
end Go.PI
namespace Go.PI
open Go.AI
section
variable{P:Program}{ν ν':Nu}{γ γ1 γ':Ga}{σ σ':St}{S:PS}{A:Slots}
theorem Keep.weak(k:Keep ν γ1 σ σ')(h: ∀a,γ a=some .out→γ1 a=some .out):Keep ν γ σ σ':=
 ⟨k.vers,k.next,k.dom,fun a hn cs m hg=>by
  obtain⟨b,h1,h2,h3⟩:=k.row a hn cs m hg;exact⟨b,h1,h2,fun hh=>h3 (h a hh)⟩⟩
theorem Keep.trans{σ'':St}(k:Keep ν γ σ σ')(hm:Mon σ ν ν')(k':Keep ν' γ' σ' σ'')(hg:GoOut σ γ γ'):Keep ν γ σ σ'':=by
 refine⟨k'.vers.trans k.vers,Nat.le_trans k.next k'.next,fun a ha=>k.dom a (k'.dom a ha),fun a hn cs m hget=>?_⟩
 obtain⟨b,h1,h2,h3⟩:=k.row a hn cs m hget;obtain⟨b',h4,h5,h6⟩:=k'.row a (fun j hj=>by
  rcases hm.2 j a hj with e|e
  ·exact hn j e
  ·rw[hget]at e;cases e) cs _ h1
 refine⟨b',h4,fun ht=>h5 (h2 ht),fun ho=>?_⟩
 rw[h6 (hg a (by rw[hget];simp) ho)]
 exact h3 ho
theorem Keep.write{id a:Nat}{o:AObj}(hν:ν id=some (some a))(hd:σ.get a≠none):Keep ν fM σ (σ.put a o):=by
 refine⟨rfl,nlR _,fun k hk=>?_,fun k hn cs m hg=>⟨m.tip,?_,fun h=>h,fun _=>rfl⟩⟩
 ·rw[aG]at hk;split at hk
  ·cases hk
  ·exact hk
 ·rw[aG,if_neg (fun e=>hn id (by rw[e];exact hν))];exact hg
theorem Mem.write{p:PSt}{id a:Nat}{o:lP}{ob ob':AObj}(M:Mem ν γ p σ)(F:FR ν γ σ S A)(hν:ν id=some (some a))(hg:σ.get a=some ob)(hp: ∃o',p.get id=some o')
    (hn:ObjR ν γ' (σ.put a ob') id o) (hγ: ∀i j off,j≠id→γ i=some (.cell j off)→γ' i=some (.cell j off)) (hs: ∀i t,γ i=some (.slot t)→γ' i=some (.slot t)):
    Mem ν γ' (p.upd id o) (σ.put a ob')∧FR ν γ' (σ.put a ob') S A:=by
 have kp:Keep ν fM σ (σ.put a ob'):=Keep.write hν (by rw[hg];simp)
 obtain⟨o',ho'⟩:=hp;have hid:=aHu ho';refine⟨⟨M.le,M.lt,M.inj,fun k a hk=>?_,fun k ob2 hk=>?_,fun k hk=>?_,M.ver⟩,F.keep kp (.refl σ ν) fun i t hi _=>⟨rfl,hs i t hi⟩⟩
 ·rw[fJ hid];split
  ·exact⟨_,rfl⟩
  ·exact M.live k a hk
 ·rw[fJ hid]at hk;split at hk
  ·rename_i e;subst e;simp only[ojE]at hk;subst hk;exact hn
  ·rename_i e;refine(M.get k ob2 hk).keep kp (.refl σ ν) rfl (fun a' ha'=>?_) fun i off hi _=>⟨rfl,hγ i k off e hi⟩
   rw[aG,if_neg (fun e2=>e (M.inj k id a (by rw[←e2];exact ha') hν))]
 ·rw[aG,if_neg (fun e=>by subst e;have:=M.lt _ _ hν;have h2:σ.next≤k:=hk;omega)];exact M.free k hk
theorem kF{α:Type}{cs xs:List α}{off i:Nat}{x:α}(h:off+xs.length≤cs.length)(hi:(cs.take off++xs++cs.drop (off+xs.length))[i]?=some x):
    (i<off∧cs[i]?=some x)∨(off≤i∧i<off+xs.length∧xs[i-off]?=some x)∨(off+xs.length≤i∧cs[i]?=some x):=by
 have hl:(cs.take off).length=off:=by simp;omega
 rcases Nat.lt_or_ge i off with h1|h1
 ·left;rw[apA,List.getElem?_append_left (by omega),List.getElem?_take,if_pos h1]at hi
  exact⟨h1,hi⟩
 ·rcases Nat.lt_or_ge i (off+xs.length)with h2|h2
  ·right;left;rw[apA,List.getElem?_append_right (by omega),hl,List.getElem?_append_left (by omega)]at hi
   exact⟨h1,h2,hi⟩
  ·right;right;rw[List.getElem?_append_right (by simp;omega),List.getElem?_drop]at hi
   refine⟨h2,?_⟩;rw[←hi];congr 1;simp;omega
theorem aA8{id:Nat}{l:List Nat}:id∈ins id l:=by
 unfold ins;cases h:l.contains id with
 |true=>simpa using h
 |false=>simp
theorem aGO{p p':PSt}(M:Mem ν γ p σ)(F:FR ν γ σ S A){t:TypeId}{a x:PV}{w u:Value}{own:Bool}(ra:R ν σ a w)(rx:R ν σ x u)(hown:own=true→Ow ν γ σ .hand x u)(h:jK P p t a x own=some p'):
    ∃σ' γ',iT P σ t w u=some σ'∧Mem ν γ' p' σ'∧FR ν γ' σ' S A∧Keep ν γ σ σ'∧GoOut σ γ γ'∧p'.next=p.next∧σ'.next=σ.next∧(∃i0 a0,ν i0=some (some a0)∧i0∈p'.wr∧∀b,b≠a0→σ'.get b=σ.get b):=by
 cases a<;>simp only[jK]at h<;>try cases h
 rename_i id off;split at h
 ·rename_i cs n hg hn;cases hc:Nat.beq x.cells.length n&&Nat.ble (off+n) cs.length&&x.cells.all PV.one with
  |false=>rw[hc,cdf]at h;cases h
  |true=>
   rw[hc,cdt]at h;simp only[ojE]at h;subst h;simp only[bjE]at hc;obtain⟨⟨hc1,hc2⟩,hc3⟩:=hc;have hxl:=nqE hc1;have hle:=Nat.le_of_ble_eq_true hc2;have hcs:=rx.cells hc3;obtain⟨a',us,h1,h2,h3,h4⟩:=M.get id _ hg;have hw:w= .pointer (some ⟨a',off,none⟩):=by
    cases ra with
    |ptr _ _ _ hν=>rw[h1]at hν;simp only[ojE]at hν;subst hν;rfl
    |ptr0 _ _ _ hν=>rw[h1]at hν;cases hν
   subst hw;have hul:u.cells.toList.length=n:=by rw[←hcs.1,hxl]
   have hst:iT P σ t (.pointer (some ⟨a',off,none⟩)) u=some (σ.put a' (.cells (eZ us off u.cells.toList) boxMeta)):=by
    simp only[iT,row_of_get h2 rfl,hn];rw[show(boxMeta.wr&&Nat.beq u.cells.size n&&Nat.ble (off+n) us.length&&u.cells.toList.all one)=true by
     rw[hcs.one hc3,cJ,aFg];simp only[Array.length_toList]at hul;simp[boxMeta,hul,h3,hle]]
    rfl
   have hput:=uY u.cells.toList us off (by rw[hul,h3];exact hle)
   have hkp:Keep ν fM σ (σ.put a' (.cells (eZ us off u.cells.toList) boxMeta)):=Keep.write h1 (by rw[h2];simp)
   have hobj: ∀γ',(∀i k,γ i=some (.cell id k)→γ' i=some (.cell id k))→(∀i,own=true→γ i=some .hand→γ' i=some (.cell id off))→
          ObjR ν γ' (σ.put a' (.cells (eZ us off u.cells.toList) boxMeta)) id (.box (cs.take off++x.cells.map (fun c=>fl c own)++cs.drop (off+n))):=by
    intro γ' hγ hγ2;refine⟨a',eZ us off u.cells.toList,h1,by rw[aG,if_pos rfl],?_,fun i y b v hy hv=>?_⟩
    ·rw[hput];simp[h3];simp only[Array.length_toList]at hul;omega
    ·rw[show off+n=off+(x.cells.map fun c=>fl c own).length by simp[hxl]]at hy
     rw[hput,hul]at hv;rw[show off+n=off+u.cells.toList.length by rw[hul]]at hv
     have hy':=kF (by simp[hxl];exact hle) hy
     have hv':=kF (by rw[hul,h3];exact hle) hv
     rw[List.length_map,hxl]at hy';rw[hul]at hv';rcases hy' with⟨e1,e2⟩|⟨e1,e2,e3⟩|⟨e1,e2⟩
     ·rcases hv' with⟨f1,f2⟩|⟨f1,f2,f3⟩|⟨f1,f2⟩
      ·obtain⟨g1,g2,g3⟩:=h4 i y b v e2 f2;exact⟨g1.keep hkp (.refl σ ν),g2,fun hb=>(g3 hb).keep hkp (.refl σ ν) fun j hj _=>⟨rfl,hγ j i hj⟩⟩
      ·omega
      ·omega
     ·rcases hv' with⟨f1,f2⟩|⟨f1,f2,f3⟩|⟨f1,f2⟩
      ·omega
      ·cases own with
       |false=>
        obtain⟨g1,g2,g3⟩:=fl_ok (γ:=γ) (k:=fun _=> .hand) hcs hc3 e3 f3
        refine⟨g1.keep hkp (.refl σ ν),g2,fun hb=>?_⟩
        have:=g3 hb;rw[List.getElem?_map]at e3;cases hcc:x.cells[i-off]? with
        |none=>rw[hcc]at e3;cases e3
        |some c=>
         rw[hcc]at e3;simp only[omS,ojE]at e3;have hr:=hcs.2 _ c v hcc f3;cases c<;>simp only[fl,pjE]at e3<;>obtain⟨rfl,rfl⟩:=e3<;>first|(cases hb)|skip
         cases hr;exact .nil _
       |true=>
        have how:=hown rfl;have hsl:cV u=true:=how.slice hc3;have hxc:x.cells=[x]:=by
         cases x with
         |agg ys=>obtain⟨us',rfl,_⟩:=rx.agg_inv;cases hsl
         |_=>rfl
        have huc:u.cells.toList=[u]:=by cases u<;>first|rfl|cases hsl
        rw[hxc]at e3;rw[huc]at f3;have hn1:n=1:=by rw[←hxl,hxc];rfl
        have hio:i=off:=by omega
        subst hio;simp only[Nat.sub_self,mpC,List.map_nil,gcZ,ojE]at e3 f3;subst f3;have hx1:x.one=true:=by rw[hxc]at hc3;simpa using hc3
        have hk:Ow ν γ' (σ.put a' (.cells (eZ us i u.cells.toList) boxMeta)) (.cell id i) x u:=how.keep hkp (.refl σ ν) fun j hj _=>⟨rfl,hγ2 j rfl hj⟩
        cases x<;>simp only[fl,pjE]at e3<;>obtain⟨rfl,rfl⟩:=e3<;>first|(exact⟨rx.keep hkp (.refl σ ν),hx1,fun _=>hk⟩)|skip
        cases rx;exact⟨.emp0,rfl,fun _=> .nil _⟩
      ·omega
     ·rcases hv' with⟨f1,f2⟩|⟨f1,f2,f3⟩|⟨f1,f2⟩
      ·omega
      ·omega
      ·obtain⟨g1,g2,g3⟩:=h4 i y b v e2 f2;exact⟨g1.keep hkp (.refl σ ν),g2,fun hb=>(g3 hb).keep hkp (.refl σ ν) fun j hj _=>⟨rfl,hγ j i hj⟩⟩
   have hmv: ∀i k,γ i=some k→k≠ .hand→PI.mv .hand (.cell id off) γ i=some k:=fun i k hi hk=>by
    simp only[PI.mv,hi];rw[if_neg (by simpa using hk)]
   obtain⟨M',F'⟩:=M.write (γ':=PI.mv .hand (.cell id off) γ) F h1 h2 ⟨_,hg⟩ (hobj _ (fun i k hi=>hmv i _ hi (by simp)) fun i _ hi=>by simp[PI.mv,hi]) (fun i j o' hj hi=>hmv i _ hi (by simp)) (fun i t hi=>hmv i _ hi (by simp))
   exact⟨_,_,hst,M',F',hkp.weak fun _ _=>rfl,fun i _ hi=>hmv i _ hi (by simp),rfl,rfl,id,a',h1,aA8,fun b hb=>by rw[aG,if_neg hb]⟩
 ·rename_i z ag cs n hg hn;cases hc:Nat.beq x.cells.length n&&Nat.ble (off+n) cs.length&&x.cells.all PV.one with
  |false=>rw[hc,cdf]at h;cases h
  |true=>
   rw[hc,cdt]at h;simp only[ojE]at h;subst h;simp only[bjE]at hc;obtain⟨⟨hc1,hc2⟩,hc3⟩:=hc;have hxl:=nqE hc1;have hle:=Nat.le_of_ble_eq_true hc2;have hcs:=rx.cells hc3;obtain⟨a',us,h1,h2,h3,h5,h4⟩:=M.get id _ hg;have hw:w= .pointer (some ⟨a',off,none⟩):=by
    cases ra with
    |ptr _ _ _ hν=>rw[h1]at hν;simp only[ojE]at hν;subst hν;rfl
    |ptr0 _ _ _ hν=>rw[h1]at hν;cases hν
   subst hw;have hul:u.cells.toList.length=n:=by rw[←hcs.1,hxl]
   have hst:iT P σ t (.pointer (some ⟨a',off,none⟩)) u=some (σ.put a' (.cells (eZ us off u.cells.toList) (bD z))):=by
    simp only[iT,row_of_get h2 rfl,hn];rw[show((bD z).wr&&Nat.beq u.cells.size n&&Nat.ble (off+n) us.length&&u.cells.toList.all one)=true by
     rw[hcs.one hc3,cJ,aFg];simp only[Array.length_toList]at hul;simp[bD,hul,h3,hle]]
    rfl
   have hput:=uY u.cells.toList us off (by rw[hul,h3];exact hle)
   have hkp:Keep ν fM σ (σ.put a' (.cells (eZ us off u.cells.toList) (bD z))):=Keep.write h1 (by rw[h2];simp)
   have hwl:(wks x.cells).length=n:=by rw[eM,hxl]
   obtain⟨M',F'⟩:=M.write (γ':=γ) (o:= .row z ag (cs.take off++wks x.cells++cs.drop (off+n))) (ob':= .cells (eZ us off u.cells.toList) (bD z)) F h1 h2 ⟨_,hg⟩
    ⟨a',eZ us off u.cells.toList,h1,by rw[aG,if_pos rfl],by rw[hput];simp[h3,eM,hxl];simp only[Array.length_toList]at hul;omega,by
     have hw1:(wks x.cells).all PV.one=true:=by
      have: ∀ys:List PV,ys.all PV.one=true→(wks ys).all PV.one=true:=by
       intro ys;induction ys with
       |nil=>intro _;rfl
       |cons y ys ih=>
        intro h;simp only[alC,bjE]at h;simp only[wks,alC,bjE];refine⟨?_,ih h.2⟩;have:=h.1;cases y with
        |sl z es=>cases es<;>rfl
        |_=>first|rfl|exact this
      exact this _ hc3
     rw[List.all_append,List.all_append,hw1];simp only[bnA,bjE,List.all_eq_true]at h5⊢;exact⟨fun y hy=>h5 y (List.mem_of_mem_take hy),fun y hy=>h5 y (List.mem_of_mem_drop hy)⟩,fun i y v hy hv=>by
     rw[show off+n=off+(wks x.cells).length by rw[hwl]]at hy
     rw[hput,hul]at hv;rw[show off+n=off+u.cells.toList.length by rw[hul]]at hv
     have hy':=kF (by rw[hwl];exact hle) hy
     have hv':=kF (by rw[hul,h3];exact hle) hv
     rw[hwl]at hy';rw[hul]at hv';rcases hy' with⟨e1,e2⟩|⟨e1,e2,e3⟩|⟨e1,e2⟩
     ·rcases hv' with⟨f1,f2⟩|⟨f1,f2,f3⟩|⟨f1,f2⟩
      ·exact(h4 i y v e2 f2).keep hkp (.refl σ ν)
      ·omega
      ·omega
     ·rcases hv' with⟨f1,f2⟩|⟨f1,f2,f3⟩|⟨f1,f2⟩
      ·omega
      ·exact(hcs.wks.2 _ y v e3 f3).keep hkp (.refl σ ν)
      ·omega
     ·rcases hv' with⟨f1,f2⟩|⟨f1,f2,f3⟩|⟨f1,f2⟩
      ·omega
      ·omega
      ·exact(h4 i y v e2 f2).keep hkp (.refl σ ν)⟩ (fun i j o' hj hi=>hi) (fun i t hi=>hi)
   exact⟨_,_,hst,M',F',hkp.weak fun _ _=>rfl,.refl σ γ,rfl,rfl,id,a',h1,aA8,fun b hb=>by rw[aG,if_neg hb]⟩
 ·cases h
end
end Go.PI
namespace Go.PI
open Go.AI
section
variable{P:Program}{ν ν':Nu}{γ γ1 γ':Ga}{σ σ':St}{S:PS}{A:Slots}
theorem pT(cs:List Value)(off:Nat):cut cs off 0=some []:=by simp[cut,cJ]
theorem cut_of{cs:List Value}{off n:Nat}(h:off+n≤cs.length):cut cs off n=some ((cs.drop off).take n):=by
 simp only[cut,cJ];rw[show decide (((cs.drop off).take n).length=n)=true by simp;omega];rfl
theorem aCO{z:Nat}{es:List PV}{id off n c:Nat}(r:R ν σ (.sl z es) (.slice (some ⟨id,off,none⟩) n c)):
    n=es.length∧1≤z∧(∀e∈es,e.cells.length=z∧e.cells.all PV.pur=true)∧∃rcs m l,Fz ν σ id rcs m∧m.z=z∧off+es.length*z≤rcs.length∧cut rcs off (es.length*z)=some l∧RL ν σ (eG es) l:=by
 cases r with
 |sl _ _ _ _ _ rcs m hz hs hr hm hb hh=>
  refine⟨rfl,hz,hs,rcs,m,_,hr,hm,hb,cut_of hb,?_⟩;have hfl:=cZ (fun e he=>(hs e he).1)
  refine⟨by simp[hfl];omega,fun i x u hx hu=>?_⟩
  rw[List.getElem?_take]at hu;split at hu
  ·rw[List.getElem?_drop]at hu;exact hh i x u hx hu
  ·cases hu
theorem tB{z:Nat}{d:TypeDesc}{x:PV}{u:Value}{xs:List PV}(r:R ν σ x u)(hz1:1≤z)(h:nA z d x=some xs):
    ∃vals,lN σ z u=some (xs.length,vals)∧RL ν σ (eG xs) vals∧(∀e∈xs,e.cells.length=z∧e.cells.all PV.pur=true)∧fits d u=true:=by
 unfold nA at h;split at h
 ·cases x<;>simp only[lK]at h<;>try cases h
  ·cases r;exact⟨[],rfl,.nil,fun e he=>by simp at he,rfl⟩
  ·cases r with
   |emp0=>exact⟨[],rfl,.nil,fun e he=>by simp at he,rfl⟩
   |emp1 id off c rcs m hr=>exact⟨[],by simp only[lN,hr.1,Nat.zero_mul,pT];rfl,.nil,fun e he=>by simp at he,rfl⟩
   |emp2 b o s c=>exact⟨[],rfl,.nil,fun e he=>by simp at he,rfl⟩
  ·rename_i z' es;cases hc:Nat.beq z z' with
   |false=>rw[hc,cdf]at h;cases h
   |true=>
    rw[hc,cdt]at h;simp only[ojE]at h;subst h;have hzz:=nqE hc;subst hzz;cases r with
    |sl _ _ id off c rcs m hz hs hr hm hb hh=>
     obtain⟨_,_,hs',rcs',m',l,hr',_,hb',hl,hrl⟩:=aCO (.sl z es id off c rcs m hz hs hr hm hb hh);exact⟨l,by simp only[lN,hr'.1,hl];rfl,hrl,hs',rfl⟩
 ·split at h
  ·rename_i s;cases hc:Nat.beq z 1 with
   |false=>rw[hc,cdf]at h;cases h
   |true=>
    rw[hc,cdt]at h;simp only[ojE]at h;subst h;have hzz:=nqE hc;subst hzz;cases r with
    |str ba=>
     refine⟨_,by simp only[lN,cdt];rw[show Nat.beq 1 1=true from rfl,cdt,List.length_map,Array.length_toList];rfl,?_,fun e he=>?_,rfl⟩
     ·have: ∀bs:List UInt8,RL ν σ (eG (bs.map fun b=>PV.v (.int .u8 b.toNat))) (bs.map fun b=>Value.int .u8 b.toNat):=by
       intro bs;induction bs with
       |nil=>exact .nil
       |cons b bs ih=>simp only[mpC,eG,fmC,PV.cells,sgA];exact .cons (.v _ rfl) ih
      exact this _
     ·obtain⟨b,_,rfl⟩:=List.mem_map.1 he;exact⟨rfl,rfl⟩
  ·cases h
 ·cases h
theorem vU{p:PSt}{id z:Nat}{es xs:List PV}{old vals:List Value}{m:Mta}(M:Mem ν γ p σ)(F:FR ν γ σ S A)(hf:σ.get id=none)(hlt:id<σ.next)(hz:1≤z)
    (hse: ∀e∈es++xs,e.cells.length=z∧e.cells.all PV.pur=true) (ho:RL ν σ (eG es) old) (hv:RL ν σ (eG xs) vals) (hm:m.z=z) (ht:m.tip=true) (hw:m.wr=true) (hg:m.grp.isSome=true) (hgood:σ.good m=true) (c:Nat) (hne:es++xs≠ []):
    ∃γ',R ν (σ.put id (.cells (old++vals) m)) (cQ z (es++xs)) (.slice (some ⟨id,0,none⟩) (es.length+xs.length) c)∧Mem ν γ' p (σ.put id (.cells (old++vals) m))∧FR ν γ' (σ.put id (.cells (old++vals) m)) S A∧
      Ow ν γ' (σ.put id (.cells (old++vals) m)) .hand (cQ z (es++xs)) (.slice (some ⟨id,0,none⟩) (es.length+xs.length) c)∧Keep ν fM σ (σ.put id (.cells (old++vals) m))∧GoOut σ γ γ':=by
 obtain⟨M',F',hno⟩:=M.fz (ob:= .cells (old++vals) m) F hf hlt;have hrow:Fz ν (σ.put id (.cells (old++vals) m)) id (old++vals) m:=⟨row_of_get (by rw[aG,if_pos rfl]) hgood,hno⟩
 have hall:=ho.append hv;rw[←aBk]at hall;have hfl:=cZ (fun e he=>(hse e he).1)
 have hlen:(old++vals).length=(es++xs).length*z:=by rw[←hfl];exact hall.1.symm
 have hmk:cQ z (es++xs)= .sl z (es++xs):=by
  cases hh:es++xs with
  |nil=>exact absurd hh hne
  |cons a l=>rfl
 have hnew: ∀i k,γ i=some k→σ.get i≠none→(if i=id then some K.hand else γ i)=some k:=fun i k hi hn=>by
  rw[if_neg (fun e=>hn (by rw[e];exact hf))];exact hi
 refine⟨fun i=>if i=id then some .hand else γ i,?_,?_,?_,?_,Keep.put hf,fun i hn hi=>hnew i _ hi hn⟩
 ·rw[hmk,←lnA];exact .sl z (es++xs) id 0 c _ m hz hse hrow hm (by rw[hlen];omega) fun i x u hx hu=>(hall.2 i x u hx (by simpa using hu)).keep (Keep.put hf) (.refl σ ν)
 ·refine⟨M'.le,M'.lt,M'.inj,M'.live,fun k o hk=>?_,M'.free,M'.ver⟩
  refine(M.get k o hk).keep (γ1:=fM) (Keep.put hf) (.refl σ ν) rfl (fun a ha=>?_) fun i off hi hn=>⟨rfl,hnew i _ hi hn⟩
  rw[aG,if_neg (fun e=>hno k (by rw[←e];exact ha))]
 ·exact F.keep (γ1:=fM) (Keep.put hf) (.refl σ ν) fun i t hi hn=>⟨rfl,hnew i _ hi hn⟩
 ·rw[hmk,←lnA];exact .tip z (es++xs) id 0 c _ m hrow ht hw hg (by rw[hm,hlen];omega) (by simp)
theorem jR{z:Nat}{x:PV}{es:List PV}(h:lK z x=some es):((x= .emp∨x= .nil)∧es=[])∨x= .sl z es:=by
 cases x<;>simp only[lK]at h<;>try cases h
 ·exact .inl ⟨.inr rfl,rfl⟩
 ·exact .inl ⟨.inl rfl,rfl⟩
 ·rename_i z' es';cases hc:Nat.beq z z' with
  |false=>rw[hc,cdf]at h;cases h
  |true=>
   rw[hc,cdt]at h;simp only[ojE]at h;subst h;have hzz:=nqE hc;subst hzz;exact .inr rfl
theorem aF6{p:PSt}(M:Mem ν γ p σ)(z id:Nat):σ.good (cS z id)=true:=by
 show Nat.beq (σ.ver id) 0=true;rw[M.ver id];rfl
theorem aFb{p:PSt}{id:Nat}(M:Mem ν γ p σ)(F:FR ν γ σ S A)(hf:σ.get id=none)(hlt:id<σ.next){c:Call}{s x:Operand}(hs:aI P s=true)(hx:aI P x=true){v:PV}{own:Bool}{S':PS}
    (h:nE P S c s x=some (v,own,S')):
    ∃u σ' γ',gG P σ id c (ev A s) (ev A x)=some (u,σ')∧R ν σ' v u∧Mem ν γ' p σ'∧FR ν γ' σ' S' A∧(own=true→Ow ν γ' σ' .hand v u)∧Keep ν γ σ σ'∧GoOut σ γ γ'∧σ'.next=σ.next:=by
 unfold nE at h;unfold gG;split at h
 ·rename_i t t1 ht;simp only[ht];split at h
  ·rename_i e d he hd;simp only[he,hd];split at h
   ·rename_i info hi;simp only[hi];split at h
    ·rename_i es xs z hes hxs hz;cases hc:Nat.ble 1 info.size&&Nat.ble 1 info.bytes&&Nat.beq z.cells.size info.size with
     |false=>rw[hc,cdf]at h;cases h
     |true=>
      rw[hc,cdt]at h;simp only[bjE]at hc;have hz1:=Nat.le_of_ble_eq_true hc.1.1;obtain⟨vals,hsrc,hvals,hxe,hfit⟩:=tB (aT F hx) hz1 hxs;obtain⟨γ0,F0,how,g0⟩:=nI F s hs;have M0:=M.g2 g0;have rs:=aT F hs;have hone:vals.all one=true:=hvals.one (by
       rw[List.all_eq_true];intro y hy;simp only[eG,List.mem_flatMap]at hy;obtain⟨e,he,hy⟩:=hy;exact vA ((List.all_eq_true.1 (hxe e he).2) y hy))
      have hsl:cV (ev A s)=true:=by
       rcases jR hes with⟨h1|h1,_⟩|h1<;>rw[h1]at rs<;>generalize ev A s=w at rs<;>cases rs<;>rfl
      simp only[hfit,cdt,hsrc,hz];rw[show(vals.all one&&Nat.ble 1 info.size&&Nat.ble 1 info.bytes&&Nat.beq z.cells.size info.size&&cV (ev A s))=true by
       simp only[hone,hc.1.1,hc.1.2,hc.2,hsl,Bool.and_self]]
      simp only[cdt];cases hx0:xs with
      |nil=>
       subst hx0;simp only[ojE,pjE]at h;obtain⟨rfl,rfl,rfl⟩:=h;exact⟨ev A s,σ,γ0,rfl,rs,M0,F0,how,.refl ν γ σ,g0.out,rfl⟩
      |cons x0 xs0=>
       rw[hx0]at h;simp only at h;rw[←hx0]at h;have hlen:xs.length≠0:=by rw[hx0];simp
       have hne:es++xs≠ []:=by rw[hx0];simp
       rw[←hx0];rw[show Nat.beq xs.length 0=false by rw[cJ];simp[hlen]]
       simp only[cdf];cases hc2:hJ S s&&Nat.ble ((es.length+xs.length)*info.bytes) 1073741824 with
       |false=>rw[hc2,cdf]at h;cases h
       |true=>
        rw[hc2,cdt]at h;simp only[ojE,pjE]at h;obtain⟨rfl,rfl,rfl⟩:=h;simp only[bjE]at hc2;have how:=how hc2.1;have hlim:=hc2.2;have hgt:=aF6 M0 info.size id;have hfin: ∀{old:List Value},RL ν σ (eG es) old→(∀e∈es,e.cells.length=info.size∧e.cells.all PV.pur=true)→
                    iZ σ id info.size info.bytes xs.length vals (ev A s)=some (.slice (some ⟨id,0,none⟩) (es.length+xs.length) (es.length+xs.length+1),σ.put id (.cells (old++vals) (cS info.size id)))→
                    ∃u σ' γ',iZ σ id info.size info.bytes xs.length vals (ev A s)=some (u,σ')∧R ν σ' (cQ info.size (es++xs)) u∧Mem ν γ' p σ'∧FR ν γ' σ' (oT S s) A∧(true=true→Ow ν γ' σ' .hand (cQ info.size (es++xs)) u)∧Keep ν γ σ σ'∧GoOut σ γ γ'∧σ'.next=σ.next:=by
         intro old hold hse hag;obtain⟨γ',k1,k2,k3,k4,k5,k6⟩:=vU (m:=cS info.size id) M0 F0 hf hlt hz1 (fun e he=>(List.mem_append.1 he).elim (hse e) (hxe e)) hold hvals rfl rfl rfl rfl hgt (es.length+xs.length+1) hne
         exact⟨_,_,γ',hag,k1,k2,k3,fun _=>k4,k5.weak fun _ _=>rfl,GoOut.trans (σ':=σ) g0.out k6 (fun _ h=>h),rfl⟩
        rcases jR hes with⟨h1,rfl⟩|h1
        ·
         have rse:R ν σ .emp (ev A s):=by
          rcases h1 with h1|h1<;>rw[h1]at rs
          ·exact rs
          ·generalize ev A s=w at rs⊢;cases rs;exact .emp0
         simp only[lnN,Nat.zero_add]at hlim hfin⊢;refine hfin (old:=[]) .nil (fun e he=>by simp at he) ?_
         have how':Ow ν γ0 σ .hand .emp (ev A s)∨ev A s= .slice none 0 0:=by
          rcases h1 with h1|h1<;>rw[h1]at how rs
          ·exact .inl how
          ·right;generalize ev A s=w at rs;cases rs;rfl
         clear how hfin;generalize ev A s=w at rse how';cases rse with
         |emp0=>simp only[iZ,hlim,cdt];rfl
         |emp1 id0 off c rcs m hr=>
          have:c=0:=by
           rcases how' with how|how
           ·cases how;rfl
           ·cases how
          subst this;simp only[iZ,Nat.zero_add,hlim,cdt,hr.1,Nat.zero_mul,pT];rfl
         |emp2 b o s' c=>
          rcases how' with how|how
          ·cases how;have hq:(Nat.beq 1 1&&Nat.ble (xs.length*info.bytes) 1073741824)=true:=by rw[hlim];rfl
           simp only[iZ,hq,cdt];rfl
          ·cases how
        ·rw[h1]at rs how;obtain⟨hse,hcut⟩:(∀e∈es,e.cells.length=info.size∧e.cells.all PV.pur=true)∧∃id0 off cc rcs m l,ev A s= .slice (some ⟨id0,off,none⟩) es.length cc∧Fz ν σ id0 rcs m∧m.z=info.size∧off+es.length*info.size≤rcs.length∧cut rcs off (es.length*info.size)=some l∧RL ν σ (eG es) l:=by
          generalize ev A s=w at rs;cases rs with
          |sl _ _ id0 off cc rcs m hz hs hr hm hb hh=>
           obtain⟨_,_,hs',rcs',m',l,k1,k2,k3,k4,k5⟩:=aCO (.sl info.size es id0 off cc rcs m hz hs hr hm hb hh);exact⟨hs',id0,off,cc,rcs',m',l,rfl,k1,k2,k3,k4,k5⟩
         obtain⟨id0,off,cc,rcs,m,l,hw,hr,hmz,hb,hl,hrl⟩:=hcut;by_cases hcc:cc=es.length
         ·refine hfin hrl hse ?_;rw[hw,hcc];simp only[iZ,hlim,cdt,hr.1,hl];rw[show Nat.beq es.length es.length=true by simp[cJ]]
          rfl
         ·rw[hw]at how⊢;cases how with
          |exact=>exact absurd rfl hcc
          |tip z0 es0 _ _ _ rcs2 m2 hr2 ht hwr hg hb2 hk=>
           have:rcs2=rcs∧m2=m:=by have:=hr2.1;rw[hr.1]at this;simp only[ojE,pjE]at this;exact⟨this.1.symm,this.2.symm⟩
           obtain⟨rfl,rfl⟩:=this;obtain⟨hget,hgood⟩:=bO hr.1;have hii:id0≠id:=fun e=>by rw[e,hf]at hget;cases hget
           have hag:iZ σ id info.size info.bytes xs.length vals (.slice (some ⟨id0,off,none⟩) es.length cc)=
                          some (.slice (some ⟨id,0,none⟩) (es.length+xs.length) (es.length+xs.length+1),(σ.put id0 (.cells rcs2 {m2 with tip:=false})).put id (.cells (l++vals) {m2 with lim:=l.length})):=by
            simp only[iZ,hlim,cdt,hr.1,hl];rw[show Nat.beq cc es.length=false by rw[cJ];simp[hcc]]
            simp only[cdf];rw[show(m2.tip&&m2.wr&&Nat.beq m2.z info.size&&Nat.beq (off+es.length*info.size) rcs2.length&&m2.grp.isSome)=true by
             rw[hmz]at hb2;simp only[ht,hwr,hg,cJ,hmz,hb2,decide_true,Bool.and_self]]
            rfl
           have kp:Keep ν (fun i=>if i=id0 then none else some .out) σ (σ.put id0 (.cells rcs2 {m2 with tip:=false})):=by
            refine⟨rfl,nlR _,fun a ha=>?_,fun a hn cs m hg'=>?_⟩
            ·rw[aG]at ha;split at ha
             ·cases ha
             ·exact ha
            ·by_cases e:a=id0
             ·subst e;rw[hget]at hg';simp only[ojE,AObj.cells.injEq]at hg';obtain⟨rfl,rfl⟩:=hg';refine⟨false,by rw[aG,if_pos rfl],fun _=>rfl,fun h=>?_⟩
              simp at h
             ·exact⟨m.tip,by rw[aG,if_neg e];exact hg',fun h=>h,fun _=>rfl⟩
           have hkk: ∀i k,γ0 i=some k→k≠ .hand→(if i=id0 then none else some K.out)=some K.out:=fun i k hi hk'=>by
            rw[if_neg];intro e;rw[e,hk]at hi;simp only[ojE]at hi;exact hk' hi.symm
           have M1:Mem ν γ0 p (σ.put id0 (.cells rcs2 {m2 with tip:=false})):=by
            refine⟨M0.le,M0.lt,M0.inj,M0.live,fun k o hk'=>?_,fun a ha=>?_,M0.ver⟩
            ·refine(M0.get k o hk').keep kp (.refl σ ν) rfl (fun a ha=>?_) fun i off' hi _=>⟨hkk i _ hi (by simp),hi⟩
             rw[aG,if_neg (fun e=>hr.2 k (by rw[←e];exact ha))]
            ·rw[aG,if_neg (fun e=>by subst e;rw[M0.free a ha]at hget;cases hget)];exact M0.free a ha
           have F1:FR ν γ0 (σ.put id0 (.cells rcs2 {m2 with tip:=false})) (oT S s) A:=F0.keep kp (.refl σ ν) fun i t hi _=>⟨hkk i _ hi (by simp),hi⟩
           obtain⟨γ',k1,k2,k3,k4,k5,k6⟩:=vU (m:={m2 with lim:=l.length}) M1 F1 (by rw[aG,if_neg (Ne.symm hii)];exact hf) hlt hz1 (fun e he=>(List.mem_append.1 he).elim (hse e) (hxe e)) (hrl.keep kp (.refl σ ν)) (hvals.keep kp (.refl σ ν)) hmz ht hwr hg (by exact hgood) (es.length+xs.length+1) hne
           refine⟨_,_,γ',hag,k1,k2,k3,fun _=>k4,?_,GoOut.trans g0.out k6 (fun a ha=>kp.dom a ha),rfl⟩
           have kp':Keep ν γ0 σ (σ.put id0 (.cells rcs2 {m2 with tip:=false})):=kp.weak fun a ha=>by
            show(if a=id0 then none else some K.out)=some K.out
            exact hkk a _ ha (by simp)
           have:=Keep.trans (γ:=γ0) kp' (.refl σ ν) (k5.weak (γ:=γ0) fun _ _=>rfl) (.refl σ γ0)
           exact this.weak fun a ha=>(g0 a).1 ha
    ·cases h
   ·cases h
  ·cases h
 ·cases h
end
end Go.PI
namespace Go.AI
section
variable{P:Program}{μ:Mp}
theorem sD(t:TypeId):aO P (typeInfo t)=P.info? t:=by
 unfold typeInfo;simp only[bind,Sem.bind,program,aO];cases P.info? t<;>rfl
theorem aD(t:TypeId):aO P (underlying t)=P.underlying t:=by
 unfold underlying;simp only[bind,Sem.bind,program,aO];cases P.underlying t<;>rfl
theorem aR(t:TypeId):aO P (Go.sizeOf t)=jD P t:=by
 unfold Go.sizeOf jD;rw[aA,sD];cases P.info? t<;>rfl
theorem kX(t:TypeId):aO P (isAgg t)=jA P t:=by
 unfold isAgg jA;rw[aA,aD];cases h:P.underlying t with
 |none=>rfl
 |some d=>cases d<;>rfl
theorem fH{s:Sem Value}{v:Value}(h:aL P s=some v): ∃v',aO P s=some v'∧VR μ v v':=by
 unfold aL at h;split at h<;>try cases h
 rename_i u hu;cases hp:aH u with
 |false=>simp[hp]at h
 |true=>simp only[hp,cdt,ojE]at h;subst h;exact⟨u,hu,.same1 hp⟩
theorem VRL.extract{xs us:Array Value}(r:VRL μ xs.toList us.toList)(i j:Nat):VRL μ (xs.extract i j).toList (us.extract i j).toList:=by
 simp only[Array.toList_extract,List.extract_eq_take_drop];exact(r.drop i).take (j-i)
theorem VRL.size{xs us:Array Value}(r:VRL μ xs.toList us.toList):xs.size=us.size:=by simpa using r.1
theorem aEi{t:TypeId}{cs us:Array Value}{off:Nat}{v:Value}(r:VRL μ cs.toList us.toList)(h:wN P t cs off=some v): ∃v',aO P (part t us off)=some v'∧VR μ v v':=by
 unfold wN at h;unfold part;rw[aA,kX];cases ha:jA P t with
 |none=>simp[ha]at h
 |some b=>
  cases b with
  |true=>
   simp only[ha]at h;cases hs:jD P t with
   |none=>simp[hs]at h
   |some n=>
    simp only[hs,ojE]at h;subst h;refine⟨.agg (us.extract off (off+n)),?_,.mkAgg' (r.extract _ _)⟩;simp only[obS,if_true,aA,aR,hs,aC]
  |false=>
   simp only[ha]at h;obtain⟨u,hu,hr⟩:=r.get (i:=off) (x:=v) (by simpa using h)
   refine⟨u,?_,hr⟩;have:us[off]?=some u:=by simpa using hu
   simp[this,aC]
theorem aHF(place:Nat): ∀(c c':List Value) (k:Nat) (A A':Array Value),VRL μ c c'→VRL μ A.toList A'.toList→
    VRL μ ((c.zipIdx k).foldl (fun(cs:Array Value) x=>cs.setIfInBounds (place+x.2) x.1) A).toList ((c'.zipIdx k).foldl (fun(cs:Array Value) x=>cs.setIfInBounds (place+x.2) x.1) A').toList:=by
 intro c;induction c with
 |nil=>intro c' k A A' hc hA;rw[hc.nil_inv];simpa using hA
 |cons x c ih=>
  intro c' k A A' hc hA;obtain⟨u,c'',rfl,hx,hc'⟩:=hc.cons_inv;simp only[List.zipIdx_cons,List.foldl_cons];refine ih _ _ _ _ hc' ?_;simp only[Array.toList_setIfInBounds];exact hA.set hx _
def PR(μ:Mp):List (Nat×Value)→List (Nat×Value)→Prop
 |[],[]=>True
 |(i,x)::xs,(j,u)::us=>i=j∧VR μ x u∧PR μ xs us
 |_,_=>False
theorem aBm(place:Nat→Option (Nat×Nat)): ∀(ps qs:List (Nat×Value)) (A A':Array Value) (r:Array Value),PR μ ps qs→VRL μ A.toList A'.toList→Instr.fill place A ps=some r→
    ∃r',Instr.fill place A' qs=some r'∧VRL μ r.toList r'.toList:=by
 intro ps;induction ps with
 |nil=>
  intro qs A A' r hp hA h;cases qs with
  |nil=>simp only[Instr.fill,ojE]at h;subst h;exact⟨A',rfl,hA⟩
  |cons q qs=>exact hp.elim
 |cons p ps ih=>
  intro qs A A' r hp hA h;obtain⟨i,x⟩:=p;cases qs with
  |nil=>exact hp.elim
  |cons q qs=>
   obtain⟨j,u⟩:=q;obtain⟨rfl,hx,hp'⟩:=hp;have hsz:u.cells.size=x.cells.size:=(hx.cells.size).symm;have hsA:A'.size=A.size:=hA.size.symm;simp only[Instr.fill]at h⊢;cases hpl:place i with
   |none=>simp[hpl]at h
   |some os=>
    obtain⟨off,size⟩:=os;simp only[hpl]at h⊢;rw[hsz,hsA];split at h
    ·cases h
    ·rename_i hn;rw[if_neg hn];refine ih _ _ _ _ hp' ?_ h;have:=aHF (μ:=μ) off x.cells.toList u.cells.toList 0 A A' hx.cells hA;rw[←Array.foldl_toList,←Array.foldl_toList,Array.toList_zipIdx,Array.toList_zipIdx];exact this
theorem PR_map{ρ ρ':Operand→Value}(l:List (Nat×Operand))(h: ∀x∈l,VR μ (ρ x.2) (ρ' x.2)):PR μ (l.map fun(i,x)=>(i,ρ x)) (l.map fun(i,x)=>(i,ρ' x)):=by
 induction l with
 |nil=>trivial
 |cons x l ih=>exact⟨rfl,h x (by simp),ih fun y hy=>h y (by simp[hy])⟩
theorem wR{ρ ρ':Operand→Value}(l:List Operand)(h: ∀x∈l,VR μ (ρ x) (ρ' x)):VRL μ (l.map ρ) (l.map ρ'):=by
 induction l with
 |nil=>exact .nil
 |cons x l ih=>exact .cons (h x (by simp)) (ih fun y hy=>h y (by simp[hy]))
theorem aIw{t:TypeId}{ps qs:Array (Nat×Value)}{v:Value}(r:PR μ ps.toList qs.toList)(h:aAg P t ps=some v): ∃v',aO P (Instr.build t qs)=some v'∧VR μ v v':=by
 unfold aAg at h;cases hz:aO P (zeroValue t)with
 |none=>simp[hz]at h
 |some z=>
  simp only[hz]at h;cases hp:z.cells.toList.all aB with
  |false=>simp[hp]at h
  |true=>
   simp only[hp,cdt]at h;unfold Instr.build;simp only[aA,hz,obS,aD];cases hu:P.underlying t with
   |none=>simp[hu]at h
   |some d=>
    simp only[hu]at h;cases d with
    |struct fs=>
     simp only at h;cases hm:aO P (fs.mapM fun f=>do pure (f.offset,←Go.sizeOf f.type))with
     |none=>rw[hm]at h;cases h
     |some places=>
      simp only[hm,mjE]at h;obtain⟨cs,hf,rfl⟩:=h;obtain⟨cs',hf',hr⟩:=aBm _ _ _ _ _ _ r (VRL.same hp) hf;refine⟨.agg cs',?_,.mkAgg' hr⟩;simp only[obS,aA,hm];rw[hf'];rfl
    |array n e=>
     simp only at h;cases hs:jD P e with
     |none=>simp[hs]at h
     |some s=>
      simp only[hs,mjE]at h;obtain⟨cs,hf,rfl⟩:=h;obtain⟨cs',hf',hr⟩:=aBm _ _ _ _ _ _ r (VRL.same hp) hf;refine⟨.agg cs',?_,.mkAgg' hr⟩;simp only[obS,aA,aR,hs];rw[hf'];rfl
    |_=>simp at h
theorem eT(id off n:Nat):(Addr.mk id off none).add n=⟨id,off+n,none⟩:=by
 unfold Addr.add;split
 ·rename_i h;subst h;rfl
 ·rfl
theorem VR.ptr_inv{id off:Nat}{u:Value}(r:VR μ (.pointer (some ⟨id,off,none⟩)) u): ∃p,μ id=some p∧u= .pointer (some ⟨p.b,p.o+off,none⟩):=by
 cases r with
 |same _ h=>simp[aB]at h
 |ptr _ _ p h=>exact⟨p,h,rfl⟩
theorem VR.slc_inv{id off len c:Nat}{u:Value}(r:VR μ (.slice (some ⟨id,off,none⟩) len c) u):
    ∃p cap,μ id=some p∧u= .slice (some ⟨p.b,p.o+off,none⟩) len cap∧(c=len→cap=len)∧len≤cap∧p.o+off+cap*p.z≤p.e:=by
 cases r with
 |same _ h=>simp[aB]at h
 |slc _ _ _ _ cap p h hc hl he=>exact⟨p,cap,h,rfl,hc,hl,he⟩
theorem VR.nilslc_inv{len c:Nat}{u:Value}(r:VR μ (.slice none len c) u):len=0∧c=0∧u= .slice none 0 0:=by
 cases r with
 |same _ h=>simp only[aB,cJ,bjE,djE]at h;obtain⟨rfl,rfl⟩:=h;exact⟨rfl,rfl,rfl⟩
theorem VR.int_inv{k:IntKind}{n:Int}{u:Value}(r:VR μ (.int k n) u):u= .int k n:=r.eq0 rfl
theorem VR.bool_inv{b:Bool}{u:Value}(r:VR μ (.bool b) u):u= .bool b:=r.eq0 rfl
theorem VR.string_inv{s:ByteArray}{u:Value}(r:VR μ (.string s) u):u= .string s:=r.eq0 rfl
theorem wP{s:TypeId}{a b v:Value}{f:Nat}(r:VR μ a b)(h:gP P s a f=some v): ∃v',aO P (Instr.fieldAt s b f)=some v'∧VR μ v v':=by
 unfold gP at h;unfold Instr.fieldAt;rw[aA,aD];split at h<;>try cases h
 rename_i fs hu;split at h<;>try cases h
 rename_i fd hf;split at h<;>try cases h
 rename_i n hn;split at h<;>try cases h
 rename_i id off;obtain⟨p,hp,rfl⟩:=r.ptr_inv;rw[cJ,Bool.cond_decide]at h;split at h
 ·cases h
 ·rename_i hn0;cases h;refine⟨.pointer (some ⟨p.b,p.o+(off+fd.offset),none⟩),?_,.ptr _ _ p hp⟩;simp only[hu,obS,hf,Instr.sureAddr,aA,aC,fieldPlace,aR,hn,if_neg hn0,eT,Nat.add_assoc]
theorem aIu{t:TypeId}{a b v:Value}{f:Nat}(r:VR μ a b)(h:aAf P t a f=some v): ∃v',aO P (Instr.field t b f)=some v'∧VR μ v v':=by
 unfold aAf at h;unfold Instr.field;rw[aA,aD];split at h<;>try cases h
 rename_i fs hu;split at h<;>try cases h
 rename_i fd hf;split at h<;>try cases h
 obtain⟨us,rfl,hl⟩:=r.agg_inv;obtain⟨v',hv,hr⟩:=aEi hl h;refine⟨v',?_,hr⟩;simp only[hu,obS,hf,asAgg,aA,aC,hv]
theorem lG{i:Int}{n:Nat}:aZ i n=true↔0≤i∧i<(n:Int):=by simp[aZ]
theorem wO{t:TypeId}{a b i j v:Value}(r:VR μ a b)(ri:VR μ i j)(h:cO P t a i=some v): ∃v',aO P (Instr.indexAt t b j)=some v'∧VR μ v v':=by
 unfold cO at h;unfold Instr.indexAt;split at h<;>try cases h
 rename_i k n;obtain rfl:=ri.int_inv;rw[aA];simp only[asIntOf,aC,obS];rw[aA,aD];split at h<;>try cases h
 ·rename_i e hu;split at h<;>try cases h
  rename_i id off len c;obtain⟨p,cap,hp,rfl,_⟩:=r.slc_inv;split at h<;>try cases h
  rename_i z hz;cases hin:aZ n len with
  |false=>simp[hin]at h
  |true=>
   simp only[hin,cdt,ojE]at h;subst h;rw[lG]at hin;refine⟨.pointer (some ⟨p.b,p.o+(off+n.toNat*z),none⟩),?_,.ptr _ _ p hp⟩;simp only[hu,obS,aA,aC,aD,if_pos hin,aR,hz,eT,Nat.add_assoc]
 ·rename_i len e hu;split at h<;>try cases h
  rename_i id off;obtain⟨p,hp,rfl⟩:=r.ptr_inv;split at h<;>try cases h
  rename_i z hz;cases hin:aZ n len with
  |false=>simp[hin]at h
  |true=>
   simp only[hin,cdt,ojE]at h;subst h;rw[lG]at hin;refine⟨.pointer (some ⟨p.b,p.o+(off+n.toNat*z),none⟩),?_,.ptr _ _ p hp⟩;simp only[hu,obS,aA,aC,aD,if_pos hin,aR,hz,eT,Nat.add_assoc,Instr.sureAddr]
theorem aIs{t:TypeId}{a b i j v:Value}(r:VR μ a b)(ri:VR μ i j)(h:aAe P t a i=some v): ∃v',aO P (Instr.index t b j)=some v'∧VR μ v v':=by
 unfold aAe at h;split at h<;>try cases h
 ·rename_i hu;cases hp:(aB a&&aB i)with
  |false=>simp[hp]at h
  |true=>
   simp only[hp,cdt]at h;simp only[bjE]at hp;obtain rfl:=r.eq0 hp.1;obtain rfl:=ri.eq0 hp.2;exact fH h
 ·rename_i len e hu;split at h<;>try cases h
  rename_i k n cs;obtain rfl:=ri.int_inv;obtain⟨us,rfl,hl⟩:=r.agg_inv;split at h<;>try cases h
  rename_i z hz;cases hin:aZ n len with
  |false=>simp[hin]at h
  |true=>
   simp only[hin,cdt]at h;rw[lG]at hin;obtain⟨v',hv,hr⟩:=aEi hl h;refine⟨v',?_,hr⟩;unfold Instr.index;simp only[asIntOf,aA,aC,obS,aD,hu,if_pos hin,aR,hz,hv]
theorem bM{n:Int}{k:IntKind}{y:Nat}{code:BoundsCode}(h0:0≤n)(h1:n≤(y:Int)):aO P (Instr.sliceBound (.int k n) y code)=some n.toNat:=by
 unfold Instr.sliceBound;simp only[asIntOf,aA,aC,obS];rw[if_pos ⟨h0,h1⟩];rfl
theorem bQ{a:Option Value}{l:Option Int}(h:iR a=some l):(a=none∧l=none)∨∃k n,a=some (.int k n)∧l=some n:=by
 unfold iR at h;split at h
 ·cases h;exact .inl ⟨rfl,rfl⟩
 ·rename_i k n;cases h;exact .inr ⟨k,n,rfl,rfl⟩
 ·cases h
def OR(μ:Mp):Option Value→Option Value→Prop
 |none,none=>True
 |some x,some u=>VR μ x u
 |_,_=>False
theorem aJr{ρ ρ':Operand→Value}(x:Option Operand)(h: ∀y,x=some y→VR μ (ρ y) (ρ' y)):OR μ (x.map ρ) (x.map ρ'):=by
 cases x with
 |none=>trivial
 |some y=>exact h y rfl
theorem OR.int{a b:Option Value}{l:Option Int}(r:OR μ a b)(h:iR a=some l):b=a:=by
 rcases bQ h with⟨rfl,rfl⟩|⟨k,n,rfl,rfl⟩
 ·cases b with
  |none=>rfl
  |some x=>exact r.elim
 ·cases b with
  |none=>exact r.elim
  |some x=>rw[VR.int_inv r]
theorem OR.plain{a b:Option Value}(r:OR μ a b)(h:aB (a.getD (.bool true))=true):b=a:=by
 cases a with
 |none=>cases b with
  |none=>rfl
  |some x=>exact r.elim
 |some y=>cases b with
  |none=>exact r.elim
  |some x=>rw[VR.eq0 r h]
theorem dM{lo hi mx:Option Value}{len cap:Nat}{l h m:Option Int}(hl:iR lo=some l)(hh:iR hi=some h)(hm:iR mx=some m)
    (hmh:m≠none→h≠none) (h0:0≤l.getD 0) (h1:l.getD 0≤h.getD (len:Int)) (h2:h.getD (len:Int)≤m.getD (cap:Int)) (h3:m.getD (cap:Int)≤(cap:Int)) (h4:len≤cap):
    aO P (Instr.sliceBounds true len cap lo hi mx)=some ((l.getD 0).toNat,(h.getD (len:Int)).toNat,(m.getD (cap:Int)).toNat):=by
 unfold Instr.sliceBounds;rcases bQ hm with⟨rfl,rfl⟩|⟨km,nm,rfl,rfl⟩
 ·rcases bQ hh with⟨rfl,rfl⟩|⟨kh,nh,rfl,rfl⟩
  ·rcases bQ hl with⟨rfl,rfl⟩|⟨kl,nl,rfl,rfl⟩
   ·simp[aA,aC]
   ·simp only[Option.getD_none,Option.getD_some]at*;simp only[aA,aC,obS,bM h0 h1,Int.toNat_natCast]
  ·rcases bQ hl with⟨rfl,rfl⟩|⟨kl,nl,rfl,rfl⟩
   ·simp only[Option.getD_none,Option.getD_some]at*;simp only[aA,aC,obS,bM (show 0≤nh by omega) h2,Int.toNat_natCast,Int.toNat_zero]
   ·simp only[Option.getD_none,Option.getD_some]at*;simp only[aA,aC,obS,bM (show 0≤nh by omega) h2,Int.toNat_natCast]
    rw[bM h0 (by omega)];rfl
 ·rcases bQ hh with⟨rfl,rfl⟩|⟨kh,nh,rfl,rfl⟩
  ·exact absurd rfl (hmh (by simp))
  ·rcases bQ hl with⟨rfl,rfl⟩|⟨kl,nl,rfl,rfl⟩
   ·simp only[Option.getD_none,Option.getD_some]at*;simp only[aA,aC,obS,bM (show 0≤nm by omega) h3,Int.toNat_zero]
    rw[bM (show 0≤nh by omega) (by omega)];rfl
   ·simp only[Option.getD_none,Option.getD_some]at*;simp only[aA,aC,obS,bM (show 0≤nm by omega) h3]
    rw[bM (show 0≤nh by omega) (by omega)]
    simp only[obS];rw[bM h0 (by omega)];rfl
theorem aIo{σ:St}{t:TypeId}{a b v:Value}{lo hi mx lo' hi' mx':Option Value}(hZ: ∀id p z,μ id=some p→aAF σ id z=true→p.z=z)
    (r:VR μ a b) (rl:OR μ lo lo') (rh:OR μ hi hi') (rm:OR μ mx mx') (h:oW P σ t a lo hi mx=some v):
    ∃v',aO P (Instr.sliceAt t b lo' hi' mx')=some v'∧VR μ v v':=by
 unfold oW at h;split at h<;>try cases h
 ·rename_i hu;split at h<;>try cases h
  rename_i s;obtain rfl:=r.string_inv;cases hp:(mx.isNone&&aB (lo.getD (.bool true))&&aB (hi.getD (.bool true)))with
  |false=>simp[hp]at h
  |true=>
   simp only[hp,cdt]at h;simp only[bjE]at hp;obtain rfl:=rl.plain hp.1.2;obtain rfl:=rh.plain hp.2;have:mx=none:=by simpa using hp.1.1
   subst this;obtain rfl:mx'=none:=by cases mx' with|none=>rfl|some x=>exact rm.elim
   exact fH h
 ·rename_i e hu;split at h<;>try cases h
  rename_i base len c;split at h<;>try cases h
  rename_i z l hh m hz hl hhi hm;obtain rfl:=rl.int hl;obtain rfl:=rh.int hhi;obtain rfl:=rm.int hm;simp only at h;cases hb:(decide (0≤l.getD 0)&&decide (l.getD 0≤hh.getD (len:Int))&&decide (hh.getD (len:Int)≤(len:Int)))with
  |false=>rw[hb]at h;cases h
  |true=>
   rw[hb]at h;simp only[bjE,djE]at hb;obtain⟨⟨h0,h1⟩,h2⟩:=hb;simp only[cdt]at h;have hS: ∀x,aO P (Instr.sliceAt t x lo' hi' mx')=aO P (Instr.slice t x lo' hi' mx'):=by
    intro x;unfold Instr.sliceAt;rw[aA,aD,hu];rfl
   rw[hS];by_cases hz0:(Nat.beq len 0&&aFl m&&hh.isSome)=true
   ·rw[hz0,cdt]at h;simp only[ojE]at h;subst h;simp only[bjE]at hz0;obtain⟨⟨hz1,hz2⟩,hz3⟩:=hz0;have hl0:=nqE hz1;subst hl0;have hm0:m=some 0:=by
     cases m with
     |none=>cases hz2
     |some n=>simp only[aFl,djE]at hz2;rw[hz2]
    subst hm0;have hn:hh≠none:=by intro e;subst e;cases hz3
    have e1:(l.getD 0).toNat=0:=by simp only[Int.natCast_zero]at h2 h1;omega
    have e2:(hh.getD ((0:Nat):Int)).toNat=0:=by simp only[Int.natCast_zero]at h2 h1⊢;omega
    have hB:=fun cap=>dM (P:=P) (len:=0) (cap:=cap) hl hhi hm (fun _=>hn) h0 h1 (by simp only[Int.natCast_zero,Option.getD_some]at h2⊢;omega) (by simp) (Nat.zero_le _)
    cases base with
    |none=>
     obtain⟨_,rfl,rfl⟩:=r.nilslc_inv;refine⟨.slice none 0 0,?_,.same _ rfl⟩;unfold Instr.slice;rw[aA,aD,hu];simp only[obS];rw[aA,hB 0];simp only[obS,aA,aR,hz,e1,e2,Option.getD_some,Int.toNat_zero,if_true,Nat.sub_self,aC]
    |some a=>
     obtain⟨a',cap,rfl⟩: ∃a' cap,b= .slice (some a') 0 cap:=by
      cases r with
      |same _ hp=>simp[aB]at hp
      |slc=>exact⟨_,_,rfl⟩
      |emp=>exact⟨_,_,rfl⟩
     refine⟨.slice (some a') 0 0,?_,.emp _ 1 0 fun _=>rfl⟩
     unfold Instr.slice;rw[aA,aD,hu];simp only[obS];rw[aA,hB cap];simp only[obS,aA,aR,hz,e1,e2,Option.getD_some,Int.toNat_zero,if_true,Nat.sub_self,aC]
   rw[Bool.not_eq_true]at hz0;rw[hz0,cdf]at h;have hzero: ∀a' cap,len=0→mx'=none→aO P (Instr.slice t (.slice (some a') len cap) lo' hi' mx')=some (.slice (some a') len cap):=by
    rintro a' cap rfl rfl;unfold Instr.slice;rw[aA,aD,hu];simp only[obS];rcases bQ hm with⟨_,rfl⟩|⟨_,_,e,_⟩
    ·have hB:=dM (P:=P) (len:=0) (cap:=cap) hl hhi hm (by simp) h0 h1 (by simp only[Option.getD_none,Int.natCast_zero]at h2⊢;omega) (by simp) (Nat.zero_le _)
     simp only[Option.getD_none]at hB;rw[aA,hB];have e1:(l.getD 0).toNat=0:=by simp only[Int.natCast_zero]at h2 h1;omega
     have e2:(hh.getD ((0:Nat):Int)).toNat=0:=by simp only[Int.natCast_zero]at h2 h1⊢;omega
     simp only[obS,aA,aR,hz,e1,e2,Int.toNat_natCast,Nat.sub_self,Nat.sub_zero,aC,Nat.zero_mul];split
     ·rfl
     ·simp only[omS,Addr.add,if_true]
    ·cases e
   by_cases hsp: ∃x y s,base=some ⟨x,y,some s⟩
   ·obtain⟨x,y,s,rfl⟩:=hsp;simp only at h;cases hc0:(Nat.beq len 0&&mx'.isNone)with
    |false=>rw[hc0]at h;cases h
    |true=>
     rw[hc0]at h;simp only[cdt,ojE]at h;subst h;simp only[bjE]at hc0;have hl0:=nqE hc0.1;have hmn:mx'=none:=by simpa using hc0.2
     cases r with
     |same _ hp=>simp[aB]at hp
     |emp a' _ cap hs=>exact⟨_,hzero a' cap rfl hmn,.emp a' _ cap hs⟩
   by_cases hrz0: ∃id off,base=some ⟨id,off,none⟩∧aAF σ id z=false
   ·obtain⟨id,off,rfl,hrz⟩:=hrz0;simp only[hrz,cdf]at h;cases hc0:(Nat.beq len 0&&mx'.isNone)with
    |false=>rw[hc0]at h;cases h
    |true=>
     rw[hc0]at h;simp only[cdt,ojE]at h;subst h;simp only[bjE]at hc0;have hl0:=nqE hc0.1;have hmn:mx'=none:=by simpa using hc0.2
     obtain⟨p,cap,hp,rfl,hc,hlc,he⟩:=r.slc_inv;exact⟨_,hzero _ cap hl0 hmn,r⟩
   unfold Instr.slice;rw[aA,aD,hu];simp only[obS];split at h
   ·
    obtain⟨rfl,rfl,rfl⟩:=r.nilslc_inv;cases hmx:mx'.isNone with
    |false=>simp[hmx]at h
    |true=>
     simp only[hmx,cdt,ojE]at h;subst h;have:mx'=none:=by simpa using hmx
     subst this;rcases bQ hm with⟨_,rfl⟩|⟨_,_,e,_⟩
     ·have hB:=dM (P:=P) (len:=0) (cap:=0) hl hhi hm (by simp) h0 h1 (by simpa using h2) (by simp) (nlR _)
      refine⟨.slice none 0 0,?_,.same _ rfl⟩;simp only[Option.getD_none]at hB;rw[aA,hB];have e1:(l.getD 0).toNat=0:=by simp only[Int.natCast_zero]at h2 h1;omega
      have e2:(hh.getD ((0:Nat):Int)).toNat=0:=by simp only[Int.natCast_zero]at h2 h1⊢;omega
      simp only[obS,aA,aR,hz,e1,e2,Int.toNat_natCast,if_true,Nat.sub_self,aC]
     ·cases e
   ·rename_i id off;obtain⟨p,cap,hp,rfl,hc,hlc,he⟩:=r.slc_inv;cases hrz:aAF σ id z with
    |false=>exact absurd ⟨id,off,rfl,hrz⟩ hrz0
    |true=>
    rw[hrz]at h;simp only[cdt]at h;have hpz:=hZ id p z hp hrz;generalize hL:(l.getD 0).toNat=L at*;generalize hH:(hh.getD (len:Int)).toNat=H at*;have hLH:L≤H:=by omega
    have hHl:H≤len:=by omega
    have hmul:p.o+(off+L*z)+(cap-L)*p.z≤p.e:=by
     have:(cap-L)*p.z=cap*p.z-L*p.z:=Nat.sub_mul _ _ _;have h':L*p.z≤cap*p.z:=Nat.mul_le_mul_right _ (by omega)
     rw[←hpz];omega
    split at h
    ·
     rename_i hmn;rcases bQ hm with⟨rfl,_⟩|⟨_,_,_,e⟩
     ·have hB:=dM (P:=P) (len:=len) (cap:=cap) hl hhi hm (by simp) h0 h1 (by simp;omega) (by simp) hlc
      simp only[Option.getD_none,Int.toNat_natCast,hL,hH]at hB;simp only;rw[aA,hB];simp only[obS,aA,aR,hz,aC];refine⟨_,rfl,?_⟩;simp only[cJ,Bool.cond_decide,←Bool.decide_and]at h;split at h
      ·rename_i hcl;obtain⟨hcl,hhl⟩:=hcl;have hcap:=hc hcl;subst hcap;split at h
       ·rename_i hll;cases h;rw[if_pos hll.symm,hhl,hll,Nat.sub_self];exact .slc id off 0 0 0 p hp (fun _=>rfl) (nlR _) (by simp;have:=Nat.zero_le (cap*p.z);omega)
       ·rename_i hll;cases h;rw[if_neg (by omega),hhl]
        simp only[omS,eT,Nat.add_assoc];exact .slc id (off+L*z) (cap-L) (cap-L) (cap-L) p hp (fun _=>rfl) (nlR _) hmul
      ·split at h
       ·rename_i hcl hhl;cases h;obtain⟨hhl,hl0⟩:=hhl;have: ¬cap=L∨cap=0:=by omega
        subst hhl;subst hl0;have e3:(if cap=0 then some (Addr.mk p.b (p.o+off) none)else Option.map (fun x=>x.add (0*z)) (some (Addr.mk p.b (p.o+off) none)))=some (Addr.mk p.b (p.o+off) none):=by
         split
         ·rfl
         ·simp[eT]
        rw[e3];exact .slc id off _ c cap p hp hc hlc he
       ·split at h
        ·rename_i hll;cases h;rw[if_neg (by omega)]
         simp only[omS,eT,Nat.add_assoc];exact .slc id (off+L*z) (H-L) (H-L+1) (cap-L) p hp (fun e=>by omega) (by omega) hmul
        ·cases h;rw[show H-L=0 by omega]
         split
         ·exact .emp _ 0 _ (fun h=>by cases h)
         ·simp only[omS];exact .emp _ 0 _ (fun h=>by cases h)
     ·cases e
    ·rename_i m';rcases bQ hm with⟨_,e⟩|⟨km,nm,rfl,e⟩
     ·cases e
     ·cases e;cases hd:(decide (hh.getD (len:Int)=m')&&decide (l.getD 0<m')&&hh.isSome)with
      |false=>rw[hd]at h;cases h
      |true=>
       rw[hd]at h;simp only[bjE,djE]at hd;obtain⟨⟨hd1,hd2⟩,hd3⟩:=hd;simp only[cdt,ojE]at h;subst h;have hn:hh≠none:=by intro e;subst e;cases hd3
       have hB:=dM (P:=P) (len:=len) (cap:=cap) hl hhi hm (fun _=>hn) h0 h1 (by simp;omega) (by simp;omega) hlc
       simp only[Option.getD_some,hL,hH]at hB;simp only;rw[aA,hB];simp only[obS,aA,aR,hz,aC];refine⟨_,rfl,?_⟩;have hm':m'.toNat=H:=by omega
       rw[hm',if_neg (by omega)]
       simp only[omS,eT,Nat.add_assoc];have hm2:p.o+(off+L*z)+(H-L)*p.z≤p.e:=by
        have:(H-L)*p.z≤(cap-L)*p.z:=Nat.mul_le_mul_right _ (by omega)
        omega
       exact .slc id (off+L*z) (H-L) (H-L) (H-L) p hp (fun _=>rfl) (nlR _) hm2
   ·exact absurd ⟨_,_,_,rfl⟩ hsp
theorem alen_ok{t:TypeId}{a b v:Value}{ts:Array TypeId}{ty:TypeId}{us:Array Value}(r:VR μ a b)(ht:ts[0]?=some t)(hb:us[0]?=some b)(h:alen P t a=some v):
    ∃v',aO P (Builtin.len_ ts ty us)=some v'∧VR μ v v':=by
 unfold alen at h;unfold Builtin.len_;simp only[ht,hb];rw[aA,aD];split at h<;>try cases h
 ·rename_i e hu;split at h<;>try cases h
  rename_i base n c;have: ∃base' cap,b= .slice base' n cap:=by
   cases base with
   |none=>obtain⟨rfl,rfl,rfl⟩:=r.nilslc_inv;exact⟨none,0,rfl⟩
   |some a=>
    cases r with
    |same _ h=>simp[aB]at h
    |slc id off len c cap p h hc hl he=>exact⟨_,_,rfl⟩
    |emp a s cap h=>exact⟨_,_,rfl⟩
  obtain⟨base',cap,rfl⟩:=this;exact⟨goInt n,by simp[hu,aC],.same _ rfl⟩
 ·rename_i hu;split at h<;>try cases h
  rename_i s;obtain rfl:=r.string_inv;exact⟨goInt s.size,by simp[hu,aC],.same _ rfl⟩
 ·rename_i n e hu;exact⟨goInt n,by simp[hu,aC],.same _ rfl⟩
theorem zF{t e:TypeId}(ht:P.underlying t=some (.slice e))(a:Addr)(l c l' c':Nat):aO P (Op.equal t (.slice (some a) l c) (.slice none l' c'))=some false:=by
 unfold Op.equal;rw[show Op.maxDepth=Nat.succ 9999 from rfl,Op.equalIn.eq_2,aA,aD,ht];rfl
theorem zG{t e:TypeId}(ht:P.underlying t=some (.slice e))(a:Addr)(l c l' c':Nat):aO P (Op.equal t (.slice none l' c') (.slice (some a) l c))=some false:=by
 unfold Op.equal;rw[show Op.maxDepth=Nat.succ 9999 from rfl,Op.equalIn.eq_2,aA,aD,ht];rfl
theorem anil_ok{op:BinOp}{t:TypeId}{a b c d v:Value}{x y:Operand}(r:VR μ a b)(s:VR μ c d)(ht: ∃e,P.underlying t=some (.slice e))(h:anil op a c=some v):
    ∃v',aO P (do eqGuard op t x y b d;binOp op t b d)=some v'∧VR μ v v':=by
 obtain⟨e,ht⟩:=ht;unfold anil at h;simp only at h;split at h
 ·rename_i a0 l c l' c';obtain⟨rfl,rfl,rfl⟩:=s.nilslc_inv;have: ∃a1 l1 c1,b= .slice (some a1) l1 c1:=by
   cases r with
   |same _ h=>simp[aB]at h
   |slc id off len c cap p h hc hl he=>exact⟨_,_,_,rfl⟩
   |emp a s cap h=>exact⟨_,_,_,rfl⟩
  obtain⟨a1,l1,c1,rfl⟩:=this;cases op<;>simp only at h<;>first
   |(cases h;refine⟨_,?_,.same _ rfl⟩;simp only[aA,eqGuard,bnT,Bool.false_eq_true,if_false,aC,obS,binOp,zF ht];done)
   |cases h
 ·rename_i l c a0 l' c';obtain⟨rfl,rfl,rfl⟩:=r.nilslc_inv;have: ∃a1 l1 c1,d= .slice (some a1) l1 c1:=by
   cases s with
   |same _ h=>simp[aB]at h
   |slc id off len c cap p h hc hl he=>exact⟨_,_,_,rfl⟩
   |emp a s cap h=>exact⟨_,_,_,rfl⟩
  obtain⟨a1,l1,c1,rfl⟩:=this;cases op<;>simp only at h<;>first
   |(cases h;refine⟨_,?_,.same _ rfl⟩;simp only[aA,eqGuard,bnT,Bool.false_eq_true,if_false,aC,obS,binOp,zG ht];done)
   |cases h
 ·cases h
theorem dC(c:Call): ∀x∈c.args.toList,x∈(Op.call c).operands:=by
 intro x hx;simp only[Op.operands,Call.operands];exact Array.mem_append.2 (.inr (Array.mem_toList_iff.1 hx))
theorem apure_ok{ρ ρ':Operand→Value}{o:Oper}{v:Value}(hρ: ∀x∈o.op.operands,VR μ (ρ x) (ρ' x))(h:fQ P ρ o=some v):
    ∃v',aO P (execOp ρ' o)=some (.value v')∧VR μ v v':=by
 have fin: ∀{s:Sem Value},(∃v',aO P s=some v'∧VR μ v v')→∃v',aO P (do pure (Next.value (←s)))=some (.value v')∧VR μ v v':=by
  rintro s ⟨v',h1,h2⟩;exact⟨v',by rw[aA,h1];rfl,h2⟩
 unfold fQ at h;unfold execOp;cases ho:o.op<;>simp only[ho]at h hρ⊢ <;>try cases h
 case move x=>exact⟨_,rfl,hρ x (by simp[Op.operands])⟩
 case assign x=>exact⟨_,rfl,hρ x (by simp[Op.operands])⟩
 case pick c a b=>
  have hc:=hρ c (by simp[Op.operands])
  split at h<;>try cases h
  ·rename_i hb;rw[hb]at hc;rw[hc.bool_inv];exact⟨_,rfl,hρ a (by simp[Op.operands])⟩
  ·rename_i hb;rw[hb]at hc;rw[hc.bool_inv];exact⟨_,rfl,hρ b (by simp[Op.operands])⟩
 case build t parts=>
  refine fin (aIw ?_ h);simpa using PR_map parts.toList (fun x hx=>hρ x.2 (by simp[Op.operands];exact⟨_,Array.mem_toList_iff.1 hx⟩))
 case nilCheck x=>
  have hx:=hρ x (by simp[Op.operands])
  split at h<;>try cases h
  rename_i a ha;rw[ha]at hx;generalize ρ' x=u at hx⊢;cases hx with
  |same _ h=>simp[aB]at h
  |ptr id off p hp=>exact⟨_,rfl,.ptr id off p hp⟩
 case binOp op t x y yt=>
  have hx:=hρ x (by simp[Op.operands])
  have hy:=hρ y (by simp[Op.operands])
  cases hp:(aH (ρ x)&&aH (ρ y))with
  |true=>
   simp only[hp,cdt]at h;simp only[bjE]at hp;rw[hx.eq1 hp.1,hy.eq1 hp.2];exact fin (fH h)
  |false=>
   simp only[hp,cdf]at h;split at h<;>try cases h
   rename_i e hu;exact fin (anil_ok hx hy ⟨e,hu⟩ h)
 case unOp op t x=>
  have hx:=hρ x (by simp[Op.operands])
  cases hp:aB (ρ x)with
  |true=>simp only[hp,cdt]at h;rw[hx.eq0 hp];exact fin (fH h)
  |false=>simp[hp]at h
 case convert s d x=>
  have hx:=hρ x (by simp[Op.operands])
  cases hp:aB (ρ x)with
  |true=>simp only[hp,cdt]at h;rw[hx.eq0 hp];exact fin (fH h)
  |false=>simp[hp]at h
 case makeFunc fn first captured=>
  refine⟨.func fn (first.map ρ') (captured.map ρ'),rfl,?_⟩
  have h1:=wR (μ:=μ) (ρ:=ρ) (ρ':=ρ') first.toList (fun x hx=>hρ x (by simp[Op.operands];exact .inl (Array.mem_toList_iff.1 hx)))
  have h2:=wR (μ:=μ) (ρ:=ρ) (ρ':=ρ') captured.toList (fun x hx=>hρ x (by simp[Op.operands];exact .inr (Array.mem_toList_iff.1 hx)))
  exact .fn fn _ _ _ _ (by simp) (by simpa using h1.2) (by simp) (by simpa using h2.2)
 case fieldAddr s x f=>exact fin (wP (hρ x (by simp[Op.operands])) h)
 case field t x f=>exact fin (aIu (hρ x (by simp[Op.operands])) h)
 case indexAddr t x i=>exact fin (wO (hρ x (by simp[Op.operands])) (hρ i (by simp[Op.operands])) h)
 case index t x i=>exact fin (aIs (hρ x (by simp[Op.operands])) (hρ i (by simp[Op.operands])) h)
 case extract t i=>
  have hx:=hρ t (by simp[Op.operands])
  split at h<;>try cases h
  rename_i vs hvs;rw[hvs]at hx;obtain⟨us,he,hl⟩:=hx.tuple_inv;rw[he];obtain⟨u,hu,hr⟩:=hl.get (i:=i) (x:=v) (by simpa using h)
  refine fin ⟨u,?_,hr⟩;have:us[i]?=some u:=by simpa using hu
  simp[Instr.extract,this,aC]
 case call c=>
  unfold jV at h;have hargs:=wR (μ:=μ) (ρ:=ρ) (ρ':=ρ') c.args.toList (fun x hx=>hρ x (dC c x hx))
  split at h<;>try cases h
  ·rename_i hc;split at h<;>try cases h
   rename_i t x ht hx;have hx':c.args.toList[0]?=some x:=by simpa using hx
   obtain⟨v',h1,h2⟩:=alen_ok (P:=P) (ts:=c.argTypes) (ty:=o.type) (us:=c.args.map ρ') (hρ x (dC c x (List.mem_of_getElem? hx'))) ht (by simp[hx]) h
   refine⟨v',?_,h2⟩;simp only[resolve,hc,aA,aC,obS,invoke,builtin,h1]
  ·rename_i hc;cases hp:(c.args.map ρ).toList.all aB with
   |false=>rw[hp]at h;cases h
   |true=>
    simp only[hp,cdt]at h;have e:c.args.map ρ'=c.args.map ρ:=by
     apply Array.toList_inj.1;simpa using hargs.eq0 (by simpa using hp)
    obtain⟨v',h1,h2⟩:=fH (μ:=μ) h;refine⟨v',?_,h2⟩;simp only[resolve,hc,aA,aC,obS,invoke,builtin,e,h1]
  ·rename_i hc;cases hp:(c.args.map ρ).toList.all aB with
   |false=>rw[hp]at h;cases h
   |true=>
    simp only[hp,cdt]at h;have e:c.args.map ρ'=c.args.map ρ:=by
     apply Array.toList_inj.1;simpa using hargs.eq0 (by simpa using hp)
    obtain⟨v',h1,h2⟩:=fH (μ:=μ) h;refine⟨v',?_,h2⟩;simp only[resolve,hc,aA,aC,obS,invoke,builtin,e,h1]
end
end Go.AI
