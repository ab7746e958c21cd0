import Derived.Test.YtdjaoblfbbcpdaaGreatDoorKu
import Derived.Test.YtdjaoblfbbcpdaaGreatDoorKr
set_option linter.unusedVariables false
set_option linter.unusedSimpArgs false
set_option linter.constructorNameAsVariable false
set_option linter.defProp false
namespace Go.TV
open Go.AI Go.PI Go.Proofs
set_option maxRecDepth 20000
def QR(cs:List Int):List Value:=cs.map λx=> .int .u8 x
def aN9(cs:List Int):PV:=eB 1 (cs.map λx=> .v (.int .u8 x))
def p00:PSt:=⟨.nil,0,[],[]⟩
def bI1:Nu:=λ_=>none
def ga0:Ga:=λ_=>none
def aJz(cs ds:List Value):St:=St.put (St.put ⟨.nil,.nil,8⟩ 6 (.cells cs (a21 1))) 7 (.cells ds (a21 1))
def aOz(p q:Option AI.Place):Mp:=λid=>if id=6 then p else if id=7 then q else if id<6 then some ⟨id,0,0,1⟩else none
def wA(cs ds:List Value)(id:Nat):(aJz cs ds).get id=if id=7 then some (.cells ds (a21 1))else if id=6 then some (.cells cs (a21 1))else none:=by
 unfold aJz;rw[St.get_put,St.get_put];split
 .rfl
 .split
  .rfl
  .exact Tr.get_nil id
def gl6:Tryz.prog.globals.size=6:=by kernel_rfl
def a4r{β:World}{p0 p1:Option AI.Place}{cs ds:List Value}(h0: ∀q,p0=some q->aNa β q cs 1)(h1: ∀q,p1=some q->aNa β q ds 1)(hz:6<=β.heap.size):Sim (W0.of β) Tryz.prog (aOz p0 p1) (aJz cs ds) β:=by
 have key: ∀id q es m,aOz p0 p1 id=some q->(aJz cs ds).get id=some (.cells es m)->aNa β q es m.z/\m.wr=false/\m.tip=false/\m.grp=none:=by
  intro id q es m hm bc;rw[wA]at bc;unfold aOz at hm;split at bc
  .rename_i e;cases bc;rw[bH (by omega),bI e]at hm
   exact⟨h1 q hm,rfl,rfl,rfl⟩
  .split at bc
   .rename_i e;cases bc;rw[bI e]at hm;exact⟨h0 q hm,rfl,rfl,rfl⟩
   .cases bc
 have vf: ∀id es,(aJz cs ds).get id=some (.map es)->False:=by
  intro id es bc;rw[wA]at bc;split at bc
  .cases bc
  .split at bc<;>cases bc
 exact{
  kept:=KeptO.refl λid q hm=>by
   unfold aOz at hm;split at hm
   .obtain⟨C,t,fr,r1,_⟩:=(h0 q hm).row;exact(Array.getElem?_eq_some_iff.1 r1).1
   .split at hm
    .obtain⟨C,t,fr,r1,_⟩:=(h1 q hm).row;exact(Array.getElem?_eq_some_iff.1 r1).1
    .split at hm
     .cases hm;show id<β.heap.size;omega
     .cases hm
  dom:=λid hid=>by
   have:8<=id:=hid;unfold aOz;rw[bH (by omega),bH (by omega),bH (by omega)]
  glob:=λg bp=>by
   rw[gl6]at bp;exact⟨⟨g,0,0,1⟩,by unfold aOz;rw[bH (by omega),bH (by omega),bI bp],rfl,rfl⟩
  row:=λid q es m hm bc _=>by
   obtain⟨⟨⟨C,t,fr,r1,r2⟩,r3,r4⟩,k1,k2,k3⟩:=key id q es m hm bc;exact⟨⟨C,t,fr,r1,λi v hv=>⟨v,r2 i v hv,.same v (r3 v (List.mem_of_getElem? hv))⟩,(λh=>by rw[k2]at h;cases h)⟩,(λh=>by rw[k1]at h;cases h),(λh=>by rw[k2]at h;cases h),r4,λh=>by rw[k1]at h;cases h⟩
  map:=λid q es hm bc=>(vf id es bc).elim
  off:=λa b q q' es fs m n _ hm _ bc _ _ _ hw=>by
   obtain⟨_,k1,_⟩:=key a q es m hm bc;rw[k1]at hw;cases hw
  tip:=λa b q q' es fs m n _ hm _ bc _ _ _ hw=>by
   obtain⟨_,_,k2,_⟩:=key a q es m hm bc;rw[k2]at hw;cases hw
  maps:=λa b q q' es fs _ _ _ bc=>(vf a es bc).elim
  vers:=λid es m g v bc jd=>by
   rw[wA]at bc;split at bc
   .cases bc;cases jd
   .split at bc
    .cases bc;cases jd
    .cases bc
  lim:=λa b q q' es fs m n _ hm _ bc _ _ _ hw=>by
   obtain⟨_,_,k2,_⟩:=key a q es m hm bc;rw[k2]at hw;cases hw}
def bDI{cs ds:List Value}:Mem bI1 ga0 p00 (aJz cs ds) where
 le:=λid x h=>by cases h
 lt:=λid a h=>by cases h
 inj:=λi j a h=>by cases h
 live:=λid a h=>by cases h
 get:=λid o h=>by
  unfold PSt.get at h;rw[show Nat.blt id p00.next=false from rfl]at h
  cases h
 free:=λa ha=>by
  have h4:8<=a:=ha;rw[wA,bH (by omega),bH (by omega)]
 ver:=λg=>by
  show(Tr.get Tr.nil g).getD 0=0;rw[Tr.get_nil];rfl
def Xw: ∀cs:List Int,eY (cs.map λx=>PV.v (.int .u8 x))=cs.map λx=>PV.v (.int .u8 x)
 |[]=>rfl
 |x::l=>by
  have ih:=Xw l;simp only[eY]at ih⊢;rw[aO,aN,ih];rfl
def bIh(β:World)(v:Value)(cs:List Int):Prop:=(v= .slice none 0 0/\cs.length=0)∨∃a cap,v= .slice (some a) cs.length cap/\cs.length<=cap/\(0<cs.length->∃b off C t fr,a=⟨b,off,none⟩/\β.heap[b]?=some (Obj.cells C t fr)/\∀(i:Nat) (x:Value),(QR cs)[i]?=some x->C[off+i]?=some x)
def aFM{β:World}{v:Value}{cs:List Int}{H:St}{id:Nat}(hσ:H.get id=some (.cells (QR cs) (a21 1)))(hv:bIh β v cs):
    ∃(p:Option AI.Place) (u:Value),(∀q,p=some q->aNa β q (QR cs) 1)/\R bI1 H (aN9 cs) u/\∀Y:Mp,Y id=p->AI.VR Y u v:=by
 rcases hv with⟨rfl,h0⟩|⟨a,cap,rfl,hc,bh⟩
 .have:cs=[]:=List.length_eq_zero_iff.1 h0;subst this;exact⟨none,.slice none 0 0,λq hq=>(by cases hq),.emp0,λ_ _=> .same _ rfl⟩
 .by_cases hn:0<cs.length
  .obtain⟨b,off,C,t,fr,rfl,h1,h2⟩:=bh hn;refine⟨some ⟨b,off,off+cap*1,1⟩,.slice (some ⟨id,0,none⟩) cs.length (cs.length+1),?_,?_,λY hμ=>?_⟩
   .intro q hq;cases hq;refine⟨⟨C,t,fr,h1,h2⟩,?_,rfl⟩;intro x hx;obtain⟨k,_,rfl⟩:=List.mem_map.1 hx;rfl
   .have bm:aN9 cs= .sl 1 (cs.map λx=> .v (.int .u8 x)):=by
     cases cs with
     |nil=>simp at hn
     |cons x l=>rfl
    rw[bm];have hl:cs.length=(cs.map λx=>PV.v (.int .u8 x)).length:=by simp
    have ku:=Xw cs;rw[hl];refine R.sl 1 _ id 0 _ (QR cs) (a21 1) (aS _) (λe he=>?_) ⟨?_,λk hk=>by cases hk⟩ rfl ?_ (λi x u hx hu=>?_)
    .obtain⟨k,_,rfl⟩:=List.mem_map.1 he;exact⟨rfl,rfl⟩
    .exact PI.row_of_get hσ rfl
    .simp[QR]
    .rw[ku,List.getElem?_map,aF]at hx;obtain⟨k,hk,rfl⟩:=hx;rw[Nat.zero_add,QR,List.getElem?_map,hk]at hu;cases hu;exact .v _ rfl
   .exact .slc id 0 cs.length (cs.length+1) cap ⟨b,off,off+cap*1,1⟩ hμ (λe=>by omega) hc (by simp)
  .have:cs=[]:=List.length_eq_zero_iff.1 (by omega)
   subst this;exact⟨none,.slice (some ⟨0,0,some 0⟩) 0 0,λq hq=>(by cases hq),.emp2 0 0 0 0,λ_ _=> .emp a 0 cap (λh=>by cases h)⟩
end Go.TV
