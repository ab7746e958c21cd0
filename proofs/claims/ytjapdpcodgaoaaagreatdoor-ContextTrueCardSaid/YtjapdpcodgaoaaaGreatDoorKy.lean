import Derived.Test.YtjapdpcodgaoaaaGreatDoorKv
open Option renaming some->aa
set_option linter.all false
namespace Go.TV
open Go.AI Go.PI Go.Proofs
set_option maxRecDepth 20000
def ZF(cs:au Int):au Value:=cs.map λx=> .int .u8 x
def aSx(cs:au Int):PV:=eO 1 (cs.map λx=> .v (.int .u8 x))
def p00:PSt:=⟨.nil,0,[],[]⟩
def bJT:Nu:=λ_=>none
def bOq:Ga:=λ_=>none
def aNQ(cs ds:au Value):St:=St.put (St.put ⟨.nil,.nil,5⟩ 3 (.cells cs (aSG 1))) 4 (.cells ds (aSG 1))
def a1J(p q:f9 AI.Place):Mp:=λid=>if id=3 then p else if id=4 then q else if id<3 then aa ⟨id,0,0,1⟩else none
def yX(cs ds:au Value)(id:Nat):(aNQ cs ds).get id=if id=4 then aa (.cells ds (aSG 1))else if id=3 then aa (.cells cs (aSG 1))else none:=by
 unfold aNQ;rw[St.get_put,St.get_put];split
 .rfl
 .split
  .rfl
  .exact Tr.get_nil id
def gl5:Tryz.prog.globals.size=3:=by kernel_rfl
def bH7{β:World}{p0 p1:f9 AI.Place}{cs ds:au Value}(h0: ∀q,p0=aa q->aDU β q cs 1)(h1: ∀q,p1=aa q->aDU β q ds 1)(hz:3<=β.heap.size):Sim (W0.of β) Tryz.prog (a1J p0 p1) (aNQ cs ds) β:=by
 have key: ∀id q es m,a1J p0 p1 id=aa q->(aNQ cs ds).get id=aa (.cells es m)->aDU β q es m.z/\m.wr=false/\m.tip=false/\m.grp=none:=by
  intro id q es m hm bc;rw[yX]at bc;unfold a1J at hm;split at bc
  .rename_i e;cases bc;rw[bI (by omega),bJ e]at hm
   exact⟨h1 q hm,rfl,rfl,rfl⟩
  .split at bc
   .rename_i e;cases bc;rw[bJ e]at hm;exact⟨h0 q hm,rfl,rfl,rfl⟩
   .cases bc
 have rj: ∀id es,(aNQ cs ds).get id=aa (.map es)->False:=by
  intro id es bc;rw[yX]at bc;split at bc
  .cases bc
  .split at bc<;>cases bc
 exact{
  kept:=KeptO.refl λid q hm=>by
   unfold a1J at hm;split at hm
   .obtain⟨C,t,fr,r1,_⟩:=(h0 q hm).row;exact(Array.getElem?_eq_some_iff.1 r1).1
   .split at hm
    .obtain⟨C,t,fr,r1,_⟩:=(h1 q hm).row;exact(Array.getElem?_eq_some_iff.1 r1).1
    .split at hm
     .cases hm;show id<β.heap.size;omega
     .cases hm
  dom:=λid hid=>by
   have:5<=id:=hid;unfold a1J;rw[bI (by omega),bI (by omega),bI (by omega)]
  glob:=λg bj=>by
   rw[gl5]at bj;exact⟨⟨g,0,0,1⟩,by unfold a1J;rw[bI (by omega),bI (by omega),bJ bj],rfl,rfl⟩
  row:=λid q es m hm bc _=>by
   obtain⟨⟨⟨C,t,fr,r1,r2⟩,r3,r4⟩,k1,k2,k3⟩:=key id q es m hm bc;exact⟨⟨C,t,fr,r1,λi v hv=>⟨v,r2 i v hv,.same v (r3 v (List.mem_of_getElem? hv))⟩,(λh=>by rw[k2]at h;cases h)⟩,(λh=>by rw[k1]at h;cases h),(λh=>by rw[k2]at h;cases h),r4,λh=>by rw[k1]at h;cases h⟩
  map:=λid q es hm bc=>(rj id es bc).elim
  off:=λa b q q' es fs m n _ hm _ bc _ _ _ hw=>by
   obtain⟨_,k1,_⟩:=key a q es m hm bc;rw[k1]at hw;cases hw
  tip:=λa b q q' es fs m n _ hm _ bc _ _ _ hw=>by
   obtain⟨_,_,k2,_⟩:=key a q es m hm bc;rw[k2]at hw;cases hw
  maps:=λa b q q' es fs _ _ _ bc=>(rj a es bc).elim
  vers:=λid es m g v bc gr=>by
   rw[yX]at bc;split at bc
   .cases bc;cases gr
   .split at bc
    .cases bc;cases gr
    .cases bc
  lim:=λa b q q' es fs m n _ hm _ bc _ _ _ hw=>by
   obtain⟨_,_,k2,_⟩:=key a q es m hm bc;rw[k2]at hw;cases hw}
def bJW{cs ds:au Value}:Mem bJT bOq p00 (aNQ cs ds) where
 le:=λid x h=>by cases h
 lt:=λid a h=>by cases h
 inj:=λi j a h=>by cases h
 live:=λid a h=>by cases h
 get:=λid o h=>by
  unfold PSt.get at h;rw[show Nat.blt id p00.next=false from rfl]at h
  cases h
 free:=λa ha=>by
  have h4:5<=a:=ha;rw[yX,bI (by omega),bI (by omega)]
 ver:=λg=>by
  show(Tr.get Tr.nil g).getD 0=0;rw[Tr.get_nil];rfl
def aBb: ∀cs:au Int,fM (cs.map λx=>PV.v (.int .u8 x))=cs.map λx=>PV.v (.int .u8 x)
 |[]=>rfl
 |x::l=>by
  have ih:=aBb l;simp only[fM]at ih⊢;rw[aO,aN,ih];rfl
def bNt(β:World)(v:Value)(cs:au Int):Prop:=(v= .slice none 0 0/\cs.length=0)∨∃a cap,v= .slice (aa a) cs.length cap/\cs.length<=cap/\(0<cs.length->∃b off C t fr,a=⟨b,off,none⟩/\β.heap[b]?=aa (Obj.cells C t fr)/\∀(i:Nat) (x:Value),(ZF cs)[i]?=aa x->C[off+i]?=aa x)
def aIV{β:World}{v:Value}{cs:au Int}{H:St}{id:Nat}(hσ:H.get id=aa (.cells (ZF cs) (aSG 1)))(hv:bNt β v cs):
    ∃(p:f9 AI.Place) (u:Value),(∀q,p=aa q->aDU β q (ZF cs) 1)/\R bJT H (aSx cs) u/\∀Y:Mp,Y id=p->AI.VR Y u v:=by
 rcases hv with⟨rfl,h0⟩|⟨a,cap,rfl,hc,bh⟩
 .have:cs=[]:=List.length_eq_zero_iff.1 h0;subst this;exact⟨none,.slice none 0 0,λq hq=>(by cases hq),.emp0,λ_ _=> .same _ rfl⟩
 .by_cases hn:0<cs.length
  .obtain⟨b,off,C,t,fr,rfl,h1,h2⟩:=bh hn;refine⟨aa ⟨b,off,off+cap*1,1⟩,.slice (aa ⟨id,0,none⟩) cs.length (cs.length+1),?_,?_,λY hμ=>?_⟩
   .intro q hq;cases hq;refine⟨⟨C,t,fr,h1,h2⟩,?_,rfl⟩;intro x hx;obtain⟨k,_,rfl⟩:=List.mem_map.1 hx;rfl
   .have bi:aSx cs= .sl 1 (cs.map λx=> .v (.int .u8 x)):=by
     cases cs with
     |nil=>simp at hn
     |cons x l=>rfl
    rw[bi];have hl:cs.length=(cs.map λx=>PV.v (.int .u8 x)).length:=by simp
    have gl:=aBb cs;rw[hl];refine R.sl 1 _ id 0 _ (ZF cs) (aSG 1) (aS _) (λe he=>?_) ⟨?_,λk hk=>by cases hk⟩ rfl ?_ (λi x u hx hu=>?_)
    .obtain⟨k,_,rfl⟩:=List.mem_map.1 he;exact⟨rfl,rfl⟩
    .exact PI.row_of_get hσ rfl
    .simp[ZF]
    .rw[gl,List.getElem?_map,aF]at hx;obtain⟨k,hk,rfl⟩:=hx;rw[Nat.zero_add,ZF,List.getElem?_map,hk]at hu;cases hu;exact .v _ rfl
   .exact .slc id 0 cs.length (cs.length+1) cap ⟨b,off,off+cap*1,1⟩ hμ (λe=>by omega) hc (by simp)
  .have:cs=[]:=List.length_eq_zero_iff.1 (by omega)
   subst this;exact⟨none,.slice (aa ⟨0,0,aa 0⟩) 0 0,λq hq=>(by cases hq),.emp2 0 0 0 0,λ_ _=> .emp a 0 cap (λh=>by cases h)⟩
end Go.TV
