import Derived.Test.YtgddcoodncbkoaaGreatDoorKu
set_option linter.unusedVariables false
set_option linter.unusedSimpArgs false
set_option linter.constructorNameAsVariable false
set_option linter.defProp false
namespace Go.AI
section
variable{P:Program}
def Qj(aw:FuncId)(c0:FuncId->Array Value->St->Option (Value×St))(f:FuncId)(args:Array Value)(H:St):Option (Value×St):=
 bif Nat.beq f aw then(match args.toList with
 |[]=>some (.bool true,H)
 |_=>none)else c0 f args H
def aG2{w0:W0}{aw:FuncId}{c0:FuncId->Array Value->St->Option (Value×St)}(h0:CallOK w0 P c0)
    (ha : ∀ w, Kept w0.toWorld w → (∃ fn c, P.funcs[aw]? = some fn ∧ fn.body = some c ∧ (fn.name == "runtime.NumGoroutine") = false) ∧ Calls P aw #[] w fun e w' => e = .returned (.bool true) ∧ Kept w w') : CallOK w0 P (Qj aw c0) := by
 intro f args args' H H' w Y r h ρ hargs;unfold Qj at h;cases hf:Nat.beq f aw with
 |false=>rw[hf]at h;exact h0 f args args' H H' w Y r h ρ hargs
 |true=>
  rw[hf,aI]at h;rw[aE hf];split at h
  .rename_i he;simp only[aA,aB]at h;obtain⟨rfl,rfl⟩:=h;rw[he]at hargs;have q3:args'= #[]:=by rw[<-Array.toArray_toList (xs:=args'),hargs.nil_inv]
   subst q3;obtain⟨g1,g2⟩:=ha w ρ.kept.toKept;exact⟨g1,g2.mono λe w' ⟨h5,h6⟩=>⟨Y,_,h5,.same _ rfl,ρ.keep h6,.refl _ _,aS _⟩⟩
  .cases h
end
end Go.AI
namespace Go.PI
open Go.AI
def BR(aw:FuncId)(pc:hY):hY:=λf args p=>
 bif Nat.beq f aw then(match args with
 |[]=>some (.v (.bool true),false,p)
 |_=>none)else pc f args p
def aCl{aw:FuncId}{pc:hY}{ac:FuncId->Array Value->St->Option (Value×St)}(h0:lL pc ac):lL (BR aw pc) (Qj aw ac):=by
 intro g args p v own p' h J I H us M r ho;unfold BR at h;unfold Qj;cases hf:Nat.beq g aw with
 |false=>rw[hf]at h;exact h0 g args p v own p' h J I H us M r ho
 |true=>
  rw[hf,aI]at h;simp only[aI];split at h
  .simp only[aA,aB]at h;obtain⟨rfl,rfl,rfl⟩:=h;have hu:us.toList=[]:=List.length_eq_zero_iff.1 (by have:=r.1;simpa using this.symm)
   rw[hu];exact⟨_,H,J,I,rfl,R.v _ rfl,λh=>(by cases h),M,Adv.refl J I p H,λj _ h=>h⟩
  .cases h
end Go.PI
namespace Go.TV
open Go.AI Go.PI
section
variable{U:iR}{T:TP U.D}
def bO3(aw:FuncId):QJ:=⟨aw,[],[],[],[.bool],false⟩
def T5(T:TP U.D)(aw:FuncId)(tc:pF U.D):pF U.D:=λi d=>match T.sig i with
 |some s=>bif Nat.beq s.f aw then(match d with
  |[]=>some [⟨.bool,true⟩]
  |_=>none)else tc i d
 |none=>none
def aCk{aw:FuncId}{tc:pF U.D}{pc:hY}(h0:CallOK U T tc pc)(hs: ∀i s,T.sig i=some s->s.f=aw->s=bO3 aw):CallOK U T (T5 T aw tc) (BR aw pc):=by
 intro i s d out h1 h p cc args S0 M0 hin;unfold T5 at h;rw[h1]at h;simp only at h;unfold BR;cases hf:Nat.beq s.f aw with
 |false=>rw[hf]at h;exact h0 i s d out h1 h p cc args S0 M0 hin
 |true=>
  rw[hf,aI]at h;have e:=hs i s h1 (aE hf);subst e;split at h
  .simp only[aA]at h;subst h;have hl:args=[]:=List.length_eq_zero_iff.1 hin.len;subst hl;refine⟨.v (.bool true),false,p,rfl,?_⟩;exact⟨⟨fM _,cB _ _⟩,⟨[],rfl,λj x hj=>(by cases hj)⟩,rfl,λ_ _ _=>rfl,λ_ _ _=>rfl,λid h=> .inl h,λid h=>h,λid h=> .inl h⟩
  .cases h
end
end Go.TV
namespace Go.TV
open Go.AI Go.PI Go.Proofs
set_option maxRecDepth 20000
def aCO(cs:List Int):List Value:=cs.map λx=> .int .u8 x
def a7H(cs:List Int):PV:=eD 1 (cs.map λx=> .v (.int .u8 x))
def p00:PSt:=⟨.nil,0,[],[]⟩
def bP7:Nu:=λ_=>none
def ga0:Ga:=λ_=>none
def aNB(cs ds:List Value):St:=St.put (St.put ⟨.nil,.nil,8⟩ 6 (.cells cs (a6c 1))) 7 (.cells ds (a6c 1))
def aR1(p q:Option AI.Place):Mp:=λid=>if id=6 then p else if id=7 then q else if id<6 then some ⟨id,0,0,1⟩else none
def zI(cs ds:List Value)(id:Nat):(aNB cs ds).get id=if id=7 then some (.cells ds (a6c 1))else if id=6 then some (.cells cs (a6c 1))else none:=by
 unfold aNB;rw[St.get_put,St.get_put];split
 .rfl
 .split
  .rfl
  .exact Tr.get_nil id
def gl6:Tryz.prog.globals.size=6:=by kernel_rfl
def a8z{β:World}{p0 p1:Option AI.Place}{cs ds:List Value}(h0: ∀q,p0=some q->aJl β q cs 1)(h1: ∀q,p1=some q->aJl β q ds 1)(hz:6<=β.heap.size):Sim (W0.of β) Tryz.prog (aR1 p0 p1) (aNB cs ds) β:=by
 have key: ∀id q es m,aR1 p0 p1 id=some q->(aNB cs ds).get id=some (.cells es m)->aJl β q es m.z/\m.wr=false/\m.tip=false/\m.grp=none:=by
  intro id q es m hm bc;rw[zI]at bc;unfold aR1 at hm;split at bc
  .rename_i e;cases bc;rw[bH (by omega),bI e]at hm
   exact⟨h1 q hm,rfl,rfl,rfl⟩
  .split at bc
   .rename_i e;cases bc;rw[bI e]at hm;exact⟨h0 q hm,rfl,rfl,rfl⟩
   .cases bc
 have pz: ∀id es,(aNB cs ds).get id=some (.map es)->False:=by
  intro id es bc;rw[zI]at bc;split at bc
  .cases bc
  .split at bc<;>cases bc
 exact{
  kept:=KeptO.refl λid q hm=>by
   unfold aR1 at hm;split at hm
   .obtain⟨C,t,fr,r1,_⟩:=(h0 q hm).row;exact(Array.getElem?_eq_some_iff.1 r1).1
   .split at hm
    .obtain⟨C,t,fr,r1,_⟩:=(h1 q hm).row;exact(Array.getElem?_eq_some_iff.1 r1).1
    .split at hm
     .cases hm;show id<β.heap.size;omega
     .cases hm
  dom:=λid hid=>by
   have:8<=id:=hid;unfold aR1;rw[bH (by omega),bH (by omega),bH (by omega)]
  glob:=λg bn=>by
   rw[gl6]at bn;exact⟨⟨g,0,0,1⟩,by unfold aR1;rw[bH (by omega),bH (by omega),bI bn],rfl,rfl⟩
  row:=λid q es m hm bc _=>by
   obtain⟨⟨⟨C,t,fr,r1,r2⟩,r3,r4⟩,k1,k2,k3⟩:=key id q es m hm bc;exact⟨⟨C,t,fr,r1,λi v hv=>⟨v,r2 i v hv,.same v (r3 v (List.mem_of_getElem? hv))⟩,(λh=>by rw[k2]at h;cases h)⟩,(λh=>by rw[k1]at h;cases h),(λh=>by rw[k2]at h;cases h),r4,λh=>by rw[k1]at h;cases h⟩
  map:=λid q es hm bc=>(pz id es bc).elim
  off:=λa b q q' es fs m n _ hm _ bc _ _ _ hw=>by
   obtain⟨_,k1,_⟩:=key a q es m hm bc;rw[k1]at hw;cases hw
  tip:=λa b q q' es fs m n _ hm _ bc _ _ _ hw=>by
   obtain⟨_,_,k2,_⟩:=key a q es m hm bc;rw[k2]at hw;cases hw
  maps:=λa b q q' es fs _ _ _ bc=>(pz a es bc).elim
  vers:=λid es m g v bc gt=>by
   rw[zI]at bc;split at bc
   .cases bc;cases gt
   .split at bc
    .cases bc;cases gt
    .cases bc
  lim:=λa b q q' es fs m n _ hm _ bc _ _ _ hw=>by
   obtain⟨_,_,k2,_⟩:=key a q es m hm bc;rw[k2]at hw;cases hw}
def bLE{cs ds:List Value}:Mem bP7 ga0 p00 (aNB cs ds) where
 le:=λid x h=>by cases h
 lt:=λid a h=>by cases h
 inj:=λi j a h=>by cases h
 live:=λid a h=>by cases h
 get:=λid o h=>by
  unfold PSt.get at h;rw[show Nat.blt id p00.next=false from rfl]at h
  cases h
 free:=λa ha=>by
  have h4:8<=a:=ha;rw[zI,bH (by omega),bH (by omega)]
 ver:=λg=>by
  show(Tr.get Tr.nil g).getD 0=0;rw[Tr.get_nil];rfl
def XJ: ∀cs:List Int,fG (cs.map λx=>PV.v (.int .u8 x))=cs.map λx=>PV.v (.int .u8 x)
 |[]=>rfl
 |x::l=>by
  have ih:=XJ l;simp only[fG]at ih⊢;rw[aO,aN,ih];rfl
def bQS(β:World)(v:Value)(cs:List Int):Prop:=(v= .slice none 0 0/\cs.length=0)∨∃a cap,v= .slice (some a) cs.length cap/\cs.length<=cap/\(0<cs.length->∃b off C t fr,a=⟨b,off,none⟩/\β.heap[b]?=some (Obj.cells C t fr)/\∀(i:Nat) (x:Value),(aCO cs)[i]?=some x->C[off+i]?=some x)
def a36{β:World}{v:Value}{cs:List Int}{H:St}{id:Nat}(hσ:H.get id=some (.cells (aCO cs) (a6c 1)))(hv:bQS β v cs):
    ∃(p:Option AI.Place) (u:Value),(∀q,p=some q->aJl β q (aCO cs) 1)/\R bP7 H (a7H cs) u/\∀Y:Mp,Y id=p->AI.VR Y u v:=by
 rcases hv with⟨rfl,h0⟩|⟨a,cap,rfl,hc,bh⟩
 .have:cs=[]:=List.length_eq_zero_iff.1 h0;subst this;exact⟨none,.slice none 0 0,λq hq=>(by cases hq),.emp0,λ_ _=> .same _ rfl⟩
 .by_cases hn:0<cs.length
  .obtain⟨b,off,C,t,fr,rfl,h1,h2⟩:=bh hn;refine⟨some ⟨b,off,off+cap*1,1⟩,.slice (some ⟨id,0,none⟩) cs.length (cs.length+1),?_,?_,λY hμ=>?_⟩
   .intro q hq;cases hq;refine⟨⟨C,t,fr,h1,h2⟩,?_,rfl⟩;intro x hx;obtain⟨k,_,rfl⟩:=List.mem_map.1 hx;rfl
   .have bp:a7H cs= .sl 1 (cs.map λx=> .v (.int .u8 x)):=by
     cases cs with
     |nil=>simp at hn
     |cons x l=>rfl
    rw[bp];have hl:cs.length=(cs.map λx=>PV.v (.int .u8 x)).length:=by simp
    have kd:=XJ cs;rw[hl];refine R.sl 1 _ id 0 _ (aCO cs) (a6c 1) (aS _) (λe he=>?_) ⟨?_,λk hk=>by cases hk⟩ rfl ?_ (λi x u hx hu=>?_)
    .obtain⟨k,_,rfl⟩:=List.mem_map.1 he;exact⟨rfl,rfl⟩
    .exact PI.row_of_get hσ rfl
    .simp[aCO]
    .rw[kd,List.getElem?_map,aF]at hx;obtain⟨k,hk,rfl⟩:=hx;rw[Nat.zero_add,aCO,List.getElem?_map,hk]at hu;cases hu;exact .v _ rfl
   .exact .slc id 0 cs.length (cs.length+1) cap ⟨b,off,off+cap*1,1⟩ hμ (λe=>by omega) hc (by simp)
  .have:cs=[]:=List.length_eq_zero_iff.1 (by omega)
   subst this;exact⟨none,.slice (some ⟨0,0,some 0⟩) 0 0,λq hq=>(by cases hq),.emp2 0 0 0 0,λ_ _=> .emp a 0 cap (λh=>by cases h)⟩
end Go.TV
