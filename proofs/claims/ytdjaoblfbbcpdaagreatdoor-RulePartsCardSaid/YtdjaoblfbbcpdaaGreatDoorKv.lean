import Derived.Test.YtdjaoblfbbcpdaaGreatDoorKs
import Derived.Test.YtdjaoblfbbcpdaaGreatDoorKt
import Derived.Test.YtdjaoblfbbcpdaaGreatDoorKq
set_option linter.unusedVariables false
set_option linter.unusedSimpArgs false
set_option linter.constructorNameAsVariable false
set_option linter.defProp false
namespace Go.TV
open Go.AI Go.PI Go.Proofs
set_option maxRecDepth 20000
def bBM(w0:W0)(O:Nat->Option Obj):W0:={w0 with O:=O}
def aJ7{P:Program}{w0:W0}{Y:Mp}{H:St}{w:World}(S:Sim w0 P Y H w){O:Nat->Option Obj}(h: ∀k o,O k=some o->w.heap[k]?=some o/\∀id p,Y id=some p->p.b≠k):Sim (bBM w0 O) P Y H w:=
 ⟨⟨S.kept.toKept,h,S.kept.bnd⟩,S.dom,S.glob,λid p cs m h1 h2 h3=>by
  obtain⟨a,b,c,d,e⟩:=S.row id p cs m h1 h2 h3;exact⟨a,b,c,d,e⟩,λid p es h1 h2=>by
  obtain⟨a,b⟩:=S.map id p es h1 h2;exact⟨a,b⟩,S.off,S.tip,S.maps,S.vers,S.lim⟩
def pK:PSt:=⟨.nil,0,[],[]⟩
def bDH:Mem (λ_=>none) (λ_=>none) pK (a2W Tryz.prog) where
 le:=λid x h=>by cases h
 lt:=λid a h=>by cases h
 inj:=λi j a h=>by cases h
 live:=λid a h=>by cases h
 get:=λid o h=>by
  unfold PSt.get at h;rw[show Nat.blt id pK.next=false from rfl]at h
  cases h
 free:=λa ha=>CD a
 ver:=λg=>by
  show(Tr.get Tr.nil g).getD 0=0;rw[Tr.get_nil];rfl
def aBo{E:List G.E}(hE:bR 7000 159 2 [⟨.int .u32,(0:Int)⟩]=some [⟨.sl (.rc 15),E⟩]):
    ∃pv own p',pC Tryz.prog orcI (uM Go.Rf.cdX insL) 7000 159 5 [(.v (.int .u32 0),false)] pK=some (pv,own,p')/\VR U0 (.sl (.rc 15)) E pv:=by
 have hT:=Qo (U:=U0) (T:=tpI) (P:=Tryz.prog) aCp (aRX orcI (zF insL)) (G:=Dy Go.Rf.cdX insL) (GP:=uM Go.Rf.cdX insL) (λi s code rs h1 h2=>HQ aD9 i s code rs h1 h2) aFO 7000 159
 have hsig:tpI.sig 2=some ii2.sig:=(by kernel_rfl:zF insL 2=some ii2.sig)
 obtain⟨pv,own,p',h1,h2⟩:=hT 2 ii2.sig _ _ hsig hE pK (λ_=>none) [(.v (.int .u32 0),false)] [(0,(.val ⟨.int .u32,(0:Int)⟩,[]))] ⟨[],[]⟩ {
  start:=rfl
  len:=rfl
  args:=λi y hy=>by
   match i,hy with
   |0,hy=>cases hy;exact⟨hJ (U:=U0) .u32 _,bV _ _⟩
   |i+1,hy=>cases hy
  bx:=λj b h=>by cases h
  dom:=λ_ _=>rfl
  lt:=λj e id h=>by cases h
  inj:=λk k' e e' id h=>by cases h
  wr:=λid h=>by cases h}
 exact⟨pv,own,p',h1,h2.res.1⟩
def NZ{E:List G.E}(hE:bR 7000 159 2 [⟨.int .u32,(0:Int)⟩]=some [⟨.sl (.rc 15),E⟩])(h0:0<E.length){w:World}(hg:Tryz.prog.globals.size<=w.heap.size)
    (hC: ∀w0:W0,w0.toWorld=w->Ak w0 Tryz.prog Go.Rf.cdX) (hO:YD Tryz.prog w orcI):
    (∃ fn c, Tryz.prog.funcs[5]? = some fn ∧ fn.body = some c ∧ (fn.name == "runtime.NumGoroutine") = false) ∧ Calls Tryz.prog 5 #[.int .u32 0] w fun e w' =>
      (∃b off cap C t fr,e= .returned (.slice (some ⟨b,off,none⟩) E.length cap)/\E.length<=cap/\w'.heap[b]?=some (.cells C t fr)/\(b<Tryz.prog.globals.size∨w.heap.size<=b))/\Kept w w':=by
 obtain⟨pv,own,p',hpi,hv⟩:=aBo hE;have hG:Mu Tryz.prog Go.Rf.cdX (uM Go.Rf.cdX insL):=By JT aD8;obtain⟨u,H',J',I',h1,h2,_⟩:=G0 (O:=orcI) rfl hG 7000 159 _ _ _ _ _ _ hpi _ _ (a2W Tryz.prog) #[.int .u32 0] bDH ⟨rfl,λi x w hx hw=>by
  match i,hx,hw with
  |0,hx,hw=>cases hx;cases hw;exact .v _ rfl
  |i+1,hx,hw=>cases hx⟩ (λi x w hx _=>by
  match i,hx with
  |0,hx=>cases hx
  |i+1,hx=>cases hx)
 obtain⟨e,es,rfl⟩: ∃e es,E=e::es:=by
  cases E with
  |nil=>simp at h0
  |cons e es=>exact⟨e,es,rfl⟩
 have hp:=aN6 hv.wk;subst hp
 let O:Nat->Option Obj:=λk=>if Tryz.prog.globals.size<=k then w.heap[k]? else none
 have hS:Sim (bBM (W0.of w) O) Tryz.prog (aXo Tryz.prog) (a2W Tryz.prog) w:=aJ7 (a4q hg) λk o hk=>by
  simp only[O]at hk;split at hk
  .rename_i hle;exact⟨hk,λid q hq=>by obtain⟨q1,q2⟩:=aDW hq;omega⟩
  .cases hk
 obtain⟨g,hc⟩:=E4 JS hC hO 7000 159 (bBM (W0.of w) O) rfl _ #[.int .u32 0] #[.int .u32 0] _ _ w _ _ h1 hS (VRL.same rfl);refine⟨g,hc.mono ?_⟩;rintro x w' ⟨Y',r',rfl,ca,hZ,_,_⟩;refine⟨?_,hZ.kept.toKept⟩;cases h2 with
 |sl _ _ id off c rcs m _ _ hr _ _ _=>
  obtain⟨q1,q2⟩:=St.row_some hr.1;cases ca with
  |same _ h=>cases h
  |slc _ _ _ _ cap p hm _ hl _=>
   obtain⟨C,t,fr,r1,_⟩:=(hZ.row id p rcs m hm q1 q2).row;have hlen:(dD U0 (.rc 15) e::List.map (dD U0 (.rc 15)) es).length=(e::es).length:=congrArg (· +1) (List.length_map (dD U0 (.rc 15)));refine⟨p.b,p.o+off,cap,C,t,fr,congrArg (λn=>Ending.returned (.slice (some ⟨p.b,p.o+off,none⟩) n cap)) hlen,Nat.le_trans (Nat.le_of_eq hlen.symm) hl,r1,?_⟩
   rcases Nat.lt_or_ge p.b Tryz.prog.globals.size with h3|h3
   .exact .inl h3
   .rcases Nat.lt_or_ge p.b w.heap.size with h4|h4
    .have:=(hZ.kept.oth p.b w.heap[p.b] (by show O p.b=_;simp only[O,bI h3];simp[h4])).2 id p hm
     exact absurd rfl this
    .exact .inr h4
end Go.TV
namespace Go.Rf
open Go.AI Go.Proofs
set_option maxRecDepth 100000
section
variable{call:FuncId->Array Value->St->Option (Value×St)}{L:Nat}{P:Program}
def C8{ops:Array Oper}{base i:Nat}{o:Oper}{rest:List Oper}{S S':Slots}{H H':St}(hg:o.guard=none)(h:fR P call ops base (o::rest) i S H=some (S',H')):
    ∃v H1,mP P call base i o S H=some (v,H1)/\fR P call ops base rest (i+1) (S.store o.dst v) H1=some (S',H'):=by
 rw[fR,wanted,hg]at h;simp only[aI]at h;split at h
 .rename_i v H1 h1;exact⟨v,H1,h1,h⟩
 .cases h
def aKK{ops:Array Oper}{base i:Nat}{S S':Slots}{H H':St}(h:fR P call ops base [] i S H=some (S',H')):S'=S/\H'=H:=by
 simp only[fR,aA,aB]at h;exact⟨h.1.symm,h.2.symm⟩
def aKq{id:Nat}{ops:Array Oper}{d:Bool}{S S':Slots}{H H':St}{fl:Fl}(h:cJ P call L (.region id ops d) S H=some (fl,S',H')):fl= .normal:=by
 simp only[cJ,aF,aB]at h;obtain⟨x,_,h2,_⟩:=h;exact h2.symm
def aKp{id:Nat}{ops:Array Oper}{S S':Slots}{H H':St}{fl:Fl}(h:cJ P call L (.region id ops false) S H=some (fl,S',H')):fR P call ops H.next ops.toList 0 S {H with next:=H.next+ops.size}=some (S',H'):=by
 simp only[cJ,aF,aB,iO,aJ]at h;obtain⟨⟨x,y⟩,h1,_,rfl,rfl⟩:=h;exact h1
def aBZ{a b:Code}{S S':Slots}{H H':St}{fl:Fl}(h:cJ P call L (.seq a b) S H=some (fl,S',H')):
    (∃S1 H1,cJ P call L a S H=some (.normal,S1,H1)/\cJ P call L b S1 H1=some (fl,S',H'))∨(fl≠ .normal/\cJ P call L a S H=some (fl,S',H')):=by
 rw[cJ]at h;split at h
 .rename_i S1 H1 h1;exact .inl ⟨S1,H1,h1,h⟩
 .rename_i bm;refine .inr ⟨?_,h⟩;rintro rfl;exact bm S' H' h
def aCj{id:Nat}{ops:Array Oper}{d:Bool}{b:Code}{S S':Slots}{H H':St}{fl:Fl}(h:cJ P call L (.seq (.region id ops d) b) S H=some (fl,S',H')):
    ∃S1 H1,cJ P call L (.region id ops d) S H=some (.normal,S1,H1)/\cJ P call L b S1 H1=some (fl,S',H'):=by
 rcases aBZ h with h|⟨h1,h2⟩
 .exact h
 .exact absurd (aKq h2) h1
end
end Go.Rf
