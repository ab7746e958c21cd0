import Derived.Test.YtgddcoodncbkoaaGreatDoorKs
import Derived.Test.YtgddcoodncbkoaaGreatDoorKt
import Derived.Test.YtgddcoodncbkoaaGreatDoorKq
set_option linter.unusedVariables false
set_option linter.unusedSimpArgs false
set_option linter.constructorNameAsVariable false
set_option linter.defProp false
namespace Go.TV
open Go.AI Go.PI Go.Proofs
set_option maxRecDepth 20000
def bJH(w0:W0)(O:Nat->Option Obj):W0:={w0 with O:=O}
def aNF{P:Program}{w0:W0}{Y:Mp}{H:St}{w:World}(S:Sim w0 P Y H w){O:Nat->Option Obj}(h: ∀k o,O k=some o->w.heap[k]?=some o/\∀id p,Y id=some p->p.b≠k):Sim (bJH w0 O) P Y H w:=
 ⟨⟨S.kept.toKept,h,S.kept.bnd⟩,S.dom,S.glob,λid p cs m h1 h2 h3=>by
  obtain⟨a,b,c,d,e⟩:=S.row id p cs m h1 h2 h3;exact⟨a,b,c,d,e⟩,λid p es h1 h2=>by
  obtain⟨a,b⟩:=S.map id p es h1 h2;exact⟨a,b⟩,S.off,S.tip,S.maps,S.vers,S.lim⟩
def pK:PSt:=⟨.nil,0,[],[]⟩
def bLD:Mem (λ_=>none) (λ_=>none) pK (a58 Tryz.prog) where
 le:=λid x h=>by cases h
 lt:=λid a h=>by cases h
 inj:=λi j a h=>by cases h
 live:=λid a h=>by cases h
 get:=λid o h=>by
  unfold PSt.get at h;rw[show Nat.blt id pK.next=false from rfl]at h
  cases h
 free:=λa ha=>Ch a
 ver:=λg=>by
  show(Tr.get Tr.nil g).getD 0=0;rw[Tr.get_nil];rfl
def aC1{E:List G.E}(hE:bR 7000 7159 2 [⟨.int .u32,(0:Int)⟩]=some [⟨.sl (.rc 16),E⟩]):
    ∃pv own p',pA Tryz.prog orcI (tY Go.Rf.cdX insL) 7000 7159 6 [(.v (.int .u32 0),false)] pK=some (pv,own,p')/\VR U0 (.sl (.rc 16)) E pv:=by
 have hT:=Qi (U:=U0) (T:=tpI) (P:=Tryz.prog) aDK (aWz orcI (xQ insL)) (G:=Dz Go.Rf.cdX insL) (GP:=tY Go.Rf.cdX insL) (λi s code rs h1 h2=>IW aFJ i s code rs h1 h2) aHe 7000 7159
 have hsig:tpI.sig 2=some ii2.sig:=(by kernel_rfl:xQ insL 2=some ii2.sig)
 obtain⟨pv,own,p',h1,h2⟩:=hT 2 ii2.sig _ _ hsig hE pK (λ_=>none) [(.v (.int .u32 0),false)] [(0,(.val ⟨.int .u32,(0:Int)⟩,[]))] ⟨[],[]⟩ {
  start:=rfl
  len:=rfl
  args:=λi y hy=>by
   match i,hy with
   |0,hy=>cases hy;exact⟨gM (U:=U0) .u32 _,cB _ _⟩
   |i+1,hy=>cases hy
  bx:=λj b h=>by cases h
  dom:=λ_ _=>rfl
  lt:=λj e id h=>by cases h
  inj:=λk k' e e' id h=>by cases h
  wr:=λid h=>by cases h}
 exact⟨pv,own,p',h1,h2.res.1⟩
def NQ{E:List G.E}(hE:bR 7000 7159 2 [⟨.int .u32,(0:Int)⟩]=some [⟨.sl (.rc 16),E⟩])(h0:0<E.length){w:World}(hg:Tryz.prog.globals.size<=w.heap.size)
    (hC: ∀w0:W0,w0.toWorld=w->zC w0 Tryz.prog Go.Rf.cdX) (hO:ZG Tryz.prog w orcI):
    (∃ fn c, Tryz.prog.funcs[6]? = some fn ∧ fn.body = some c ∧ (fn.name == "runtime.NumGoroutine") = false) ∧ Calls Tryz.prog 6 #[.int .u32 0] w fun e w' =>
      (∃b off cap C t fr,e= .returned (.slice (some ⟨b,off,none⟩) E.length cap)/\E.length<=cap/\w'.heap[b]?=some (.cells C t fr)/\(b<Tryz.prog.globals.size∨w.heap.size<=b))/\Kept w w':=by
 obtain⟨pv,own,p',hpi,hv⟩:=aC1 hE;have hG:MN Tryz.prog Go.Rf.cdX (tY Go.Rf.cdX insL):=Bb Kv aFI;obtain⟨u,H',J',I',h1,h2,_⟩:=HO (O:=orcI) rfl hG 7000 7159 _ _ _ _ _ _ hpi _ _ (a58 Tryz.prog) #[.int .u32 0] bLD ⟨rfl,λi x w hx hw=>by
  match i,hx,hw with
  |0,hx,hw=>cases hx;cases hw;exact .v _ rfl
  |i+1,hx,hw=>cases hx⟩ (λi x w hx _=>by
  match i,hx with
  |0,hx=>cases hx
  |i+1,hx=>cases hx)
 obtain⟨e,es,rfl⟩: ∃e es,E=e::es:=by
  cases E with
  |nil=>simp at h0
  |cons e es=>exact⟨e,es,rfl⟩
 have hp:=aQ1 hv.wk;subst hp
 let O:Nat->Option Obj:=λk=>if Tryz.prog.globals.size<=k then w.heap[k]? else none
 have hS:Sim (bJH (W0.of w) O) Tryz.prog (a1c Tryz.prog) (a58 Tryz.prog) w:=aNF (a8y hg) λk o hk=>by
  simp only[O]at hk;split at hk
  .rename_i hle;exact⟨hk,λid q hq=>by obtain⟨q1,q2⟩:=aFq hq;omega⟩
  .cases hk
 obtain⟨g,hc⟩:=Fe Ku hC hO 7000 7159 (bJH (W0.of w) O) rfl _ #[.int .u32 0] #[.int .u32 0] _ _ w _ _ h1 hS (VRL.same rfl);refine⟨g,hc.mono ?_⟩;rintro x w' ⟨Y',r',rfl,cb,hZ,_,_⟩;refine⟨?_,hZ.kept.toKept⟩;cases h2 with
 |sl _ _ id off c rcs m _ _ hr _ _ _=>
  obtain⟨q1,q2⟩:=St.row_some hr.1;cases cb with
  |same _ h=>cases h
  |slc _ _ _ _ cap p hm _ hl _=>
   obtain⟨C,t,fr,r1,_⟩:=(hZ.row id p rcs m hm q1 q2).row;have hlen:(dP U0 (.rc 16) e::List.map (dP U0 (.rc 16)) es).length=(e::es).length:=congrArg (· +1) (List.length_map (dP U0 (.rc 16)));refine⟨p.b,p.o+off,cap,C,t,fr,congrArg (λn=>Ending.returned (.slice (some ⟨p.b,p.o+off,none⟩) n cap)) hlen,Nat.le_trans (Nat.le_of_eq hlen.symm) hl,r1,?_⟩
   rcases Nat.lt_or_ge p.b Tryz.prog.globals.size with h3|h3
   .exact .inl h3
   .rcases Nat.lt_or_ge p.b w.heap.size with h4|h4
    .have:=(hZ.kept.oth p.b w.heap[p.b] (by show O p.b=_;simp only[O,bI h3];simp[h4])).2 id p hm
     exact absurd rfl this
    .exact .inr h4
end Go.TV
namespace Go.Rf
open Go.AI Go.Proofs
set_option maxRecDepth 100000
section
variable{call:FuncId->Array Value->St->Option (Value×St)}{L:Nat}{P:Program}
def C7{ops:Array Oper}{base i:Nat}{o:Oper}{rest:List Oper}{S S':Slots}{H H':St}(hg:o.guard=none)(h:fZ P call ops base (o::rest) i S H=some (S',H')):
    ∃v H1,mM P call base i o S H=some (v,H1)/\fZ P call ops base rest (i+1) (S.store o.dst v) H1=some (S',H'):=by
 rw[fZ,wanted,hg]at h;simp only[aI]at h;split at h
 .rename_i v H1 h1;exact⟨v,H1,h1,h⟩
 .cases h
def aOf{ops:Array Oper}{base i:Nat}{S S':Slots}{H H':St}(h:fZ P call ops base [] i S H=some (S',H')):S'=S/\H'=H:=by
 simp only[fZ,aA,aB]at h;exact⟨h.1.symm,h.2.symm⟩
def aNW{id:Nat}{ops:Array Oper}{d:Bool}{S S':Slots}{H H':St}{fl:Fl}(h:cV P call L (.region id ops d) S H=some (fl,S',H')):fl= .normal:=by
 simp only[cV,aF,aB]at h;obtain⟨x,_,h2,_⟩:=h;exact h2.symm
def aNV{id:Nat}{ops:Array Oper}{S S':Slots}{H H':St}{fl:Fl}(h:cV P call L (.region id ops false) S H=some (fl,S',H')):fZ P call ops H.next ops.toList 0 S {H with next:=H.next+ops.size}=some (S',H'):=by
 simp only[cV,aF,aB,iY,aJ]at h;obtain⟨⟨x,y⟩,h1,_,rfl,rfl⟩:=h;exact h1
def aDo{a b:Code}{S S':Slots}{H H':St}{fl:Fl}(h:cV P call L (.seq a b) S H=some (fl,S',H')):
    (∃S1 H1,cV P call L a S H=some (.normal,S1,H1)/\cV P call L b S1 H1=some (fl,S',H'))∨(fl≠ .normal/\cV P call L a S H=some (fl,S',H')):=by
 rw[cV]at h;split at h
 .rename_i S1 H1 h1;exact .inl ⟨S1,H1,h1,h⟩
 .rename_i bp;refine .inr ⟨?_,h⟩;rintro rfl;exact bp S' H' h
def aDy{id:Nat}{ops:Array Oper}{d:Bool}{b:Code}{S S':Slots}{H H':St}{fl:Fl}(h:cV P call L (.seq (.region id ops d) b) S H=some (fl,S',H')):
    ∃S1 H1,cV P call L (.region id ops d) S H=some (.normal,S1,H1)/\cV P call L b S1 H1=some (fl,S',H'):=by
 rcases aDo h with h|⟨h1,h2⟩
 .exact h
 .exact absurd (aNW h2) h1
end
end Go.Rf
