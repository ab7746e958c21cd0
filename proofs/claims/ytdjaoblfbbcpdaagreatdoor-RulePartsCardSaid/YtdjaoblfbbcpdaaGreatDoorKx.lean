import Derived.Test.YtdjaoblfbbcpdaaGreatDoorKv
import Derived.Test.YtdjaoblfbbcpdaaGreatDoorKw
set_option linter.unusedVariables false
set_option linter.unusedSimpArgs false
set_option linter.constructorNameAsVariable false
set_option linter.defProp false
namespace Go.Rf
open Go.AI Go.Proofs
set_option maxRecDepth 100000
section
variable{call:FuncId->Array Value->St->Option (Value×St)}{L:Nat}
def aR4: ∀e,Tryz.prog.underlying 9≠some (.slice e):=λe h=>by rw[Tryz.underlying9]at h;cases h
def E6{S:Slots}{H:St}{b i d k:Nat}{op:BinOp}{y:Operand}(ho:cO (NN (some d) (.binOp op 9 (.tmp k) y 9) 4)= .pure):
    mP Tryz.prog call b i (NN (some d) (.binOp op 9 (.tmp k) y 9) 4) S H=
    (bif cK (S.at k)&&cK (ev S y)then cQ Tryz.prog (do eqGuard op 9 (.tmp k) y (S.at k) (ev S y);binOp op 9 (S.at k) (ev S y))else none).map λv=>(v,H):=by
 have h2:lL Tryz.prog (ev S) (NN (some d) (.binOp op 9 (.tmp k) y 9) 4)=(bif cK (S.at k)&&cK (ev S y)then cQ Tryz.prog (do eqGuard op 9 (.tmp k) y (S.at k) (ev S y);binOp op 9 (S.at k) (ev S y))
  else match Tryz.prog.underlying 9 with
   |some (.slice _)=>SY op (S.at k) (ev S y)
   |_=>none):=by rfl
 have h1:mP Tryz.prog call b i (NN (some d) (.binOp op 9 (.tmp k) y 9) 4) S H=(vQ Tryz.prog H (ev S) (NN (some d) (.binOp op 9 (.tmp k) y 9) 4)).map λv=>(v,H):=by
  unfold mP;rw[ho]
 rw[h1];congr 1;unfold vQ;rw[h2];cases cK (S.at k)&&cK (ev S y)with
 |true=>
  simp only[aI];split
  .rename_i v h;exact h.symm
  .rename_i h;rw[h];rfl
 |false=>
  simp only[aJ];have:(match Tryz.prog.underlying 9 with
   |some (.slice _)=>SY op (S.at k) (ev S y)
   |_=>none)=none:=by
   split
   .rename_i e h;exact absurd h (aR4 e)
   .rfl
  first|rfl|(rw[this];rfl)
def aE7{S:Slots}{H H':St}{b i d k:Nat}{x:Value}(h:mP Tryz.prog call b i (a3b d k) S H=some (x,H')):H'=H/\∃a,S.at k= .string a:=by
 rw[a3b,E6 rfl,show ev S (.const (.string ⟨#[]⟩))= .string ⟨#[]⟩ from rfl]at h
 generalize S.at k=u at h⊢;cases hp:cK u with
 |false=>rw[hp]at h;cases h
 |true=>
  rw[hp,show cK (Value.string ⟨#[]⟩)=true from rfl,Bool.and_self,aI]at h
  cases u with
  |string s=>
   have e2:cQ Tryz.prog (do eqGuard .eql 9 (.tmp k) (.const (.string ⟨#[]⟩)) (.string s) (.string ⟨#[]⟩);binOp .eql 9 (.string s) (.string ⟨#[]⟩))=some (.bool (s.toList==(⟨#[]⟩:ByteArray).toList)):=by kernel_rfl
   rw[e2]at h;simp only[aK,aA,aB]at h;exact⟨h.2.symm,s,rfl⟩
  |_=>exact absurd ((by kernel_rfl:none=_).trans h) (λe=>by cases e)
def aKb{S:Slots}{H H':St}{b i d:Nat}{x:Value}{s t:ByteArray}(hs:S.at 0= .string s)(ht:S.at 1= .string t)(h:mP Tryz.prog call b i (aKc d .eql) S H=some (x,H')):H'=H/\x= .bool (s.toList==t.toList):=by
 rw[aKc,E6 rfl,hs,show ev S (.tmp 1)=S.at 1 from rfl,ht,show(cK (.string s)&&cK (.string t))=true from rfl,aI,a8X]at h
 simp only[aK,aA,aB]at h;exact⟨h.2.symm,h.1.symm⟩
def aKa{S:Slots}{H H':St}{b i d:Nat}{x:Value}{s t:ByteArray}(hs:S.at 0= .string s)(ht:S.at 1= .string t)(h:mP Tryz.prog call b i (aKc d .lss) S H=some (x,H')):H'=H/\x= .bool (Op.bytesLess s.toList t.toList):=by
 rw[aKc,E6 rfl,hs,show ev S (.tmp 1)=S.at 1 from rfl,ht,show(cK (.string s)&&cK (.string t))=true from rfl,aI,a8W]at h
 simp only[aK,aA,aB]at h;exact⟨h.2.symm,h.1.symm⟩
def aSh{S:Slots}{H H':St}{r:Value}{v:Int}(h:fL Tryz.prog a4v (cJ Tryz.prog call L (a2Z v) S H)=some (r,H')):r= .int .i64 v/\H'={H with next:=H.next+1}:=by
 have e:fL Tryz.prog a4v (cJ Tryz.prog call L (a2Z v) S H)=some ((S.store (some 4) (.int .i64 v)).at 4,{H with next:=H.next+1}):=by kernel_rfl
 rw[e,Go.Rf.at_store,bI rfl]at h;simp only[aA,aB]at h;exact⟨h.1.symm,h.2.symm⟩
def ZX{P:Program}{id:Nat}{ops:Array Oper}{S:Slots}{H:St}{r:Value}{H':St}{rest:Code}{fn:Func}(h:fL P fn (cJ P call L (.seq (.region id ops false) rest) S H)=some (r,H')):
    ∃S1 H1,fR P call ops H.next ops.toList 0 S {H with next:=H.next+ops.size}=some (S1,H1)/\fL P fn (cJ P call L rest S1 H1)=some (r,H'):=by
 cases hx:cJ P call L (.seq (.region id ops false) rest) S H with
 |none=>rw[hx]at h;cases h
 |some x=>
  obtain⟨fl,S',H1⟩:=x;obtain⟨S2,H2,h1,h2⟩:=aCj hx;rw[hx]at h;exact⟨S2,H2,aKp h1,by rw[h2];exact h⟩
def XM{P:Program}{fn:Func}{x:Operand}{a b:Code}{S:Slots}{H H':St}{r:Value}{q:Bool}(hq:ev S x= .bool q)(h:fL P fn (cJ P call L (.cond x a b) S H)=some (r,H')):fL P fn (cJ P call L (bif q then a else b) S H)=some (r,H'):=by
 rw[cJ,hq]at h;cases q<;>exact h
end
def aMU{a:Array Value}{P:Program}{f:FuncId}(h:BY P f a.size=true){k:Nat}(hk:BY P f k=true):a.size=k:=by
 unfold BY at h hk;split at h
 .rename_i fn hf;rw[hf]at hk;simp only[Nat.beq_eq]at h hk;omega
 .cases h
def aB1(w0:W0):aPw w0 Tryz.prog 183 a4v bA2:=by
 intro call L args H H' r lg h;have hs:=aMU lg (k:=2) (by kernel_rfl)
 obtain⟨u0,u1,ha⟩: ∃u0 u1,args.toList=[u0,u1]:=by
  match hl:args.toList,(show args.toList.length=2 by simpa using hs)with
  |[u0,u1],_=>exact⟨u0,u1,rfl⟩
 rw[ha]at h;obtain⟨S1,H1,h1,h2⟩:=ZX h;obtain⟨x0,O0,e0,h1⟩:=C8 (o:=a3b 6 0) rfl h1;obtain⟨rfl,s,k0⟩:=aE7 e0;obtain⟨x1,O1,e1,h1⟩:=C8 (o:=a3b 7 1) rfl h1;obtain⟨rfl,t,k1⟩:=aE7 e1;have a0:u0= .string s:=k0;have a1:u1= .string t:=k1;subst a0 a1;obtain⟨x2,O2,e2,h1⟩:=C8 (o:=aKc 8 .eql) rfl h1;obtain⟨rfl,rfl⟩:=aKb (s:=s) (t:=t) rfl rfl e2;obtain⟨x3,O3,e3,h1⟩:=C8 (o:=aKc 9 .lss) rfl h1;obtain⟨rfl,rfl⟩:=aKa (s:=s) (t:=t) rfl rfl e3;obtain⟨rfl,rfl⟩:=aKK h1;generalize hS:Slots.store _ (aKc 9 .lss).dst (.bool (Op.bytesLess s.toList t.toList))=S at h2;have c8:ev S (.tmp 8)= .bool (s.toList==t.toList):=by subst hS;rfl
 have c9:ev S (.tmp 9)= .bool (Op.bytesLess s.toList t.toList):=by subst hS;rfl
 have fin: ∀v,v=Lib.compareBytes s.toList t.toList->fL Tryz.prog a4v (cJ Tryz.prog call L (a2Z v) S {H with next:=H.next+4})=some (r,H')->
      args.toList.all bN=true/\(∃n,H.next<=n/\H'={H with next:=n})/\∃r',(∀Y,VR Y r r')/\∀w,Kept w0.toWorld w->Calls Tryz.prog 183 args w λe w'=>e= .returned r'/\Kept w w':=by
  rintro v hv h5;obtain⟨rfl,rfl⟩:=aSh h5;refine⟨by rw[ha];rfl,⟨_,by show H.next<=H.next+_+_;omega,rfl⟩,_,λY=> .same _ rfl,λw hK=>?_⟩
  have e:args= #[.string s,.string t]:=by rw[<-Array.toArray_toList (xs:=args),ha]
  rw[e,hv];exact(Tryz.strings_Compare s t w).mono λe w2 ⟨h1,h2⟩=>⟨by rw[h1,ByteArray.toList_eq,ByteArray.toList_eq],by rw[h2];exact Kept.refl _⟩
 have h3:=XM c8 h2;rw[GX]at fin;cases hq:(s.toList==t.toList)with
 |true=>rw[hq]at h3 fin;exact fin 0 rfl h3
 |false=>
  rw[hq]at h3 fin;have h4:=XM c9 h3;cases hl:Op.bytesLess s.toList t.toList with
  |true=>rw[hl]at h4 fin;exact fin (-1) rfl h4
  |false=>rw[hl]at h4 fin;exact fin 1 rfl h4
end Go.Rf
namespace Go.Rf
open Go.AI Go.Proofs Go.RowKit
def aFv(h:cdM.funcs.toList.all (kE Tryz.prog)=true)(w0:W0):Ak w0 Tryz.prog cdM:=by
 intro g fn c h1 h2;have hk:kE Tryz.prog fn=true:=bJ.1 h _ (List.mem_of_getElem? (show cdM.funcs.toList[g]?=some fn by simpa using h1))
 rcases Gq h1 with⟨rfl,rfl⟩|h3
 .right;have e:c=bA2:=by
   have:some bA2=some c:=h2;exact(Option.some.inj this).symm
  rw[e];exact ZV ⟨_,_,Tryz.func183,rfl,by kernel_rfl⟩ (aB1 w0)
 .exact .inl ⟨h3,hk⟩
end Go.Rf
namespace Go.Rf
open Go.AI Go.Proofs
section
variable(call:FuncId->Array Value->St->Option (Value×St))(L:Nat)(H:St)
def Ro{P:Program}{id:Nat}{ops:Array Oper}{S S':Slots}{H H':St}(h:fR P call ops H.next ops.toList 0 S {H with next:=H.next+ops.size}=some (S',H')):cJ P call L (.region id ops false) S H=some (.normal,S',H'):=by
 rw[cJ,iO,aJ,h];rfl
def HW{P:Program}{a b:Code}{S S1:Slots}{H H1:St}(h:cJ P call L a S H=some (.normal,S1,H1)):cJ P call L (.seq a b) S H=cJ P call L b S1 H1:=by
 rw[cJ,h]
def a4u{P:Program}{a b:Code}{S S1:Slots}{H H1:St}(h:cJ P call L a S H=some (.ret,S1,H1)):cJ P call L (.seq a b) S H=some (.ret,S1,H1):=by
 rw[cJ,h]
def aOX{P:Program}{x:Operand}{a b:Code}{S:Slots}{H:St}(h:ev S x= .bool true):cJ P call L (.cond x a b) S H=cJ P call L a S H:=by
 rw[cJ,h]
def aOY{P:Program}{x:Operand}{a b:Code}{S:Slots}{H:St}(h:ev S x= .bool false):cJ P call L (.cond x a b) S H=cJ P call L b S H:=by
 rw[cJ,h]
def bGl{S:Slots}{H:St}:fL Tryz.prog Tryz.f174 (some (.ret,S,H))=some (S.at 2,H):=by kernel_rfl
def bGm{S:Slots}{H:St}:fL Tryz.prog aO0 (some (.ret,S,H))=some (S.at 2,H):=by kernel_rfl
noncomputable def kR(n:Nat):Code:=match Qg,n with
 | .seq a _,0=>a
 | .seq _ (.seq (.seq b _) _),1=>b
 | .seq _ (.seq (.seq _ (.cond _ (.seq c _) _)) _),_=>c
 |_,_=> .skip
noncomputable def kO(n:Nat):Array Oper:=match kR n with| .region _ o _=>o|_=> #[]
noncomputable def ko(n k:Nat):Oper:=(kO n).toList.getD k (NN none (.move (.tmp 0)) 0)
def a1f:Qg= .seq (.region 0 (kO 0) false) (.seq (.seq (.region 1 (kO 1) false) (.cond (.tmp 4) (.seq (.region 2 (kO 2) false) .ret) .skip)) aME):=by kernel_rfl
def aFw:Dz Qg= .seq (.region 0 (kO 0) false) (.seq (.seq (.region 1 clO1 false) (.cond (.tmp 4) (.seq (.region 2 clO2 false) .ret) .skip)) aME):=by kernel_rfl
def l0:(kO 0).toList=[ko 0 0]:=by kernel_rfl
def l1:(kO 1).toList=[ko 1 0,ko 1 1]:=by kernel_rfl
def l2:(kO 2).toList=[ko 2 0]:=by kernel_rfl
def n0:(kO 0).size=1:=by kernel_rfl
def n1:(kO 1).size=2:=by kernel_rfl
def n2:(kO 2).size=1:=by kernel_rfl
def aLv:(ko 0 0).guard=none:=by kernel_rfl
def g10:(ko 1 0).guard=none:=by kernel_rfl
def g11:(ko 1 1).guard=none:=by kernel_rfl
def g20:(ko 2 0).guard=none:=by kernel_rfl
def bHB:(ko 0 0).dst=some 2:=by kernel_rfl
def d10:(ko 1 0).dst=some 3:=by kernel_rfl
def d11:(ko 1 1).dst=some 4:=by kernel_rfl
def d20:(ko 2 0).dst=some 2:=by kernel_rfl
def Pt(w:Value):Slots:=Slots.store .nil (some 3) w
def aAo(w:Value):Slots:=Slots.store .nil (some 0) w
def bIf{S:Slots}{H:St}{b i:Nat}:mP Tryz.prog call b i (ko 0 0) S H=some (.slice none 0 0,H):=by kernel_rfl
def a20{S:Slots}{H:St}{b i:Nat}:mP Tryz.prog call b i (ko 2 0) S H=some (.slice none 0 0,H):=by kernel_rfl
def a10{S:Slots}{H:St}{b i:Nat}:mP Tryz.prog call b i (ko 1 0) S H=some (S.at 0,H):=by kernel_rfl
def a11{S:Slots}{H:St}{b i:Nat}:mP Tryz.prog call b i (ko 1 1) S H=mP Tryz.prog call b i (ko 1 1) (Pt (S.at 3)) H:=by kernel_rfl
def bIe{H:St}{b i:Nat}:mP Tryz.prog call b i (ko 1 1) (Pt (.slice none 0 0)) H=some (.bool true,H):=by kernel_rfl
def bId{H:St}{b i n c:Nat}{a:Addr}:mP Tryz.prog call b i (ko 1 1) (Pt (.slice (some a) n c)) H=some (.bool false,H):=by kernel_rfl
def head{S:Slots}{u:Value}(hu:S.at 0=u){q:Bool}(hq: ∀(H:St) b i,mP Tryz.prog call b i (ko 1 1) (Pt u) H=some (.bool q,H)){fl:Fl}{r:Option (Fl×Slots×St)}
    (h:(bif q then cJ Tryz.prog call L (.seq (.seq (.region 2 (kO 2) false) .ret) aME) (((S.store (some 2) (.slice none 0 0)).store (some 3) u).store (some 4) (.bool q)) {H with next:=H.next+3}
      else cJ Tryz.prog call L aME (((S.store (some 2) (.slice none 0 0)).store (some 3) u).store (some 4) (.bool q)) {H with next:=H.next+3})=r):
    cJ Tryz.prog call L Qg S H=r:=by
 have h0:cJ Tryz.prog call L (.region 0 (kO 0) false) S H=some (.normal,S.store (some 2) (.slice none 0 0),{H with next:=H.next+1}):=by
  refine Ro call L ?_;rw[l0,n0,dW call aLv (bIf call),bHB];rfl
 have h1:cJ Tryz.prog call L (.region 1 (kO 1) false) (S.store (some 2) (.slice none 0 0)) {H with next:=H.next+1}=some (.normal,((S.store (some 2) (.slice none 0 0)).store (some 3) u).store (some 4) (.bool q),{H with next:=H.next+3}):=by
  refine Ro call L ?_;have e0:(S.store (some 2) (.slice none 0 0)).at 0=u:=by rw[Go.Rf.at_store,bH (by decide)];exact hu
  have e3:((S.store (some 2) (.slice none 0 0)).store (some 3) u).at 3=u:=by rw[Go.Rf.at_store,bI rfl]
  rw[l1,n1,dW call g10 (a10 call),e0,d10,dW call g11 (by rw[a11,e3];exact hq _ _ _),d11];rfl
 have e4:ev (((S.store (some 2) (.slice none 0 0)).store (some 3) u).store (some 4) (.bool q)) (.tmp 4)= .bool q:=by
  show Slots.at _ 4=_;rw[Go.Rf.at_store,bI rfl]
 rw[a1f,HW call L h0];subst h;cases q with
 |true=>
  rw[aI,cJ,HW call L h1,aOX call L e4]
  conv=>rhs;rw[cJ]
 |false=>
  rw[aJ,cJ,HW call L h1,aOY call L e4,cJ]
end
end Go.Rf
namespace Go.Rf
open Go.AI Go.Proofs
section
variable(call:FuncId->Array Value->St->Option (Value×St))(L:Nat)(H:St)
def bAq(x u:Value):Slots:=Slots.store (Slots.store .nil (some 5) x) (some 6) u
def a2{S:Slots}{H:St}{b i:Nat}:mP Tryz.prog call b i (CX 2) S H=mP Tryz.prog call b i (CX 2) (bAq (S.at 5) (S.at 6)) H:=by kernel_rfl
def a0{S:Slots}:mP Tryz.prog call (H.next+3) 0 (CX 0) S {H with next:=H.next+7}=some (.slice (some ⟨H.next+3,0,none⟩) 0 0,XQ H):=by kernel_rfl
def a1{S:Slots}{H:St}{b i:Nat}:mP Tryz.prog call b i (CX 1) S H=some (S.at 0,H):=by kernel_rfl
def a3{S:Slots}{H:St}{b i:Nat}:mP Tryz.prog call b i (CX 3) S H=some (S.at 7,H):=by kernel_rfl
def g0:(CX 0).guard=none:=by kernel_rfl
def g1:(CX 1).guard=none:=by kernel_rfl
def g2:(CX 2).guard=none:=by kernel_rfl
def g3:(CX 3).guard=none:=by kernel_rfl
def e0:(CX 0).dst=some 5:=by kernel_rfl
def e1:(CX 1).dst=some 6:=by kernel_rfl
def e2:(CX 2).dst=some 7:=by kernel_rfl
def e3:(CX 3).dst=some 2:=by kernel_rfl
def aPt{S:Slots}{u:Value}(hu:S.at 0=u){fn:Func}(fx: ∀(S:Slots) (H:St),fL Tryz.prog fn (some (.ret,S,H))=some (S.at 2,H))(dn:fL Tryz.prog fn none=none):
    fL Tryz.prog fn (cJ Tryz.prog call L aME S {H with next:=H.next+3})=mP Tryz.prog call (H.next+3) 2 (CX 2) (bAq (.slice (some ⟨H.next+3,0,none⟩) 0 0) u) (XQ H):=by
 have hr: ∀r,fR Tryz.prog call clO3 (H.next+3) [CX 2,CX 3] 2 ((S.store (some 5) (.slice (some ⟨H.next+3,0,none⟩) 0 0)).store (some 6) u) (XQ H)=r->cJ Tryz.prog call L (.region 3 clO3 false) S {H with next:=H.next+3}=r.map λx=>(.normal,x.1,x.2):=by
  intro r hr;have e:iO Tryz.prog call clO3 false S {H with next:=H.next+3}=r:=by
   rw[iO,aJ,aMF,aAH];refine(dW call g0 (a0 call H)).trans ?_;rw[e0];refine(dW call g1 (a1 call)).trans ?_;rw[e1,Go.Rf.at_store,bH (by decide),hu]
   exact hr
  rw[cJ,e]
 have h56:mP Tryz.prog call (H.next+3) 2 (CX 2) ((S.store (some 5) (.slice (some ⟨H.next+3,0,none⟩) 0 0)).store (some 6) u) (XQ H)=mP Tryz.prog call (H.next+3) 2 (CX 2) (bAq (.slice (some ⟨H.next+3,0,none⟩) 0 0) u) (XQ H):=by
  rw[a2,Go.Rf.at_store,bH (by decide),Go.Rf.at_store,bI rfl,Go.Rf.at_store,bI rfl]
 rw[a1e];cases hX:mP Tryz.prog call (H.next+3) 2 (CX 2) (bAq (.slice (some ⟨H.next+3,0,none⟩) 0 0) u) (XQ H)with
 |none=>
  have:=hr none (As call g2 (h56.trans hX));rw[cJ,this];exact dn
 |some x=>
  obtain⟨v,H1⟩:=x;have h3:=(dW call (ops:=clO3) (rest:=[CX 3]) g2 (h56.trans hX));rw[e2]at h3;have:=hr _ (h3.trans (dW call g3 (a3 call)));rw[fR,e3,Go.Rf.at_store,bI rfl]at this;rw[cJ,this,aK];simp only[cJ];rw[fx,Go.Rf.at_store,bI rfl]
def bI5(S:Slots)(H:St):fL Tryz.prog Tryz.f174 (some (.ret,S,H))=some (S.at 2,H):=bGl
def bI6(S:Slots)(H:St):fL Tryz.prog aO0 (some (.ret,S,H))=some (S.at 2,H):=bGm
def aWS{S:Slots}(hu:S.at 0= .slice none 0 0):fL Tryz.prog Tryz.f174 (cJ Tryz.prog call L Qg S H)=some (.slice none 0 0,{H with next:=H.next+4}):=by
 rw[head call L H (fl:= .normal) hu (q:=true) (λ_ _ _=>bIe call) rfl,aI]
 have h2: ∀T:Slots,cJ Tryz.prog call L (.region 2 (kO 2) false) T {H with next:=H.next+3}=some (.normal,T.store (some 2) (.slice none 0 0),{H with next:=H.next+4}):=λT=>Ro call L (by
  rw[l2,n2,dW call g20 (a20 call),d20];rfl)
 have h3: ∀T:Slots,cJ Tryz.prog call L (.seq (.region 2 (kO 2) false) .ret) T {H with next:=H.next+3}=some (.ret,T.store (some 2) (.slice none 0 0),{H with next:=H.next+4}):=λT=>(HW call L (h2 T)).trans (by rw[cJ])
 rw[a4u call L (h3 _),bI5,Go.Rf.at_store,bI rfl]
def bIa{S:Slots}{u x:Value}{q:Bool}(hu:S.at 0=u):(((S.store (some 2) (.slice none 0 0)).store (some 3) x).store (some 4) (.bool q)).at 0=u:=by
 rw[Go.Rf.at_store,bH (by decide),Go.Rf.at_store,bH (by decide),Go.Rf.at_store,bH (by decide)];exact hu
def WU{S:Slots}{a:Addr}{n c:Nat}(hu:S.at 0= .slice (some a) n c):fL Tryz.prog Tryz.f174 (cJ Tryz.prog call L Qg S H)=
    mP Tryz.prog call (H.next+3) 2 (CX 2) (bAq (.slice (some ⟨H.next+3,0,none⟩) 0 0) (.slice (some a) n c)) (XQ H):=by
 rw[head call L H (fl:= .normal) hu (q:=false) (λ_ _ _=>bId call) rfl,aJ]
 exact aPt call L H (bIa hu) bI5 rfl
def aWT{S:Slots}(hu:S.at 0=EO):fL Tryz.prog Tryz.f174 (cJ Tryz.prog call L Qg S H)=some (.slice (some ⟨H.next+3,0,none⟩) 0 0,XQ H):=
 (WU call L H hu).trans (by kernel_rfl)
end
end Go.Rf
namespace Go.Rf
open Go.AI Go.Proofs
section
variable(call:FuncId->Array Value->St->Option (Value×St))(L:Nat)(H:St)
def k1(j:Nat):Oper:=clO1.toList.getD j (NN none (.move (.tmp 0)) 0)
def k2(j:Nat):Oper:=clO2.toList.getD j (NN none (.move (.tmp 0)) 0)
def bJo{S:Slots}{H:St}{b i:Nat}:mP Tryz.prog call b i (k1 0) S H=mP Tryz.prog call b i (k1 0) (aAo (S.at 0)) H:=by kernel_rfl
def a92{H:St}{b i n c:Nat}{a:Option Addr}:mP Tryz.prog call b i (k1 0) (aAo (.slice a n c)) H=some (goInt (n:Int),H):=by kernel_rfl
def b11{S:Slots}{H:St}{b i:Nat}:mP Tryz.prog call b i (k1 1) S H=mP Tryz.prog call b i (k1 1) (Pt (S.at 3)) H:=by kernel_rfl
def bH7{H:St}{b i:Nat}:mP Tryz.prog call b i (k1 1) (Pt (goInt ((0:Nat):Int))) H=some (.bool true,H):=by kernel_rfl
def bH8{H:St}{b i n:Nat}:mP Tryz.prog call b i (k1 1) (Pt (goInt ((n+1:Nat):Int))) H=some (.bool false,H):=by kernel_rfl
def b20{S:Slots}:mP Tryz.prog call (H.next+3) 0 (k2 0) S {H with next:=H.next+7}=some (.slice (some ⟨H.next+3,0,none⟩) 0 0,XQ H):=by kernel_rfl
def b21{S:Slots}{H:St}{b i:Nat}:mP Tryz.prog call b i (k2 1) S H=mP Tryz.prog call b i (k2 1) (aAo (S.at 0)) H:=by kernel_rfl
def bH6{H:St}{b i c:Nat}{a:Option Addr}:mP Tryz.prog call b i (k2 1) (aAo (.slice a 0 c)) H=some (zO a,H):=by kernel_rfl
def b22{S:Slots}{H:St}{b i:Nat}:mP Tryz.prog call b i (k2 2) S H=some (S.at 0,H):=by kernel_rfl
def b23{S:Slots}{H:St}{b i:Nat}:mP Tryz.prog call b i (k2 3) S H=some (S.at 0,H):=by kernel_rfl
def aOP{S:Slots}{u w:Value}(hu:S.at 0=u)(hl: ∀(H:St) b i,mP Tryz.prog call b i (k1 0) (aAo u) H=some (w,H)){q:Bool}(hq: ∀(H:St) b i,mP Tryz.prog call b i (k1 1) (Pt w) H=some (.bool q,H)):
    cJ Tryz.prog call L (Dz Qg) S H=(bif q then cJ Tryz.prog call L (.seq (.seq (.region 2 clO2 false) .ret) aME) (((S.store (some 2) (.slice none 0 0)).store (some 3) w).store (some 4) (.bool q)) {H with next:=H.next+3}
      else cJ Tryz.prog call L aME (((S.store (some 2) (.slice none 0 0)).store (some 3) w).store (some 4) (.bool q)) {H with next:=H.next+3}):=by
 have h0:cJ Tryz.prog call L (.region 0 (kO 0) false) S H=some (.normal,S.store (some 2) (.slice none 0 0),{H with next:=H.next+1}):=by
  refine Ro call L ?_;rw[l0,n0,dW call aLv (bIf call),bHB];rfl
 have h1:cJ Tryz.prog call L (.region 1 clO1 false) (S.store (some 2) (.slice none 0 0)) {H with next:=H.next+1}=some (.normal,((S.store (some 2) (.slice none 0 0)).store (some 3) w).store (some 4) (.bool q),{H with next:=H.next+3}):=by
  refine Ro call L ?_;have e0:(S.store (some 2) (.slice none 0 0)).at 0=u:=by rw[Go.Rf.at_store,bH (by decide)];exact hu
  have e3:((S.store (some 2) (.slice none 0 0)).store (some 3) w).at 3=w:=by rw[Go.Rf.at_store,bI rfl]
  rw[show clO1.toList=[k1 0,k1 1] from rfl,show clO1.size=2 from rfl,dW call (show(k1 0).guard=none from rfl) (by rw[bJo,e0];exact hl _ _ _),show(k1 0).dst=some 3 from rfl,
   dW call (show(k1 1).guard=none from rfl) (by rw[b11,e3];exact hq _ _ _),show(k1 1).dst=some 4 from rfl];rfl
 have e4:ev (((S.store (some 2) (.slice none 0 0)).store (some 3) w).store (some 4) (.bool q)) (.tmp 4)= .bool q:=by
  show Slots.at _ 4=_;rw[Go.Rf.at_store,bI rfl]
 rw[aFw,HW call L h0];cases q with
 |true=>
  rw[aI,cJ,HW call L h1,aOX call L e4]
  conv=>rhs;rw[cJ]
 |false=>
  rw[aJ,cJ,HW call L h1,aOY call L e4,cJ]
def aOO{S:Slots}{u:Value}(hu:S.at 0=u)(hl: ∀(H:St) b i,mP Tryz.prog call b i (k1 0) (aAo u) H=none):cJ Tryz.prog call L (Dz Qg) S H=none:=by
 have h0:cJ Tryz.prog call L (.region 0 (kO 0) false) S H=some (.normal,S.store (some 2) (.slice none 0 0),{H with next:=H.next+1}):=by
  refine Ro call L ?_;rw[l0,n0,dW call aLv (bIf call),bHB];rfl
 have e0:(S.store (some 2) (.slice none 0 0)).at 0=u:=by rw[Go.Rf.at_store,bH (by decide)];exact hu
 have h1:cJ Tryz.prog call L (.region 1 clO1 false) (S.store (some 2) (.slice none 0 0)) {H with next:=H.next+1}=none:=by
  rw[cJ,iO,aJ,show clO1.toList=[k1 0,k1 1] from rfl,As call (show(k1 0).guard=none from rfl) (by rw[bJo,e0];exact hl _ _ _)];rfl
 rw[aFw,HW call L h0,cJ,cJ,h1]
def aMI{S:Slots}{a:Option Addr}{c:Nat}(hu:S.at 0= .slice a 0 c):fL Tryz.prog aO0 (cJ Tryz.prog call L (Dz Qg) S H)=some (zO a,XQ H):=by
 rw[aOP call L H hu (λ_ _ _=>a92 call) (q:=true) (λ_ _ _=>bH7 call),aI]
 have h2: ∀T:Slots,T.at 0= .slice a 0 c->cJ Tryz.prog call L (.region 2 clO2 false) T {H with next:=H.next+3}=some (.normal,(((T.store (some 5) (.slice (some ⟨H.next+3,0,none⟩) 0 0)).store (some 2) (zO a)).store (some 6) (.slice a 0 c)).store (some 6) (.slice a 0 c),XQ H):=λT hT=>Ro call L (by
  have q1:(T.store (some 5) (.slice (some ⟨H.next+3,0,none⟩) 0 0)).at 0= .slice a 0 c:=by rw[Go.Rf.at_store,bH (by decide)];exact hT
  have q2:((T.store (some 5) (.slice (some ⟨H.next+3,0,none⟩) 0 0)).store (some 2) (zO a)).at 0= .slice a 0 c:=by rw[Go.Rf.at_store,bH (by decide)];exact q1
  have q3:(((T.store (some 5) (.slice (some ⟨H.next+3,0,none⟩) 0 0)).store (some 2) (zO a)).store (some 6) (.slice a 0 c)).at 0= .slice a 0 c:=by rw[Go.Rf.at_store,bH (by decide)];exact q2
  rw[show clO2.toList=[k2 0,k2 1,k2 2,k2 3] from rfl,show clO2.size=4 from rfl]
  refine(dW call (show(k2 0).guard=none from rfl) (b20 call H)).trans ?_
  refine(dW call (H1:=XQ H) (v:=zO a) (show(k2 1).guard=none from rfl) ?_).trans ?_
  .rw[show(k2 0).dst=some 5 from rfl,b21,q1];exact bH6 call
  refine(dW call (H1:=XQ H) (v:= .slice a 0 c) (show(k2 2).guard=none from rfl) ?_).trans ?_
  .rw[show(k2 0).dst=some 5 from rfl,show(k2 1).dst=some 2 from rfl,b22,q2]
  refine(dW call (H1:=XQ H) (v:= .slice a 0 c) (show(k2 3).guard=none from rfl) ?_).trans ?_
  .rw[show(k2 0).dst=some 5 from rfl,show(k2 1).dst=some 2 from rfl,show(k2 2).dst=some 6 from rfl,b23,q3]
  rfl)
 rw[a4u call L ((HW call L (h2 _ (bIa hu))).trans (by rw[cJ])),bI6,Go.Rf.at_store,bH (by decide),Go.Rf.at_store,bH (by decide),Go.Rf.at_store,bI rfl]
def aMJ{S:Slots}{a:Addr}{n c:Nat}(hu:S.at 0= .slice (some a) (n+1) c):fL Tryz.prog aO0 (cJ Tryz.prog call L (Dz Qg) S H)=fL Tryz.prog Tryz.f174 (cJ Tryz.prog call L Qg S H):=by
 rw[WU call L H hu,aOP call L H hu (λ_ _ _=>a92 call) (q:=false) (λ_ _ _=>bH8 call),aJ]
 exact aPt call L H (bIa hu) bI6 rfl
end
end Go.Rf
namespace Go.Rf
open Go.AI Go.Proofs
def aEY(u:Value)(rest:List Value):(mB (u::rest) 0 .nil).at 0=u:=by
 rw[EN,bI ⟨aS _,by simp⟩];rfl
def aZS:(mB [] 0 .nil).at 0=undef:=rfl
def aAG(w0:W0):YC w0 Tryz.prog 174 aO0 (Dz Qg):=by
 refine⟨⟨_,_,SJ,XP,by kernel_rfl⟩,?_⟩
 intro call L bj args args' H H' w Y r h ρ hargs _;have hc:=bj w0 rfl;have run:=λ{args2:Array Value} {H1 H2:St} {r2:Value} (h2:fL Tryz.prog Tryz.f174 (cJ Tryz.prog call L Qg (mB args2.toList 0 .nil) H1)=some (r2,H2)) (Z2:Sim w0 Tryz.prog Y H1 w) (ha:VRL Y args2.toList args'.toList)=>
  (Bt (P:=Tryz.prog) aXt SJ XP aOZ hc h2 Z2 ha).2
 cases hA:args.toList with
 |nil=>
  rw[hA,aOO call L H aZS (λ_ _ _=>by kernel_rfl)]at h
  exact absurd ((by kernel_rfl:none=fL Tryz.prog aO0 none).trans h) (λe=>by cases e)
 |cons u rest=>
  rw[hA]at h hargs;obtain⟨u',rest',hA',ru,rr⟩:=hargs.cons_inv;have hu:=aEY u rest;have cy: ∃a n c,u= .slice a n c:=by
   cases u with
   |slice a n c=>exact⟨a,n,c,rfl⟩
   |_=>
    rw[aOO call L H hu (λ_ _ _=>by kernel_rfl)]at h
    exact absurd ((by kernel_rfl:none=fL Tryz.prog aO0 none).trans h) (λe=>by cases e)
  obtain⟨a,n,c,rfl⟩:=cy;cases n with
  |zero=>
   rw[aMI call L H hu]at h;simp only[aA,aB]at h;obtain⟨rfl,rfl⟩:=h;cases a with
   |none=>
    obtain⟨_,rfl,rfl⟩:=ru.nilslc_inv;have Z2:Sim w0 Tryz.prog Y (({H with next:=H.next+3}:St).put (H.next+3) (.cells [] (eE 13))) w:=
     (ρ.next (by omega)).put_new (ρ.dom _ (by omega)) (λcs m g v e1 e2=>by cases e1;cases e2)
    have h2:=aWS call L (({H with next:=H.next+3}:St).put (H.next+3) (.cells [] (eE 13))) hu
    refine(run (args2:=args) (by rw[hA];exact h2) Z2 (by rw[hA];exact hargs)).mono ?_
    rintro e w' ⟨Y',r',he,hr,hZ,hE,hn⟩;refine⟨Y',r',he,hr,hZ,⟨hE.1,λid hi=>hE.2 id ?_⟩,?_⟩
    .show id<H.next+3;omega
    .show H.next<=H.next+7;omega
   |some a=>
    have hus: ∃a' cap,u'= .slice (some a') 0 cap:=by
     cases ru with
     |same _ h=>simp[bN]at h
     |slc=>exact⟨_,_,rfl⟩
     |emp=>exact⟨_,_,rfl⟩
    obtain⟨a',cap,rfl⟩:=hus;have h2:=aWT call L H (aEY EO rest);refine(run (args2:=(EO::rest).toArray) (by simpa using h2) ρ (by rw[hA'];exact VRL.cons (x:=EO) (.emp a' 0 cap (λe=>by cases e)) rr)).mono ?_
    rintro e w' ⟨Y',r',he,hr,hZ,hE,hn⟩;obtain⟨p,xy,hp,rfl,fk,_⟩:=hr.slc_inv;obtain rfl:=fk rfl;exact⟨Y',_,he,.emp _ 1 0 (λ_=>rfl),hZ,hE,hn⟩
  |succ n=>
   cases a with
   |none=>exact absurd ru.nilslc_inv.1 (by simp)
   |some a=>
    rw[aMJ call L H hu]at h;exact run (args2:=args) (by rw[hA];exact h) ρ (by rw[hA];exact hargs)
end Go.Rf
namespace Go.Rf
open Go.AI Go.Proofs Go.RowKit
set_option maxRecDepth 100000
def aBO{C:Program}{f g:FuncId}{fn qw:Func}(ti: ¬g=f)(h:C.funcs[g]?=some qw):(Ci C f fn).funcs[g]?=some qw:=by
 have:(C.funcs.toList.set f fn)[g]?=some qw:=by
  rw[List.getElem?_set,bH (Ne.symm ti)];simpa using h
 simpa [Ci]using this
def a1g:cdM.funcs[174]?=Tryz.prog.funcs[174]?:=by
 unfold cdM;simp only[Ci,List.getElem?_toArray,List.getElem?_set];simp
def aWY(h:cdX.funcs.toList.all (kE Tryz.prog)=true):cdM.funcs.toList.all (kE Tryz.prog)=true:=by
 refine bJ.2 λfn fx=>?_
 obtain⟨f,hf⟩:=List.mem_iff_getElem?.1 fx;have gn:cdM.funcs[f]?=some fn:=by simpa using hf
 by_cases e:f=174
 .subst e;rw[a1g,SJ]at gn;rw[<-Option.some.inj gn];exact aOZ
 .have h1:cdX.funcs[f]?=some fn:=aBO e gn;exact bJ.1 h _ (List.mem_of_getElem? (show cdX.funcs.toList[f]?=some fn by simpa using h1))
def code_okX(h:cdX.funcs.toList.all (kE Tryz.prog)=true)(w0:W0):Ak w0 Tryz.prog cdX:=
 aBN (aFv (aWY h) w0) rfl (aAG w0)
end Go.Rf
