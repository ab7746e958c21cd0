import Derived.Test.YtgddcoodncbkoaaGreatDoorKv
import Derived.Test.YtgddcoodncbkoaaGreatDoorKw
set_option linter.unusedVariables false
set_option linter.unusedSimpArgs false
set_option linter.constructorNameAsVariable false
set_option linter.defProp false
namespace Go.Rf
open Go.AI Go.Proofs
set_option maxRecDepth 100000
section
variable{call:FuncId->Array Value->St->Option (Value×St)}{L:Nat}
def aWG: ∀e,Tryz.prog.underlying 9≠some (.slice e):=λe h=>by rw[Tryz.underlying9]at h;cases h
def Fh{S:Slots}{H:St}{b i d k:Nat}{op:BinOp}{y:Operand}(ho:dD (NG (some d) (.binOp op 9 (.tmp k) y 9) 4)= .pure):
    mM Tryz.prog call b i (NG (some d) (.binOp op 9 (.tmp k) y 9) 4) S H=
    (bif cX (S.at k)&&cX (ev S y)then dG Tryz.prog (do eqGuard op 9 (.tmp k) y (S.at k) (ev S y);binOp op 9 (S.at k) (ev S y))else none).map λv=>(v,H):=by
 have h2:lJ Tryz.prog (ev S) (NG (some d) (.binOp op 9 (.tmp k) y 9) 4)=(bif cX (S.at k)&&cX (ev S y)then dG Tryz.prog (do eqGuard op 9 (.tmp k) y (S.at k) (ev S y);binOp op 9 (S.at k) (ev S y))
  else match Tryz.prog.underlying 9 with
   |some (.slice _)=>Ua op (S.at k) (ev S y)
   |_=>none):=by rfl
 have h1:mM Tryz.prog call b i (NG (some d) (.binOp op 9 (.tmp k) y 9) 4) S H=(uQ Tryz.prog H (ev S) (NG (some d) (.binOp op 9 (.tmp k) y 9) 4)).map λv=>(v,H):=by
  unfold mM;rw[ho]
 rw[h1];congr 1;unfold uQ;rw[h2];cases cX (S.at k)&&cX (ev S y)with
 |true=>
  simp only[aI];split
  .rename_i v h;exact h.symm
  .rename_i h;rw[h];rfl
 |false=>
  simp only[aJ];have:(match Tryz.prog.underlying 9 with
   |some (.slice _)=>Ua op (S.at k) (ev S y)
   |_=>none)=none:=by
   split
   .rename_i e h;exact absurd h (aWG e)
   .rfl
  first|rfl|(rw[this];rfl)
def aGq{S:Slots}{H H':St}{b i d k:Nat}{x:Value}(h:mM Tryz.prog call b i (a6g d k) S H=some (x,H')):H'=H/\∃a,S.at k= .string a:=by
 rw[a6g,Fh rfl,show ev S (.const (.string ⟨#[]⟩))= .string ⟨#[]⟩ from rfl]at h
 generalize S.at k=u at h⊢;cases hp:cX u with
 |false=>rw[hp]at h;cases h
 |true=>
  rw[hp,show cX (Value.string ⟨#[]⟩)=true from rfl,Bool.and_self,aI]at h
  cases u with
  |string s=>
   have e2:dG Tryz.prog (do eqGuard .eql 9 (.tmp k) (.const (.string ⟨#[]⟩)) (.string s) (.string ⟨#[]⟩);binOp .eql 9 (.string s) (.string ⟨#[]⟩))=some (.bool (s.toList==(⟨#[]⟩:ByteArray).toList)):=by kernel_rfl
   rw[e2]at h;simp only[aK,aA,aB]at h;exact⟨h.2.symm,s,rfl⟩
  |_=>exact absurd ((by kernel_rfl:none=_).trans h) (λe=>by cases e)
def aNJ{S:Slots}{H H':St}{b i d:Nat}{x:Value}{s t:ByteArray}(hs:S.at 0= .string s)(ht:S.at 1= .string t)(h:mM Tryz.prog call b i (aNK d .eql) S H=some (x,H')):H'=H/\x= .bool (s.toList==t.toList):=by
 rw[aNK,Fh rfl,hs,show ev S (.tmp 1)=S.at 1 from rfl,ht,show(cX (.string s)&&cX (.string t))=true from rfl,aI,bGZ]at h
 simp only[aK,aA,aB]at h;exact⟨h.2.symm,h.1.symm⟩
def aNI{S:Slots}{H H':St}{b i d:Nat}{x:Value}{s t:ByteArray}(hs:S.at 0= .string s)(ht:S.at 1= .string t)(h:mM Tryz.prog call b i (aNK d .lss) S H=some (x,H')):H'=H/\x= .bool (Op.bytesLess s.toList t.toList):=by
 rw[aNK,Fh rfl,hs,show ev S (.tmp 1)=S.at 1 from rfl,ht,show(cX (.string s)&&cX (.string t))=true from rfl,aI,bGY]at h
 simp only[aK,aA,aB]at h;exact⟨h.2.symm,h.1.symm⟩
def aWR{S:Slots}{H H':St}{r:Value}{v:Int}(h:fQ Tryz.prog a8D (cV Tryz.prog call L (a6b v) S H)=some (r,H')):r= .int .i64 v/\H'={H with next:=H.next+1}:=by
 have e:fQ Tryz.prog a8D (cV Tryz.prog call L (a6b v) S H)=some ((S.store (some 4) (.int .i64 v)).at 4,{H with next:=H.next+1}):=by kernel_rfl
 rw[e,Go.Rf.at_store,bI rfl]at h;simp only[aA,aB]at h;exact⟨h.1.symm,h.2.symm⟩
def aBO{P:Program}{id:Nat}{ops:Array Oper}{S:Slots}{H:St}{r:Value}{H':St}{rest:Code}{fn:Func}(h:fQ P fn (cV P call L (.seq (.region id ops false) rest) S H)=some (r,H')):
    ∃S1 H1,fZ P call ops H.next ops.toList 0 S {H with next:=H.next+ops.size}=some (S1,H1)/\fQ P fn (cV P call L rest S1 H1)=some (r,H'):=by
 cases hx:cV P call L (.seq (.region id ops false) rest) S H with
 |none=>rw[hx]at h;cases h
 |some x=>
  obtain⟨fl,S',H1⟩:=x;obtain⟨S2,H2,h1,h2⟩:=aDy hx;rw[hx]at h;exact⟨S2,H2,aNV h1,by rw[h2];exact h⟩
def XW{P:Program}{fn:Func}{x:Operand}{a b:Code}{S:Slots}{H H':St}{r:Value}{q:Bool}(hq:ev S x= .bool q)(h:fQ P fn (cV P call L (.cond x a b) S H)=some (r,H')):fQ P fn (cV P call L (bif q then a else b) S H)=some (r,H'):=by
 rw[cV,hq]at h;cases q<;>exact h
end
def aQk{a:Array Value}{P:Program}{f:FuncId}(h:BU P f a.size=true){k:Nat}(hk:BU P f k=true):a.size=k:=by
 unfold BU at h hk;split at h
 .rename_i fn hf;rw[hf]at hk;simp only[Nat.beq_eq]at h hk;omega
 .cases h
def aDq(w0:W0):aT9 w0 Tryz.prog 170 a8D bIG:=by
 intro call L args H H' r kr h;have hs:=aQk kr (k:=2) (by kernel_rfl)
 obtain⟨u0,u1,ha⟩: ∃u0 u1,args.toList=[u0,u1]:=by
  match hl:args.toList,(show args.toList.length=2 by simpa using hs)with
  |[u0,u1],_=>exact⟨u0,u1,rfl⟩
 rw[ha]at h;obtain⟨S1,H1,h1,h2⟩:=aBO h;obtain⟨x0,O0,e0,h1⟩:=C7 (o:=a6g 6 0) rfl h1;obtain⟨rfl,s,k0⟩:=aGq e0;obtain⟨x1,O1,e1,h1⟩:=C7 (o:=a6g 7 1) rfl h1;obtain⟨rfl,t,k1⟩:=aGq e1;have a0:u0= .string s:=k0;have a1:u1= .string t:=k1;subst a0 a1;obtain⟨x2,O2,e2,h1⟩:=C7 (o:=aNK 8 .eql) rfl h1;obtain⟨rfl,rfl⟩:=aNJ (s:=s) (t:=t) rfl rfl e2;obtain⟨x3,O3,e3,h1⟩:=C7 (o:=aNK 9 .lss) rfl h1;obtain⟨rfl,rfl⟩:=aNI (s:=s) (t:=t) rfl rfl e3;obtain⟨rfl,rfl⟩:=aOf h1;generalize hS:Slots.store _ (aNK 9 .lss).dst (.bool (Op.bytesLess s.toList t.toList))=S at h2;have c8:ev S (.tmp 8)= .bool (s.toList==t.toList):=by subst hS;rfl
 have c9:ev S (.tmp 9)= .bool (Op.bytesLess s.toList t.toList):=by subst hS;rfl
 have fin: ∀v,v=Lib.compareBytes s.toList t.toList->fQ Tryz.prog a8D (cV Tryz.prog call L (a6b v) S {H with next:=H.next+4})=some (r,H')->
      args.toList.all bQ=true/\(∃n,H.next<=n/\H'={H with next:=n})/\∃r',(∀Y,VR Y r r')/\∀w,Kept w0.toWorld w->Calls Tryz.prog 170 args w λe w'=>e= .returned r'/\Kept w w':=by
  rintro v hv h5;obtain⟨rfl,rfl⟩:=aWR h5;refine⟨by rw[ha];rfl,⟨_,by show H.next<=H.next+_+_;omega,rfl⟩,_,λY=> .same _ rfl,λw hK=>?_⟩
  have e:args= #[.string s,.string t]:=by rw[<-Array.toArray_toList (xs:=args),ha]
  rw[e,hv];exact(Tryz.strings_Compare s t w).mono λe w2 ⟨h1,h2⟩=>⟨by rw[h1,ByteArray.toList_eq,ByteArray.toList_eq],by rw[h2];exact Kept.refl _⟩
 have h3:=XW c8 h2;rw[HL]at fin;cases hq:(s.toList==t.toList)with
 |true=>rw[hq]at h3 fin;exact fin 0 rfl h3
 |false=>
  rw[hq]at h3 fin;have h4:=XW c9 h3;cases hl:Op.bytesLess s.toList t.toList with
  |true=>rw[hl]at h4 fin;exact fin (-1) rfl h4
  |false=>rw[hl]at h4 fin;exact fin 1 rfl h4
end Go.Rf
namespace Go.Rf
open Go.AI Go.Proofs Go.RowKit
def aGV(h:cdM.funcs.toList.all (kE Tryz.prog)=true)(w0:W0):zC w0 Tryz.prog cdM:=by
 intro g fn c h1 h2;have hk:kE Tryz.prog fn=true:=bJ.1 h _ (List.mem_of_getElem? (show cdM.funcs.toList[g]?=some fn by simpa using h1))
 rcases GI h1 with⟨rfl,rfl⟩|h3
 .right;have e:c=bIG:=by
   have:some bIG=some c:=h2;exact(Option.some.inj this).symm
  rw[e];exact aBM ⟨_,_,Tryz.func170,rfl,by kernel_rfl⟩ (aDq w0)
 .exact .inl ⟨h3,hk⟩
end Go.Rf
namespace Go.Rf
open Go.AI Go.Proofs
section
variable(call:FuncId->Array Value->St->Option (Value×St))(L:Nat)(H:St)
def Rp{P:Program}{id:Nat}{ops:Array Oper}{S S':Slots}{H H':St}(h:fZ P call ops H.next ops.toList 0 S {H with next:=H.next+ops.size}=some (S',H')):cV P call L (.region id ops false) S H=some (.normal,S',H'):=by
 rw[cV,iY,aJ,h];rfl
def IZ{P:Program}{a b:Code}{S S1:Slots}{H H1:St}(h:cV P call L a S H=some (.normal,S1,H1)):cV P call L (.seq a b) S H=cV P call L b S1 H1:=by
 rw[cV,h]
def a8B{P:Program}{a b:Code}{S S1:Slots}{H H1:St}(h:cV P call L a S H=some (.ret,S1,H1)):cV P call L (.seq a b) S H=some (.ret,S1,H1):=by
 rw[cV,h]
def aSu{P:Program}{x:Operand}{a b:Code}{S:Slots}{H:St}(h:ev S x= .bool true):cV P call L (.cond x a b) S H=cV P call L a S H:=by
 rw[cV,h]
def aSv{P:Program}{x:Operand}{a b:Code}{S:Slots}{H:St}(h:ev S x= .bool false):cV P call L (.cond x a b) S H=cV P call L b S H:=by
 rw[cV,h]
def bNd{S:Slots}{H:St}:fQ Tryz.prog Tryz.f160 (some (.ret,S,H))=some (S.at 2,H):=by kernel_rfl
def bNe{S:Slots}{H:St}:fQ Tryz.prog aSx (some (.ret,S,H))=some (S.at 2,H):=by kernel_rfl
noncomputable def kR(n:Nat):Code:=match Qa,n with
 | .seq a _,0=>a
 | .seq _ (.seq (.seq b _) _),1=>b
 | .seq _ (.seq (.seq _ (.cond _ (.seq c _) _)) _),_=>c
 |_,_=> .skip
noncomputable def kO(n:Nat):Array Oper:=match kR n with| .region _ o _=>o|_=> #[]
noncomputable def ko(n k:Nat):Oper:=(kO n).toList.getD k (NG none (.move (.tmp 0)) 0)
def a3Q:Qa= .seq (.region 0 (kO 0) false) (.seq (.seq (.region 1 (kO 1) false) (.cond (.tmp 4) (.seq (.region 2 (kO 2) false) .ret) .skip)) aP9):=by kernel_rfl
def aGW:DA Qa= .seq (.region 0 (kO 0) false) (.seq (.seq (.region 1 clO1 false) (.cond (.tmp 4) (.seq (.region 2 clO2 false) .ret) .skip)) aP9):=by kernel_rfl
def l0:(kO 0).toList=[ko 0 0]:=by kernel_rfl
def l1:(kO 1).toList=[ko 1 0,ko 1 1]:=by kernel_rfl
def l2:(kO 2).toList=[ko 2 0]:=by kernel_rfl
def n0:(kO 0).size=1:=by kernel_rfl
def n1:(kO 1).size=2:=by kernel_rfl
def n2:(kO 2).size=1:=by kernel_rfl
def aOU:(ko 0 0).guard=none:=by kernel_rfl
def g10:(ko 1 0).guard=none:=by kernel_rfl
def g11:(ko 1 1).guard=none:=by kernel_rfl
def g20:(ko 2 0).guard=none:=by kernel_rfl
def bOb:(ko 0 0).dst=some 2:=by kernel_rfl
def d10:(ko 1 0).dst=some 3:=by kernel_rfl
def d11:(ko 1 1).dst=some 4:=by kernel_rfl
def d20:(ko 2 0).dst=some 2:=by kernel_rfl
def Pm(w:Value):Slots:=Slots.store .nil (some 3) w
def aB3(w:Value):Slots:=Slots.store .nil (some 0) w
def bPa{S:Slots}{H:St}{b i:Nat}:mM Tryz.prog call b i (ko 0 0) S H=some (.slice none 0 0,H):=by kernel_rfl
def a20{S:Slots}{H:St}{b i:Nat}:mM Tryz.prog call b i (ko 2 0) S H=some (.slice none 0 0,H):=by kernel_rfl
def a10{S:Slots}{H:St}{b i:Nat}:mM Tryz.prog call b i (ko 1 0) S H=some (S.at 0,H):=by kernel_rfl
def a11{S:Slots}{H:St}{b i:Nat}:mM Tryz.prog call b i (ko 1 1) S H=mM Tryz.prog call b i (ko 1 1) (Pm (S.at 3)) H:=by kernel_rfl
def bO9{H:St}{b i:Nat}:mM Tryz.prog call b i (ko 1 1) (Pm (.slice none 0 0)) H=some (.bool true,H):=by kernel_rfl
def bO8{H:St}{b i n c:Nat}{a:Addr}:mM Tryz.prog call b i (ko 1 1) (Pm (.slice (some a) n c)) H=some (.bool false,H):=by kernel_rfl
def head{S:Slots}{u:Value}(hu:S.at 0=u){q:Bool}(hq: ∀(H:St) b i,mM Tryz.prog call b i (ko 1 1) (Pm u) H=some (.bool q,H)){fl:Fl}{r:Option (Fl×Slots×St)}
    (h:(bif q then cV Tryz.prog call L (.seq (.seq (.region 2 (kO 2) false) .ret) aP9) (((S.store (some 2) (.slice none 0 0)).store (some 3) u).store (some 4) (.bool q)) {H with next:=H.next+3}
      else cV Tryz.prog call L aP9 (((S.store (some 2) (.slice none 0 0)).store (some 3) u).store (some 4) (.bool q)) {H with next:=H.next+3})=r):
    cV Tryz.prog call L Qa S H=r:=by
 have h0:cV Tryz.prog call L (.region 0 (kO 0) false) S H=some (.normal,S.store (some 2) (.slice none 0 0),{H with next:=H.next+1}):=by
  refine Rp call L ?_;rw[l0,n0,dY call aOU (bPa call),bOb];rfl
 have h1:cV Tryz.prog call L (.region 1 (kO 1) false) (S.store (some 2) (.slice none 0 0)) {H with next:=H.next+1}=some (.normal,((S.store (some 2) (.slice none 0 0)).store (some 3) u).store (some 4) (.bool q),{H with next:=H.next+3}):=by
  refine Rp call L ?_;have e0:(S.store (some 2) (.slice none 0 0)).at 0=u:=by rw[Go.Rf.at_store,bH (by decide)];exact hu
  have e3:((S.store (some 2) (.slice none 0 0)).store (some 3) u).at 3=u:=by rw[Go.Rf.at_store,bI rfl]
  rw[l1,n1,dY call g10 (a10 call),e0,d10,dY call g11 (by rw[a11,e3];exact hq _ _ _),d11];rfl
 have e4:ev (((S.store (some 2) (.slice none 0 0)).store (some 3) u).store (some 4) (.bool q)) (.tmp 4)= .bool q:=by
  show Slots.at _ 4=_;rw[Go.Rf.at_store,bI rfl]
 rw[a3Q,IZ call L h0];subst h;cases q with
 |true=>
  rw[aI,cV,IZ call L h1,aSu call L e4]
  conv=>rhs;rw[cV]
 |false=>
  rw[aJ,cV,IZ call L h1,aSv call L e4,cV]
end
end Go.Rf
namespace Go.Rf
open Go.AI Go.Proofs
section
variable(call:FuncId->Array Value->St->Option (Value×St))(L:Nat)(H:St)
def bHV(x u:Value):Slots:=Slots.store (Slots.store .nil (some 5) x) (some 6) u
def a2{S:Slots}{H:St}{b i:Nat}:mM Tryz.prog call b i (CW 2) S H=mM Tryz.prog call b i (CW 2) (bHV (S.at 5) (S.at 6)) H:=by kernel_rfl
def a0{S:Slots}:mM Tryz.prog call (H.next+3) 0 (CW 0) S {H with next:=H.next+7}=some (.slice (some ⟨H.next+3,0,none⟩) 0 0,X5 H):=by kernel_rfl
def a1{S:Slots}{H:St}{b i:Nat}:mM Tryz.prog call b i (CW 1) S H=some (S.at 0,H):=by kernel_rfl
def a3{S:Slots}{H:St}{b i:Nat}:mM Tryz.prog call b i (CW 3) S H=some (S.at 7,H):=by kernel_rfl
def g0:(CW 0).guard=none:=by kernel_rfl
def g1:(CW 1).guard=none:=by kernel_rfl
def g2:(CW 2).guard=none:=by kernel_rfl
def g3:(CW 3).guard=none:=by kernel_rfl
def e0:(CW 0).dst=some 5:=by kernel_rfl
def e1:(CW 1).dst=some 6:=by kernel_rfl
def e2:(CW 2).dst=some 7:=by kernel_rfl
def e3:(CW 3).dst=some 2:=by kernel_rfl
def aT6{S:Slots}{u:Value}(hu:S.at 0=u){fn:Func}(fj: ∀(S:Slots) (H:St),fQ Tryz.prog fn (some (.ret,S,H))=some (S.at 2,H))(dg:fQ Tryz.prog fn none=none):
    fQ Tryz.prog fn (cV Tryz.prog call L aP9 S {H with next:=H.next+3})=mM Tryz.prog call (H.next+3) 2 (CW 2) (bHV (.slice (some ⟨H.next+3,0,none⟩) 0 0) u) (X5 H):=by
 have hr: ∀r,fZ Tryz.prog call clO3 (H.next+3) [CW 2,CW 3] 2 ((S.store (some 5) (.slice (some ⟨H.next+3,0,none⟩) 0 0)).store (some 6) u) (X5 H)=r->cV Tryz.prog call L (.region 3 clO3 false) S {H with next:=H.next+3}=r.map λx=>(.normal,x.1,x.2):=by
  intro r hr;have e:iY Tryz.prog call clO3 false S {H with next:=H.next+3}=r:=by
   rw[iY,aJ,aQa,aCg];refine(dY call g0 (a0 call H)).trans ?_;rw[e0];refine(dY call g1 (a1 call)).trans ?_;rw[e1,Go.Rf.at_store,bH (by decide),hu]
   exact hr
  rw[cV,e]
 have h56:mM Tryz.prog call (H.next+3) 2 (CW 2) ((S.store (some 5) (.slice (some ⟨H.next+3,0,none⟩) 0 0)).store (some 6) u) (X5 H)=mM Tryz.prog call (H.next+3) 2 (CW 2) (bHV (.slice (some ⟨H.next+3,0,none⟩) 0 0) u) (X5 H):=by
  rw[a2,Go.Rf.at_store,bH (by decide),Go.Rf.at_store,bI rfl,Go.Rf.at_store,bI rfl]
 rw[a3P];cases hX:mM Tryz.prog call (H.next+3) 2 (CW 2) (bHV (.slice (some ⟨H.next+3,0,none⟩) 0 0) u) (X5 H)with
 |none=>
  have:=hr none (zL call g2 (h56.trans hX));rw[cV,this];exact dg
 |some x=>
  obtain⟨v,H1⟩:=x;have h3:=(dY call (ops:=clO3) (rest:=[CW 3]) g2 (h56.trans hX));rw[e2]at h3;have:=hr _ (h3.trans (dY call g3 (a3 call)));rw[fZ,e3,Go.Rf.at_store,bI rfl]at this;rw[cV,this,aK];simp only[cV];rw[fj,Go.Rf.at_store,bI rfl]
def bQd(S:Slots)(H:St):fQ Tryz.prog Tryz.f160 (some (.ret,S,H))=some (S.at 2,H):=bNd
def bQe(S:Slots)(H:St):fQ Tryz.prog aSx (some (.ret,S,H))=some (S.at 2,H):=bNe
def a0I{S:Slots}(hu:S.at 0= .slice none 0 0):fQ Tryz.prog Tryz.f160 (cV Tryz.prog call L Qa S H)=some (.slice none 0 0,{H with next:=H.next+4}):=by
 rw[head call L H (fl:= .normal) hu (q:=true) (λ_ _ _=>bO9 call) rfl,aI]
 have h2: ∀T:Slots,cV Tryz.prog call L (.region 2 (kO 2) false) T {H with next:=H.next+3}=some (.normal,T.store (some 2) (.slice none 0 0),{H with next:=H.next+4}):=λT=>Rp call L (by
  rw[l2,n2,dY call g20 (a20 call),d20];rfl)
 have h3: ∀T:Slots,cV Tryz.prog call L (.seq (.region 2 (kO 2) false) .ret) T {H with next:=H.next+3}=some (.ret,T.store (some 2) (.slice none 0 0),{H with next:=H.next+4}):=λT=>(IZ call L (h2 T)).trans (by rw[cV])
 rw[a8B call L (h3 _),bQd,Go.Rf.at_store,bI rfl]
def bO4{S:Slots}{u x:Value}{q:Bool}(hu:S.at 0=u):(((S.store (some 2) (.slice none 0 0)).store (some 3) x).store (some 4) (.bool q)).at 0=u:=by
 rw[Go.Rf.at_store,bH (by decide),Go.Rf.at_store,bH (by decide),Go.Rf.at_store,bH (by decide)];exact hu
def Xo{S:Slots}{a:Addr}{n c:Nat}(hu:S.at 0= .slice (some a) n c):fQ Tryz.prog Tryz.f160 (cV Tryz.prog call L Qa S H)=
    mM Tryz.prog call (H.next+3) 2 (CW 2) (bHV (.slice (some ⟨H.next+3,0,none⟩) 0 0) (.slice (some a) n c)) (X5 H):=by
 rw[head call L H (fl:= .normal) hu (q:=false) (λ_ _ _=>bO8 call) rfl,aJ]
 exact aT6 call L H (bO4 hu) bQd rfl
def a0J{S:Slots}(hu:S.at 0=EG):fQ Tryz.prog Tryz.f160 (cV Tryz.prog call L Qa S H)=some (.slice (some ⟨H.next+3,0,none⟩) 0 0,X5 H):=
 (Xo call L H hu).trans (by kernel_rfl)
end
end Go.Rf
namespace Go.Rf
open Go.AI Go.Proofs
section
variable(call:FuncId->Array Value->St->Option (Value×St))(L:Nat)(H:St)
def k1(j:Nat):Oper:=clO1.toList.getD j (NG none (.move (.tmp 0)) 0)
def k2(j:Nat):Oper:=clO2.toList.getD j (NG none (.move (.tmp 0)) 0)
def bQR{S:Slots}{H:St}{b i:Nat}:mM Tryz.prog call b i (k1 0) S H=mM Tryz.prog call b i (k1 0) (aB3 (S.at 0)) H:=by kernel_rfl
def bHp{H:St}{b i n c:Nat}{a:Option Addr}:mM Tryz.prog call b i (k1 0) (aB3 (.slice a n c)) H=some (goInt (n:Int),H):=by kernel_rfl
def b11{S:Slots}{H:St}{b i:Nat}:mM Tryz.prog call b i (k1 1) S H=mM Tryz.prog call b i (k1 1) (Pm (S.at 3)) H:=by kernel_rfl
def bO1{H:St}{b i:Nat}:mM Tryz.prog call b i (k1 1) (Pm (goInt ((0:Nat):Int))) H=some (.bool true,H):=by kernel_rfl
def bO2{H:St}{b i n:Nat}:mM Tryz.prog call b i (k1 1) (Pm (goInt ((n+1:Nat):Int))) H=some (.bool false,H):=by kernel_rfl
def b20{S:Slots}:mM Tryz.prog call (H.next+3) 0 (k2 0) S {H with next:=H.next+7}=some (.slice (some ⟨H.next+3,0,none⟩) 0 0,X5 H):=by kernel_rfl
def b21{S:Slots}{H:St}{b i:Nat}:mM Tryz.prog call b i (k2 1) S H=mM Tryz.prog call b i (k2 1) (aB3 (S.at 0)) H:=by kernel_rfl
def bO0{H:St}{b i c:Nat}{a:Option Addr}:mM Tryz.prog call b i (k2 1) (aB3 (.slice a 0 c)) H=some (yA a,H):=by kernel_rfl
def b22{S:Slots}{H:St}{b i:Nat}:mM Tryz.prog call b i (k2 2) S H=some (S.at 0,H):=by kernel_rfl
def b23{S:Slots}{H:St}{b i:Nat}:mM Tryz.prog call b i (k2 3) S H=some (S.at 0,H):=by kernel_rfl
def aSj{S:Slots}{u w:Value}(hu:S.at 0=u)(hl: ∀(H:St) b i,mM Tryz.prog call b i (k1 0) (aB3 u) H=some (w,H)){q:Bool}(hq: ∀(H:St) b i,mM Tryz.prog call b i (k1 1) (Pm w) H=some (.bool q,H)):
    cV Tryz.prog call L (DA Qa) S H=(bif q then cV Tryz.prog call L (.seq (.seq (.region 2 clO2 false) .ret) aP9) (((S.store (some 2) (.slice none 0 0)).store (some 3) w).store (some 4) (.bool q)) {H with next:=H.next+3}
      else cV Tryz.prog call L aP9 (((S.store (some 2) (.slice none 0 0)).store (some 3) w).store (some 4) (.bool q)) {H with next:=H.next+3}):=by
 have h0:cV Tryz.prog call L (.region 0 (kO 0) false) S H=some (.normal,S.store (some 2) (.slice none 0 0),{H with next:=H.next+1}):=by
  refine Rp call L ?_;rw[l0,n0,dY call aOU (bPa call),bOb];rfl
 have h1:cV Tryz.prog call L (.region 1 clO1 false) (S.store (some 2) (.slice none 0 0)) {H with next:=H.next+1}=some (.normal,((S.store (some 2) (.slice none 0 0)).store (some 3) w).store (some 4) (.bool q),{H with next:=H.next+3}):=by
  refine Rp call L ?_;have e0:(S.store (some 2) (.slice none 0 0)).at 0=u:=by rw[Go.Rf.at_store,bH (by decide)];exact hu
  have e3:((S.store (some 2) (.slice none 0 0)).store (some 3) w).at 3=w:=by rw[Go.Rf.at_store,bI rfl]
  rw[show clO1.toList=[k1 0,k1 1] from rfl,show clO1.size=2 from rfl,dY call (show(k1 0).guard=none from rfl) (by rw[bQR,e0];exact hl _ _ _),show(k1 0).dst=some 3 from rfl,
   dY call (show(k1 1).guard=none from rfl) (by rw[b11,e3];exact hq _ _ _),show(k1 1).dst=some 4 from rfl];rfl
 have e4:ev (((S.store (some 2) (.slice none 0 0)).store (some 3) w).store (some 4) (.bool q)) (.tmp 4)= .bool q:=by
  show Slots.at _ 4=_;rw[Go.Rf.at_store,bI rfl]
 rw[aGW,IZ call L h0];cases q with
 |true=>
  rw[aI,cV,IZ call L h1,aSu call L e4]
  conv=>rhs;rw[cV]
 |false=>
  rw[aJ,cV,IZ call L h1,aSv call L e4,cV]
def aSi{S:Slots}{u:Value}(hu:S.at 0=u)(hl: ∀(H:St) b i,mM Tryz.prog call b i (k1 0) (aB3 u) H=none):cV Tryz.prog call L (DA Qa) S H=none:=by
 have h0:cV Tryz.prog call L (.region 0 (kO 0) false) S H=some (.normal,S.store (some 2) (.slice none 0 0),{H with next:=H.next+1}):=by
  refine Rp call L ?_;rw[l0,n0,dY call aOU (bPa call),bOb];rfl
 have e0:(S.store (some 2) (.slice none 0 0)).at 0=u:=by rw[Go.Rf.at_store,bH (by decide)];exact hu
 have h1:cV Tryz.prog call L (.region 1 clO1 false) (S.store (some 2) (.slice none 0 0)) {H with next:=H.next+1}=none:=by
  rw[cV,iY,aJ,show clO1.toList=[k1 0,k1 1] from rfl,zL call (show(k1 0).guard=none from rfl) (by rw[bQR,e0];exact hl _ _ _)];rfl
 rw[aGW,IZ call L h0,cV,cV,h1]
def aQc{S:Slots}{a:Option Addr}{c:Nat}(hu:S.at 0= .slice a 0 c):fQ Tryz.prog aSx (cV Tryz.prog call L (DA Qa) S H)=some (yA a,X5 H):=by
 rw[aSj call L H hu (λ_ _ _=>bHp call) (q:=true) (λ_ _ _=>bO1 call),aI]
 have h2: ∀T:Slots,T.at 0= .slice a 0 c->cV Tryz.prog call L (.region 2 clO2 false) T {H with next:=H.next+3}=some (.normal,(((T.store (some 5) (.slice (some ⟨H.next+3,0,none⟩) 0 0)).store (some 2) (yA a)).store (some 6) (.slice a 0 c)).store (some 6) (.slice a 0 c),X5 H):=λT hT=>Rp call L (by
  have q1:(T.store (some 5) (.slice (some ⟨H.next+3,0,none⟩) 0 0)).at 0= .slice a 0 c:=by rw[Go.Rf.at_store,bH (by decide)];exact hT
  have q2:((T.store (some 5) (.slice (some ⟨H.next+3,0,none⟩) 0 0)).store (some 2) (yA a)).at 0= .slice a 0 c:=by rw[Go.Rf.at_store,bH (by decide)];exact q1
  have q3:(((T.store (some 5) (.slice (some ⟨H.next+3,0,none⟩) 0 0)).store (some 2) (yA a)).store (some 6) (.slice a 0 c)).at 0= .slice a 0 c:=by rw[Go.Rf.at_store,bH (by decide)];exact q2
  rw[show clO2.toList=[k2 0,k2 1,k2 2,k2 3] from rfl,show clO2.size=4 from rfl]
  refine(dY call (show(k2 0).guard=none from rfl) (b20 call H)).trans ?_
  refine(dY call (H1:=X5 H) (v:=yA a) (show(k2 1).guard=none from rfl) ?_).trans ?_
  .rw[show(k2 0).dst=some 5 from rfl,b21,q1];exact bO0 call
  refine(dY call (H1:=X5 H) (v:= .slice a 0 c) (show(k2 2).guard=none from rfl) ?_).trans ?_
  .rw[show(k2 0).dst=some 5 from rfl,show(k2 1).dst=some 2 from rfl,b22,q2]
  refine(dY call (H1:=X5 H) (v:= .slice a 0 c) (show(k2 3).guard=none from rfl) ?_).trans ?_
  .rw[show(k2 0).dst=some 5 from rfl,show(k2 1).dst=some 2 from rfl,show(k2 2).dst=some 6 from rfl,b23,q3]
  rfl)
 rw[a8B call L ((IZ call L (h2 _ (bO4 hu))).trans (by rw[cV])),bQe,Go.Rf.at_store,bH (by decide),Go.Rf.at_store,bH (by decide),Go.Rf.at_store,bI rfl]
def aQd{S:Slots}{a:Addr}{n c:Nat}(hu:S.at 0= .slice (some a) (n+1) c):fQ Tryz.prog aSx (cV Tryz.prog call L (DA Qa) S H)=fQ Tryz.prog Tryz.f160 (cV Tryz.prog call L Qa S H):=by
 rw[Xo call L H hu,aSj call L H hu (λ_ _ _=>bHp call) (q:=false) (λ_ _ _=>bO2 call),aJ]
 exact aT6 call L H (bO4 hu) bQe rfl
end
end Go.Rf
namespace Go.Rf
open Go.AI Go.Proofs
def aGi(u:Value)(rest:List Value):(mW (u::rest) 0 .nil).at 0=u:=by
 rw[EE,bI ⟨aS _,by simp⟩];rfl
def a3k:(mW [] 0 .nil).at 0=undef:=rfl
def aCf(w0:W0):ZF w0 Tryz.prog 160 aSx (DA Qa):=by
 refine⟨⟨_,_,TZ,X4,by kernel_rfl⟩,?_⟩
 intro call L bj args args' H H' w Y r h ρ hargs _;have hc:=bj w0 rfl;have run:=λ{args2:Array Value} {H1 H2:St} {r2:Value} (h2:fQ Tryz.prog Tryz.f160 (cV Tryz.prog call L Qa (mW args2.toList 0 .nil) H1)=some (r2,H2)) (Z2:Sim w0 Tryz.prog Y H1 w) (ha:VRL Y args2.toList args'.toList)=>
  (A6 (P:=Tryz.prog) a1f TZ X4 aSw hc h2 Z2 ha).2
 cases hA:args.toList with
 |nil=>
  rw[hA,aSi call L H a3k (λ_ _ _=>by kernel_rfl)]at h
  exact absurd ((by kernel_rfl:none=fQ Tryz.prog aSx none).trans h) (λe=>by cases e)
 |cons u rest=>
  rw[hA]at h hargs;obtain⟨u',rest',hA',ru,rr⟩:=hargs.cons_inv;have hu:=aGi u rest;have cr: ∃a n c,u= .slice a n c:=by
   cases u with
   |slice a n c=>exact⟨a,n,c,rfl⟩
   |_=>
    rw[aSi call L H hu (λ_ _ _=>by kernel_rfl)]at h
    exact absurd ((by kernel_rfl:none=fQ Tryz.prog aSx none).trans h) (λe=>by cases e)
  obtain⟨a,n,c,rfl⟩:=cr;cases n with
  |zero=>
   rw[aQc call L H hu]at h;simp only[aA,aB]at h;obtain⟨rfl,rfl⟩:=h;cases a with
   |none=>
    obtain⟨_,rfl,rfl⟩:=ru.nilslc_inv;have Z2:Sim w0 Tryz.prog Y (({H with next:=H.next+3}:St).put (H.next+3) (.cells [] (eG 13))) w:=
     (ρ.next (by omega)).put_new (ρ.dom _ (by omega)) (λcs m g v e1 e2=>by cases e1;cases e2)
    have h2:=a0I call L (({H with next:=H.next+3}:St).put (H.next+3) (.cells [] (eG 13))) hu
    refine(run (args2:=args) (by rw[hA];exact h2) Z2 (by rw[hA];exact hargs)).mono ?_
    rintro e w' ⟨Y',r',he,hr,hZ,hE,hn⟩;refine⟨Y',r',he,hr,hZ,⟨hE.1,λid hi=>hE.2 id ?_⟩,?_⟩
    .show id<H.next+3;omega
    .show H.next<=H.next+7;omega
   |some a=>
    have pd: ∃a' cap,u'= .slice (some a') 0 cap:=by
     cases ru with
     |same _ h=>simp[bQ]at h
     |slc=>exact⟨_,_,rfl⟩
     |emp=>exact⟨_,_,rfl⟩
    obtain⟨a',cap,rfl⟩:=pd;have h2:=a0J call L H (aGi EG rest);refine(run (args2:=(EG::rest).toArray) (by simpa using h2) ρ (by rw[hA'];exact VRL.cons (x:=EG) (.emp a' 0 cap (λe=>by cases e)) rr)).mono ?_
    rintro e w' ⟨Y',r',he,hr,hZ,hE,hn⟩;obtain⟨p,ti,hp,rfl,fb,_⟩:=hr.slc_inv;obtain rfl:=fb rfl;exact⟨Y',_,he,.emp _ 1 0 (λ_=>rfl),hZ,hE,hn⟩
  |succ n=>
   cases a with
   |none=>exact absurd ru.nilslc_inv.1 (by simp)
   |some a=>
    rw[aQd call L H hu]at h;exact run (args2:=args) (by rw[hA];exact h) ρ (by rw[hA];exact hargs)
end Go.Rf
namespace Go.Rf
open Go.AI Go.Proofs Go.RowKit
set_option maxRecDepth 100000
def aDg{C:Program}{f g:FuncId}{fn nr:Func}(po: ¬g=f)(h:C.funcs[g]?=some nr):(B5 C f fn).funcs[g]?=some nr:=by
 have:(C.funcs.toList.set f fn)[g]?=some nr:=by
  rw[List.getElem?_set,bH (Ne.symm po)];simpa using h
 simpa [B5]using this
def a3S:cdM.funcs[160]?=Tryz.prog.funcs[160]?:=by
 unfold cdM;simp only[B5,List.getElem?_toArray,List.getElem?_set];simp
def a0L(h:cdX.funcs.toList.all (kE Tryz.prog)=true):cdM.funcs.toList.all (kE Tryz.prog)=true:=by
 refine bJ.2 λfn fj=>?_
 obtain⟨f,hf⟩:=List.mem_iff_getElem?.1 fj;have gh:cdM.funcs[f]?=some fn:=by simpa using hf
 by_cases e:f=160
 .subst e;rw[a3S,TZ]at gh;rw[<-Option.some.inj gh];exact aSw
 .have h1:cdX.funcs[f]?=some fn:=aDg e gh;exact bJ.1 h _ (List.mem_of_getElem? (show cdX.funcs.toList[f]?=some fn by simpa using h1))
def code_okX(h:cdX.funcs.toList.all (kE Tryz.prog)=true)(w0:W0):zC w0 Tryz.prog cdX:=
 aDf (aGV (a0L h) w0) rfl (aCf w0)
end Go.Rf
