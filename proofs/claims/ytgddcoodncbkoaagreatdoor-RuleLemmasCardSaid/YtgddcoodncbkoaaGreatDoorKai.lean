import Derived.Test.YtgddcoodncbkoaaGreatDoorKag
import Derived.Test.YtgddcoodncbkoaaGreatDoorKah
import Derived.Test.YtgddcoodncbkoaaGreatDoorKm
set_option linter.unusedVariables false
set_option linter.unusedSimpArgs false
set_option linter.constructorNameAsVariable false
set_option linter.defProp false
namespace Go.Rf
open Go.AI Go.Proofs
set_option maxRecDepth 100000
section
variable{call:FuncId->Array Value->St->Option (Value×St)}{L:Nat}
def str_no: ∀e,Tryz.prog.underlying 9≠some (.slice e):=λe h=>by rw[Tryz.underlying9]at h;cases h
def aAO{S:Slots}{H:St}{b i d k:Nat}{op:BinOp}{y:Operand}(ho:aW (mkO (some d) (.binOp op 9 (.tmp k) y 9) 4)= .pure):
    aop Tryz.prog call b i (mkO (some d) (.binOp op 9 (.tmp k) y 9) 4) S H=
    (bif aO (S.at k)&&aO (ev S y)then aY Tryz.prog (do eqGuard op 9 (.tmp k) y (S.at k) (ev S y);binOp op 9 (S.at k) (ev S y))else none).map λv=>(v,H):=by
 have h2:jN Tryz.prog (ev S) (mkO (some d) (.binOp op 9 (.tmp k) y 9) 4)=(bif aO (S.at k)&&aO (ev S y)then aY Tryz.prog (do eqGuard op 9 (.tmp k) y (S.at k) (ev S y);binOp op 9 (S.at k) (ev S y))
  else match Tryz.prog.underlying 9 with
   |some (.slice _)=>anil op (S.at k) (ev S y)
   |_=>none):=by rfl
 have h1:aop Tryz.prog call b i (mkO (some d) (.binOp op 9 (.tmp k) y 9) 4) S H=(qZ Tryz.prog H (ev S) (mkO (some d) (.binOp op 9 (.tmp k) y 9) 4)).map λv=>(v,H):=by
  unfold aop;rw[ho]
 rw[h1];congr 1;unfold qZ;rw[h2];cases aO (S.at k)&&aO (ev S y)with
 |true=>
  simp only[cdt];split
  ·rename_i v h;exact h.symm
  ·rename_i h;rw[h];rfl
 |false=>
  simp only[cdf];have:(match Tryz.prog.underlying 9 with
   |some (.slice _)=>anil op (S.at k) (ev S y)
   |_=>none)=none:=by
   split
   ·rename_i e h;exact absurd h (str_no e)
   ·rfl
  first|rfl|(rw[this];rfl)
def es_inv{S:Slots}{H H':St}{b i d k:Nat}{x:Value}(h:aop Tryz.prog call b i (esO d k) S H=some (x,H')):H'=H/\∃a,S.at k= .string a:=by
 rw[esO,aAO rfl,show ev S (.const (.string ⟨#[]⟩))= .string ⟨#[]⟩ from rfl]at h
 generalize S.at k=u at h⊢;cases hp:aO u with
 |false=>rw[hp]at h;cases h
 |true=>
  rw[hp,show aO (Value.string ⟨#[]⟩)=true from rfl,Bool.and_self,cdt]at h
  cases u with
  |string s=>
   have e2:aY Tryz.prog (do eqGuard .eql 9 (.tmp k) (.const (.string ⟨#[]⟩)) (.string s) (.string ⟨#[]⟩);binOp .eql 9 (.string s) (.string ⟨#[]⟩))=some (.bool (s.toList==(⟨#[]⟩:ByteArray).toList)):=by kernel_rfl
   rw[e2]at h;simp only[omS,ojE,pjE]at h;exact⟨h.2.symm,s,rfl⟩
  |_=>exact absurd ((by kernel_rfl:none=_).trans h) (λe=>by cases e)
def sbe_inv{S:Slots}{H H':St}{b i d:Nat}{x:Value}{s t:ByteArray}(hs:S.at 0= .string s)(ht:S.at 1= .string t)(h:aop Tryz.prog call b i (sbO d .eql) S H=some (x,H')):H'=H/\x= .bool (s.toList==t.toList):=by
 rw[sbO,aAO rfl,hs,show ev S (.tmp 1)=S.at 1 from rfl,ht,show(aO (.string s)&&aO (.string t))=true from rfl,cdt,e_eql]at h
 simp only[omS,ojE,pjE]at h;exact⟨h.2.symm,h.1.symm⟩
def sbl_inv{S:Slots}{H H':St}{b i d:Nat}{x:Value}{s t:ByteArray}(hs:S.at 0= .string s)(ht:S.at 1= .string t)(h:aop Tryz.prog call b i (sbO d .lss) S H=some (x,H')):H'=H/\x= .bool (Op.bytesLess s.toList t.toList):=by
 rw[sbO,aAO rfl,hs,show ev S (.tmp 1)=S.at 1 from rfl,ht,show(aO (.string s)&&aO (.string t))=true from rfl,cdt,e_lss]at h
 simp only[omS,ojE,pjE]at h;exact⟨h.2.symm,h.1.symm⟩
def sc_end{S:Slots}{H H':St}{r:Value}{v:Int}(h:dU Tryz.prog scF (bN Tryz.prog call L (scA v) S H)=some (r,H')):r= .int .i64 v/\H'={H with next:=H.next+1}:=by
 have e:dU Tryz.prog scF (bN Tryz.prog call L (scA v) S H)=some ((S.store (some 4) (.int .i64 v)).at 4,{H with next:=H.next+1}):=by kernel_rfl
 rw[e,Go.Rf.at_store,if_pos rfl]at h;simp only[ojE,pjE]at h;exact⟨h.1.symm,h.2.symm⟩
def aJM{P:Program}{id:Nat}{ops:Array Oper}{S:Slots}{H:St}{r:Value}{H':St}{rest:Code}{fn:Func}(h:dU P fn (bN P call L (.seq (.region id ops false) rest) S H)=some (r,H')):
    ∃S1 H1,dL P call ops H.next ops.toList 0 S {H with next:=H.next+ops.size}=some (S1,H1)/\dU P fn (bN P call L rest S1 H1)=some (r,H'):=by
 cases hx:bN P call L (.seq (.region id ops false) rest) S H with
 |none=>rw[hx]at h;cases h
 |some x=>
  obtain⟨fl,S',H1⟩:=x;obtain⟨S2,H2,h1,h2⟩:=rseq_inv hx;rw[hx]at h;exact⟨S2,H2,reg_ops h1,by rw[h2];exact h⟩
def aMr{P:Program}{fn:Func}{x:Operand}{a b:Code}{S:Slots}{H H':St}{r:Value}{q:Bool}(hq:ev S x= .bool q)(h:dU P fn (bN P call L (.cond x a b) S H)=some (r,H')):dU P fn (bN P call L (bif q then a else b) S H)=some (r,H'):=by
 rw[bN,hq]at h;cases q<;>exact h
end
def ar_size{a:Array Value}{P:Program}{f:FuncId}(h:aIs P f a.size=true){k:Nat}(hk:aIs P f k=true):a.size=k:=by
 unfold aIs at h hk;split at h
 ·rename_i fn hf;rw[hf]at hk;simp only[Nat.beq_eq]at h hk;omega
 ·cases h
def sc_known(w0:W0):Known w0 Tryz.prog 170 scF scT:=by
 intro call L args H H' r kj h;have hs:=ar_size kj (k:=2) (by kernel_rfl)
 obtain⟨u0,u1,ha⟩: ∃u0 u1,args.toList=[u0,u1]:=by
  match hl:args.toList,(show args.toList.length=2 by simpa using hs)with
  |[u0,u1],_=>exact⟨u0,u1,rfl⟩
 rw[ha]at h;obtain⟨S1,H1,h1,h2⟩:=aJM h;obtain⟨x0,O0,e0,h1⟩:=aAh (o:=esO 6 0) rfl h1;obtain⟨rfl,s,k0⟩:=es_inv e0;obtain⟨x1,O1,e1,h1⟩:=aAh (o:=esO 7 1) rfl h1;obtain⟨rfl,t,k1⟩:=es_inv e1;have a0:u0= .string s:=k0;have a1:u1= .string t:=k1;subst a0 a1;obtain⟨x2,O2,e2,h1⟩:=aAh (o:=sbO 8 .eql) rfl h1;obtain⟨rfl,rfl⟩:=sbe_inv (s:=s) (t:=t) rfl rfl e2;obtain⟨x3,O3,e3,h1⟩:=aAh (o:=sbO 9 .lss) rfl h1;obtain⟨rfl,rfl⟩:=sbl_inv (s:=s) (t:=t) rfl rfl e3;obtain⟨rfl,rfl⟩:=ops_end h1;generalize hS:Slots.store _ (sbO 9 .lss).dst (.bool (Op.bytesLess s.toList t.toList))=S at h2;have c8:ev S (.tmp 8)= .bool (s.toList==t.toList):=by subst hS;rfl
 have c9:ev S (.tmp 9)= .bool (Op.bytesLess s.toList t.toList):=by subst hS;rfl
 have fin: ∀v,v=Lib.compareBytes s.toList t.toList->dU Tryz.prog scF (bN Tryz.prog call L (scA v) S {H with next:=H.next+4})=some (r,H')->
      args.toList.all aE=true/\(∃n,H.next<=n/\H'={H with next:=n})/\∃r',(∀Y,VR Y r r')/\∀w,Kept w0.toWorld w->Calls Tryz.prog 170 args w λe w'=>e= .returned r'/\Kept w w':=by
  rintro v hv h5;obtain⟨rfl,rfl⟩:=sc_end h5;refine⟨by rw[ha];rfl,⟨_,by show H.next<=H.next+_+_;omega,rfl⟩,_,λY=> .same _ rfl,λw hK=>?_⟩
  have e:args= #[.string s,.string t]:=by rw[<-Array.toArray_toList (xs:=args),ha]
  rw[e,hv];exact(Tryz.strings_Compare s t w).mono λe w2 ⟨h1,h2⟩=>⟨by rw[h1,ByteArray.toList_eq,ByteArray.toList_eq],by rw[h2];exact Kept.refl _⟩
 have h3:=aMr c8 h2;rw[aCg]at fin;cases hq:(s.toList==t.toList)with
 |true=>rw[hq]at h3 fin;exact fin 0 rfl h3
 |false=>
  rw[hq]at h3 fin;have h4:=aMr c9 h3;cases hl:Op.bytesLess s.toList t.toList with
  |true=>rw[hl]at h4 fin;exact fin (-1) rfl h4
  |false=>rw[hl]at h4 fin;exact fin 1 rfl h4
end Go.Rf
namespace Go.Rf
open Go.AI Go.Proofs Go.RowKit
def code_okM(h:cdM.funcs.toList.all (gK Tryz.prog)=true)(w0:W0):vC w0 Tryz.prog cdM:=by
 intro g fn c h1 h2;have hk:gK Tryz.prog fn=true:=List.all_eq_true.1 h _ (List.mem_of_getElem? (show cdM.funcs.toList[g]?=some fn by simpa using h1))
 rcases aBb h1 with⟨rfl,rfl⟩|h3
 ·right;have e:c=scT:=by
   have:some scT=some c:=h2;exact(Option.some.inj this).symm
  rw[e];exact aJI ⟨_,_,Tryz.func170,rfl,by kernel_rfl⟩ (sc_known w0)
 ·exact .inl ⟨h3,hk⟩
end Go.Rf
namespace Go.Rf
open Go.AI Go.Proofs
section
variable(call:FuncId->Array Value->St->Option (Value×St))(L:Nat)(H:St)
def regN{P:Program}{id:Nat}{ops:Array Oper}{S S':Slots}{H H':St}(h:dL P call ops H.next ops.toList 0 S {H with next:=H.next+ops.size}=some (S',H')):bN P call L (.region id ops false) S H=some (.normal,S',H'):=by
 rw[bN,eH,cdf,h];rfl
def seqN{P:Program}{a b:Code}{S S1:Slots}{H H1:St}(h:bN P call L a S H=some (.normal,S1,H1)):bN P call L (.seq a b) S H=bN P call L b S1 H1:=by
 rw[bN,h]
def seqR{P:Program}{a b:Code}{S S1:Slots}{H H1:St}(h:bN P call L a S H=some (.ret,S1,H1)):bN P call L (.seq a b) S H=some (.ret,S1,H1):=by
 rw[bN,h]
def condT{P:Program}{x:Operand}{a b:Code}{S:Slots}{H:St}(h:ev S x= .bool true):bN P call L (.cond x a b) S H=bN P call L a S H:=by
 rw[bN,h]
def condF{P:Program}{x:Operand}{a b:Code}{S:Slots}{H:St}(h:ev S x= .bool false):bN P call L (.cond x a b) S H=bN P call L b S H:=by
 rw[bN,h]
def endR{S:Slots}{H:St}:dU Tryz.prog Tryz.f160 (some (.ret,S,H))=some (S.at 2,H):=by kernel_rfl
def endC{S:Slots}{H:St}:dU Tryz.prog clF (some (.ret,S,H))=some (S.at 2,H):=by kernel_rfl
noncomputable def kR(n:Nat):Code:=match clB,n with
 | .seq a _,0=>a
 | .seq _ (.seq (.seq b _) _),1=>b
 | .seq _ (.seq (.seq _ (.cond _ (.seq c _) _)) _),_=>c
 |_,_=> .skip
noncomputable def kO(n:Nat):Array Oper:=match kR n with| .region _ o _=>o|_=> #[]
noncomputable def ko(n k:Nat):Oper:=(kO n).toList.getD k (mkO none (.move (.tmp 0)) 0)
def clB_eq:clB= .seq (.region 0 (kO 0) false) (.seq (.seq (.region 1 (kO 1) false) (.cond (.tmp 4) (.seq (.region 2 (kO 2) false) .ret) .skip)) clR):=by kernel_rfl
def clC_eq:aC5 clB= .seq (.region 0 (kO 0) false) (.seq (.seq (.region 1 clO1 false) (.cond (.tmp 4) (.seq (.region 2 clO2 false) .ret) .skip)) clR):=by kernel_rfl
def l0:(kO 0).toList=[ko 0 0]:=by kernel_rfl
def l1:(kO 1).toList=[ko 1 0,ko 1 1]:=by kernel_rfl
def l2:(kO 2).toList=[ko 2 0]:=by kernel_rfl
def n0:(kO 0).size=1:=by kernel_rfl
def n1:(kO 1).size=2:=by kernel_rfl
def n2:(kO 2).size=1:=by kernel_rfl
def g00:(ko 0 0).guard=none:=by kernel_rfl
def g10:(ko 1 0).guard=none:=by kernel_rfl
def g11:(ko 1 1).guard=none:=by kernel_rfl
def g20:(ko 2 0).guard=none:=by kernel_rfl
def d00:(ko 0 0).dst=some 2:=by kernel_rfl
def d10:(ko 1 0).dst=some 3:=by kernel_rfl
def d11:(ko 1 1).dst=some 4:=by kernel_rfl
def d20:(ko 2 0).dst=some 2:=by kernel_rfl
def one3(w:Value):Slots:=Slots.store .nil (some 3) w
def one0(w:Value):Slots:=Slots.store .nil (some 0) w
def a00{S:Slots}{H:St}{b i:Nat}:aop Tryz.prog call b i (ko 0 0) S H=some (.slice none 0 0,H):=by kernel_rfl
def a20{S:Slots}{H:St}{b i:Nat}:aop Tryz.prog call b i (ko 2 0) S H=some (.slice none 0 0,H):=by kernel_rfl
def a10{S:Slots}{H:St}{b i:Nat}:aop Tryz.prog call b i (ko 1 0) S H=some (S.at 0,H):=by kernel_rfl
def a11{S:Slots}{H:St}{b i:Nat}:aop Tryz.prog call b i (ko 1 1) S H=aop Tryz.prog call b i (ko 1 1) (one3 (S.at 3)) H:=by kernel_rfl
def a11n{H:St}{b i:Nat}:aop Tryz.prog call b i (ko 1 1) (one3 (.slice none 0 0)) H=some (.bool true,H):=by kernel_rfl
def a11s{H:St}{b i n c:Nat}{a:Addr}:aop Tryz.prog call b i (ko 1 1) (one3 (.slice (some a) n c)) H=some (.bool false,H):=by kernel_rfl
def head{S:Slots}{u:Value}(hu:S.at 0=u){q:Bool}(hq: ∀(H:St) b i,aop Tryz.prog call b i (ko 1 1) (one3 u) H=some (.bool q,H)){fl:Fl}{r:Option (Fl×Slots×St)}
    (h:(bif q then bN Tryz.prog call L (.seq (.seq (.region 2 (kO 2) false) .ret) clR) (((S.store (some 2) (.slice none 0 0)).store (some 3) u).store (some 4) (.bool q)) {H with next:=H.next+3}
      else bN Tryz.prog call L clR (((S.store (some 2) (.slice none 0 0)).store (some 3) u).store (some 4) (.bool q)) {H with next:=H.next+3})=r):
    bN Tryz.prog call L clB S H=r:=by
 have h0:bN Tryz.prog call L (.region 0 (kO 0) false) S H=some (.normal,S.store (some 2) (.slice none 0 0),{H with next:=H.next+1}):=by
  refine regN call L ?_;rw[l0,n0,bB call g00 (a00 call),d00];rfl
 have h1:bN Tryz.prog call L (.region 1 (kO 1) false) (S.store (some 2) (.slice none 0 0)) {H with next:=H.next+1}=some (.normal,((S.store (some 2) (.slice none 0 0)).store (some 3) u).store (some 4) (.bool q),{H with next:=H.next+3}):=by
  refine regN call L ?_;have e0:(S.store (some 2) (.slice none 0 0)).at 0=u:=by rw[Go.Rf.at_store,if_neg (by decide)];exact hu
  have e3:((S.store (some 2) (.slice none 0 0)).store (some 3) u).at 3=u:=by rw[Go.Rf.at_store,if_pos rfl]
  rw[l1,n1,bB call g10 (a10 call),e0,d10,bB call g11 (by rw[a11,e3];exact hq _ _ _),d11];rfl
 have e4:ev (((S.store (some 2) (.slice none 0 0)).store (some 3) u).store (some 4) (.bool q)) (.tmp 4)= .bool q:=by
  show Slots.at _ 4=_;rw[Go.Rf.at_store,if_pos rfl]
 rw[clB_eq,seqN call L h0];subst h;cases q with
 |true=>
  rw[cdt,bN,seqN call L h1,condT call L e4]
  conv=>rhs;rw[bN]
 |false=>
  rw[cdf,bN,seqN call L h1,condF call L e4,bN]
end
end Go.Rf
namespace Go.Rf
open Go.AI Go.Proofs
section
variable(call:FuncId->Array Value->St->Option (Value×St))(L:Nat)(H:St)
def S56(x u:Value):Slots:=Slots.store (Slots.store .nil (some 5) x) (some 6) u
def a2{S:Slots}{H:St}{b i:Nat}:aop Tryz.prog call b i (clo 2) S H=aop Tryz.prog call b i (clo 2) (S56 (S.at 5) (S.at 6)) H:=by kernel_rfl
def a0{S:Slots}:aop Tryz.prog call (H.next+3) 0 (clo 0) S {H with next:=H.next+7}=some (.slice (some ⟨H.next+3,0,none⟩) 0 0,clS H):=by kernel_rfl
def a1{S:Slots}{H:St}{b i:Nat}:aop Tryz.prog call b i (clo 1) S H=some (S.at 0,H):=by kernel_rfl
def a3{S:Slots}{H:St}{b i:Nat}:aop Tryz.prog call b i (clo 3) S H=some (S.at 7,H):=by kernel_rfl
def g0:(clo 0).guard=none:=by kernel_rfl
def g1:(clo 1).guard=none:=by kernel_rfl
def g2:(clo 2).guard=none:=by kernel_rfl
def g3:(clo 3).guard=none:=by kernel_rfl
def e0:(clo 0).dst=some 5:=by kernel_rfl
def e1:(clo 1).dst=some 6:=by kernel_rfl
def e2:(clo 2).dst=some 7:=by kernel_rfl
def e3:(clo 3).dst=some 2:=by kernel_rfl
def R_eqS{S:Slots}{u:Value}(hu:S.at 0=u){fn:Func}(fi: ∀(S:Slots) (H:St),dU Tryz.prog fn (some (.ret,S,H))=some (S.at 2,H))(de:dU Tryz.prog fn none=none):
    dU Tryz.prog fn (bN Tryz.prog call L clR S {H with next:=H.next+3})=aop Tryz.prog call (H.next+3) 2 (clo 2) (S56 (.slice (some ⟨H.next+3,0,none⟩) 0 0) u) (clS H):=by
 have hr: ∀r,dL Tryz.prog call clO3 (H.next+3) [clo 2,clo 3] 2 ((S.store (some 5) (.slice (some ⟨H.next+3,0,none⟩) 0 0)).store (some 6) u) (clS H)=r->bN Tryz.prog call L (.region 3 clO3 false) S {H with next:=H.next+3}=r.map λx=>(.normal,x.1,x.2):=by
  intro r hr;have e:eH Tryz.prog call clO3 false S {H with next:=H.next+3}=r:=by
   rw[eH,cdf,clO3_eq,aMy];refine(bB call g0 (a0 call H)).trans ?_;rw[e0];refine(bB call g1 (a1 call)).trans ?_;rw[e1,Go.Rf.at_store,if_neg (by decide),hu]
   exact hr
  rw[bN,e]
 have h56:aop Tryz.prog call (H.next+3) 2 (clo 2) ((S.store (some 5) (.slice (some ⟨H.next+3,0,none⟩) 0 0)).store (some 6) u) (clS H)=aop Tryz.prog call (H.next+3) 2 (clo 2) (S56 (.slice (some ⟨H.next+3,0,none⟩) 0 0) u) (clS H):=by
  rw[a2,Go.Rf.at_store,if_neg (by decide),Go.Rf.at_store,if_pos rfl,Go.Rf.at_store,if_pos rfl]
 rw[clR_eq];cases hX:aop Tryz.prog call (H.next+3) 2 (clo 2) (S56 (.slice (some ⟨H.next+3,0,none⟩) 0 0) u) (clS H)with
 |none=>
  have:=hr none (qQ call g2 (h56.trans hX));rw[bN,this];exact de
 |some x=>
  obtain⟨v,H1⟩:=x;have h3:=(bB call (ops:=clO3) (rest:=[clo 3]) g2 (h56.trans hX));rw[e2]at h3;have:=hr _ (h3.trans (bB call g3 (a3 call)));rw[dL,e3,Go.Rf.at_store,if_pos rfl]at this;rw[bN,this,omS];simp only[bN];rw[fi,Go.Rf.at_store,if_pos rfl]
def fnP(S:Slots)(H:St):dU Tryz.prog Tryz.f160 (some (.ret,S,H))=some (S.at 2,H):=endR
def fnC(S:Slots)(H:St):dU Tryz.prog clF (some (.ret,S,H))=some (S.at 2,H):=endC
def p_nilS{S:Slots}(hu:S.at 0= .slice none 0 0):dU Tryz.prog Tryz.f160 (bN Tryz.prog call L clB S H)=some (.slice none 0 0,{H with next:=H.next+4}):=by
 rw[head call L H (fl:= .normal) hu (q:=true) (λ_ _ _=>a11n call) rfl,cdt]
 have h2: ∀T:Slots,bN Tryz.prog call L (.region 2 (kO 2) false) T {H with next:=H.next+3}=some (.normal,T.store (some 2) (.slice none 0 0),{H with next:=H.next+4}):=λT=>regN call L (by
  rw[l2,n2,bB call g20 (a20 call),d20];rfl)
 have h3: ∀T:Slots,bN Tryz.prog call L (.seq (.region 2 (kO 2) false) .ret) T {H with next:=H.next+3}=some (.ret,T.store (some 2) (.slice none 0 0),{H with next:=H.next+4}):=λT=>(seqN call L (h2 T)).trans (by rw[bN])
 rw[seqR call L (h3 _),fnP,Go.Rf.at_store,if_pos rfl]
def at0{S:Slots}{u x:Value}{q:Bool}(hu:S.at 0=u):(((S.store (some 2) (.slice none 0 0)).store (some 3) x).store (some 4) (.bool q)).at 0=u:=by
 rw[Go.Rf.at_store,if_neg (by decide),Go.Rf.at_store,if_neg (by decide),Go.Rf.at_store,if_neg (by decide)];exact hu
def aKu{S:Slots}{a:Addr}{n c:Nat}(hu:S.at 0= .slice (some a) n c):dU Tryz.prog Tryz.f160 (bN Tryz.prog call L clB S H)=
    aop Tryz.prog call (H.next+3) 2 (clo 2) (S56 (.slice (some ⟨H.next+3,0,none⟩) 0 0) (.slice (some a) n c)) (clS H):=by
 rw[head call L H (fl:= .normal) hu (q:=false) (λ_ _ _=>a11s call) rfl,cdf]
 exact R_eqS call L H (at0 hu) fnP rfl
def p_empS{S:Slots}(hu:S.at 0=aBU):dU Tryz.prog Tryz.f160 (bN Tryz.prog call L clB S H)=some (.slice (some ⟨H.next+3,0,none⟩) 0 0,clS H):=
 (aKu call L H hu).trans (by kernel_rfl)
end
end Go.Rf
namespace Go.Rf
open Go.AI Go.Proofs
section
variable(call:FuncId->Array Value->St->Option (Value×St))(L:Nat)(H:St)
def k1(j:Nat):Oper:=clO1.toList.getD j (mkO none (.move (.tmp 0)) 0)
def k2(j:Nat):Oper:=clO2.toList.getD j (mkO none (.move (.tmp 0)) 0)
def b10{S:Slots}{H:St}{b i:Nat}:aop Tryz.prog call b i (k1 0) S H=aop Tryz.prog call b i (k1 0) (one0 (S.at 0)) H:=by kernel_rfl
def b10s{H:St}{b i n c:Nat}{a:Option Addr}:aop Tryz.prog call b i (k1 0) (one0 (.slice a n c)) H=some (goInt (n:Int),H):=by kernel_rfl
def b11{S:Slots}{H:St}{b i:Nat}:aop Tryz.prog call b i (k1 1) S H=aop Tryz.prog call b i (k1 1) (one3 (S.at 3)) H:=by kernel_rfl
def b11t{H:St}{b i:Nat}:aop Tryz.prog call b i (k1 1) (one3 (goInt ((0:Nat):Int))) H=some (.bool true,H):=by kernel_rfl
def b11f{H:St}{b i n:Nat}:aop Tryz.prog call b i (k1 1) (one3 (goInt ((n+1:Nat):Int))) H=some (.bool false,H):=by kernel_rfl
def b20{S:Slots}:aop Tryz.prog call (H.next+3) 0 (k2 0) S {H with next:=H.next+7}=some (.slice (some ⟨H.next+3,0,none⟩) 0 0,clS H):=by kernel_rfl
def b21{S:Slots}{H:St}{b i:Nat}:aop Tryz.prog call b i (k2 1) S H=aop Tryz.prog call b i (k2 1) (one0 (S.at 0)) H:=by kernel_rfl
def b21z{H:St}{b i c:Nat}{a:Option Addr}:aop Tryz.prog call b i (k2 1) (one0 (.slice a 0 c)) H=some (sT a,H):=by kernel_rfl
def b22{S:Slots}{H:St}{b i:Nat}:aop Tryz.prog call b i (k2 2) S H=some (S.at 0,H):=by kernel_rfl
def b23{S:Slots}{H:St}{b i:Nat}:aop Tryz.prog call b i (k2 3) S H=some (S.at 0,H):=by kernel_rfl
def headC{S:Slots}{u w:Value}(hu:S.at 0=u)(hl: ∀(H:St) b i,aop Tryz.prog call b i (k1 0) (one0 u) H=some (w,H)){q:Bool}(hq: ∀(H:St) b i,aop Tryz.prog call b i (k1 1) (one3 w) H=some (.bool q,H)):
    bN Tryz.prog call L (aC5 clB) S H=(bif q then bN Tryz.prog call L (.seq (.seq (.region 2 clO2 false) .ret) clR) (((S.store (some 2) (.slice none 0 0)).store (some 3) w).store (some 4) (.bool q)) {H with next:=H.next+3}
      else bN Tryz.prog call L clR (((S.store (some 2) (.slice none 0 0)).store (some 3) w).store (some 4) (.bool q)) {H with next:=H.next+3}):=by
 have h0:bN Tryz.prog call L (.region 0 (kO 0) false) S H=some (.normal,S.store (some 2) (.slice none 0 0),{H with next:=H.next+1}):=by
  refine regN call L ?_;rw[l0,n0,bB call g00 (a00 call),d00];rfl
 have h1:bN Tryz.prog call L (.region 1 clO1 false) (S.store (some 2) (.slice none 0 0)) {H with next:=H.next+1}=some (.normal,((S.store (some 2) (.slice none 0 0)).store (some 3) w).store (some 4) (.bool q),{H with next:=H.next+3}):=by
  refine regN call L ?_;have e0:(S.store (some 2) (.slice none 0 0)).at 0=u:=by rw[Go.Rf.at_store,if_neg (by decide)];exact hu
  have e3:((S.store (some 2) (.slice none 0 0)).store (some 3) w).at 3=w:=by rw[Go.Rf.at_store,if_pos rfl]
  rw[show clO1.toList=[k1 0,k1 1] from rfl,show clO1.size=2 from rfl,bB call (show(k1 0).guard=none from rfl) (by rw[b10,e0];exact hl _ _ _),show(k1 0).dst=some 3 from rfl,
   bB call (show(k1 1).guard=none from rfl) (by rw[b11,e3];exact hq _ _ _),show(k1 1).dst=some 4 from rfl];rfl
 have e4:ev (((S.store (some 2) (.slice none 0 0)).store (some 3) w).store (some 4) (.bool q)) (.tmp 4)= .bool q:=by
  show Slots.at _ 4=_;rw[Go.Rf.at_store,if_pos rfl]
 rw[clC_eq,seqN call L h0];cases q with
 |true=>
  rw[cdt,bN,seqN call L h1,condT call L e4]
  conv=>rhs;rw[bN]
 |false=>
  rw[cdf,bN,seqN call L h1,condF call L e4,bN]
def headN{S:Slots}{u:Value}(hu:S.at 0=u)(hl: ∀(H:St) b i,aop Tryz.prog call b i (k1 0) (one0 u) H=none):bN Tryz.prog call L (aC5 clB) S H=none:=by
 have h0:bN Tryz.prog call L (.region 0 (kO 0) false) S H=some (.normal,S.store (some 2) (.slice none 0 0),{H with next:=H.next+1}):=by
  refine regN call L ?_;rw[l0,n0,bB call g00 (a00 call),d00];rfl
 have e0:(S.store (some 2) (.slice none 0 0)).at 0=u:=by rw[Go.Rf.at_store,if_neg (by decide)];exact hu
 have h1:bN Tryz.prog call L (.region 1 clO1 false) (S.store (some 2) (.slice none 0 0)) {H with next:=H.next+1}=none:=by
  rw[bN,eH,cdf,show clO1.toList=[k1 0,k1 1] from rfl,qQ call (show(k1 0).guard=none from rfl) (by rw[b10,e0];exact hl _ _ _)];rfl
 rw[clC_eq,seqN call L h0,bN,bN,h1]
def c_zeroS{S:Slots}{a:Option Addr}{c:Nat}(hu:S.at 0= .slice a 0 c):dU Tryz.prog clF (bN Tryz.prog call L (aC5 clB) S H)=some (sT a,clS H):=by
 rw[headC call L H hu (λ_ _ _=>b10s call) (q:=true) (λ_ _ _=>b11t call),cdt]
 have h2: ∀T:Slots,T.at 0= .slice a 0 c->bN Tryz.prog call L (.region 2 clO2 false) T {H with next:=H.next+3}=some (.normal,(((T.store (some 5) (.slice (some ⟨H.next+3,0,none⟩) 0 0)).store (some 2) (sT a)).store (some 6) (.slice a 0 c)).store (some 6) (.slice a 0 c),clS H):=λT hT=>regN call L (by
  have q1:(T.store (some 5) (.slice (some ⟨H.next+3,0,none⟩) 0 0)).at 0= .slice a 0 c:=by rw[Go.Rf.at_store,if_neg (by decide)];exact hT
  have q2:((T.store (some 5) (.slice (some ⟨H.next+3,0,none⟩) 0 0)).store (some 2) (sT a)).at 0= .slice a 0 c:=by rw[Go.Rf.at_store,if_neg (by decide)];exact q1
  have q3:(((T.store (some 5) (.slice (some ⟨H.next+3,0,none⟩) 0 0)).store (some 2) (sT a)).store (some 6) (.slice a 0 c)).at 0= .slice a 0 c:=by rw[Go.Rf.at_store,if_neg (by decide)];exact q2
  rw[show clO2.toList=[k2 0,k2 1,k2 2,k2 3] from rfl,show clO2.size=4 from rfl]
  refine(bB call (show(k2 0).guard=none from rfl) (b20 call H)).trans ?_
  refine(bB call (H1:=clS H) (v:=sT a) (show(k2 1).guard=none from rfl) ?_).trans ?_
  ·rw[show(k2 0).dst=some 5 from rfl,b21,q1];exact b21z call
  refine(bB call (H1:=clS H) (v:= .slice a 0 c) (show(k2 2).guard=none from rfl) ?_).trans ?_
  ·rw[show(k2 0).dst=some 5 from rfl,show(k2 1).dst=some 2 from rfl,b22,q2]
  refine(bB call (H1:=clS H) (v:= .slice a 0 c) (show(k2 3).guard=none from rfl) ?_).trans ?_
  ·rw[show(k2 0).dst=some 5 from rfl,show(k2 1).dst=some 2 from rfl,show(k2 2).dst=some 6 from rfl,b23,q3]
  rfl)
 rw[seqR call L ((seqN call L (h2 _ (at0 hu))).trans (by rw[bN])),fnC,Go.Rf.at_store,if_neg (by decide),Go.Rf.at_store,if_neg (by decide),Go.Rf.at_store,if_pos rfl]
def c_consS{S:Slots}{a:Addr}{n c:Nat}(hu:S.at 0= .slice (some a) (n+1) c):dU Tryz.prog clF (bN Tryz.prog call L (aC5 clB) S H)=dU Tryz.prog Tryz.f160 (bN Tryz.prog call L clB S H):=by
 rw[aKu call L H hu,headC call L H hu (λ_ _ _=>b10s call) (q:=false) (λ_ _ _=>b11f call),cdf]
 exact R_eqS call L H (at0 hu) fnC rfl
end
end Go.Rf
namespace Go.Rf
open Go.AI Go.Proofs
def fill_0(u:Value)(rest:List Value):(kQ (u::rest) 0 .nil).at 0=u:=by
 rw[aAE,if_pos ⟨nlR _,by simp⟩];rfl
def fill_n:(kQ [] 0 .nil).at 0=undef:=rfl
def aMv(w0:W0):RepOK w0 Tryz.prog 160 clF (aC5 clB):=by
 refine⟨⟨_,_,aMw,aMx,by kernel_rfl⟩,?_⟩
 intro call L bj args args' H H' w Y r h ρ hargs _;have hc:=bj w0 rfl;have run:=λ{args2:Array Value} {H1 H2:St} {r2:Value} (h2:dU Tryz.prog Tryz.f160 (bN Tryz.prog call L clB (kQ args2.toList 0 .nil) H1)=some (r2,H2)) (Z2:Sim w0 Tryz.prog Y H1 w) (ha:VRL Y args2.toList args'.toList)=>
  (sH (P:=Tryz.prog) mixed_ aMw aMx cl_ok hc h2 Z2 ha).2
 cases hA:args.toList with
 |nil=>
  rw[hA,headN call L H fill_n (λ_ _ _=>by kernel_rfl)]at h
  exact absurd ((by kernel_rfl:none=dU Tryz.prog clF none).trans h) (λe=>by cases e)
 |cons u rest=>
  rw[hA]at h hargs;obtain⟨u',rest',hA',ru,rr⟩:=hargs.cons_inv;have hu:=fill_0 u rest;have cr: ∃a n c,u= .slice a n c:=by
   cases u with
   |slice a n c=>exact⟨a,n,c,rfl⟩
   |_=>
    rw[headN call L H hu (λ_ _ _=>by kernel_rfl)]at h
    exact absurd ((by kernel_rfl:none=dU Tryz.prog clF none).trans h) (λe=>by cases e)
  obtain⟨a,n,c,rfl⟩:=cr;cases n with
  |zero=>
   rw[c_zeroS call L H hu]at h;simp only[ojE,pjE]at h;obtain⟨rfl,rfl⟩:=h;cases a with
   |none=>
    obtain⟨_,rfl,rfl⟩:=ru.nilslc_inv;have Z2:Sim w0 Tryz.prog Y (({H with next:=H.next+3}:St).put (H.next+3) (.cells [] (bO 13))) w:=
     (ρ.next (by omega)).put_new (ρ.dom _ (by omega)) (λcs m g v e1 e2=>by cases e1;cases e2)
    have h2:=p_nilS call L (({H with next:=H.next+3}:St).put (H.next+3) (.cells [] (bO 13))) hu
    refine(run (args2:=args) (by rw[hA];exact h2) Z2 (by rw[hA];exact hargs)).mono ?_
    rintro e w' ⟨Y',r',he,hr,hZ,hE,hn⟩;refine⟨Y',r',he,hr,hZ,⟨hE.1,λid hi=>hE.2 id ?_⟩,?_⟩
    ·show id<H.next+3;omega
    ·show H.next<=H.next+7;omega
   |some a=>
    have nv: ∃a' cap,u'= .slice (some a') 0 cap:=by
     cases ru with
     |same _ h=>simp[aE]at h
     |slc=>exact⟨_,_,rfl⟩
     |emp=>exact⟨_,_,rfl⟩
    obtain⟨a',cap,rfl⟩:=nv;have h2:=p_empS call L H (fill_0 aBU rest);refine(run (args2:=(aBU::rest).toArray) (by simpa using h2) ρ (by rw[hA'];exact VRL.cons (x:=aBU) (.emp a' 0 cap (λe=>by cases e)) rr)).mono ?_
    rintro e w' ⟨Y',r',he,hr,hZ,hE,hn⟩;obtain⟨p,cap',hp,rfl,fa,_⟩:=hr.slc_inv;obtain rfl:=fa rfl;exact⟨Y',_,he,.emp _ 1 0 (λ_=>rfl),hZ,hE,hn⟩
  |succ n=>
   cases a with
   |none=>exact absurd ru.nilslc_inv.1 (by simp)
   |some a=>
    rw[c_consS call L H hu]at h;exact run (args2:=args) (by rw[hA];exact h) ρ (by rw[hA];exact hargs)
end Go.Rf
namespace Go.Rf
open Go.AI Go.Proofs Go.RowKit
set_option maxRecDepth 100000
def swapF_at{C:Program}{f g:FuncId}{fn nn:Func}(pj: ¬g=f)(h:C.funcs[g]?=some nn):(aBc C f fn).funcs[g]?=some nn:=by
 have:(C.funcs.toList.set f fn)[g]?=some nn:=by
  rw[List.getElem?_set,if_neg (Ne.symm pj)];simpa using h
 simpa [aBc]using this
def cdM_at:cdM.funcs[160]?=Tryz.prog.funcs[160]?:=by
 unfold cdM;simp only[aBc,List.getElem?_toArray,List.getElem?_set];simp
def okX_of(h:cdX.funcs.toList.all (gK Tryz.prog)=true):cdM.funcs.toList.all (gK Tryz.prog)=true:=by
 refine List.all_eq_true.2 λfn fi=>?_
 obtain⟨f,hf⟩:=List.mem_iff_getElem?.1 fi;have gf:cdM.funcs[f]?=some fn:=by simpa using hf
 by_cases e:f=160
 ·subst e;rw[cdM_at,aMw]at gf;rw[<-Option.some.inj gf];exact cl_ok
 ·have h1:cdX.funcs[f]?=some fn:=swapF_at e gf;exact List.all_eq_true.1 h _ (List.mem_of_getElem? (show cdX.funcs.toList[f]?=some fn by simpa using h1))
def code_okX(h:cdX.funcs.toList.all (gK Tryz.prog)=true)(w0:W0):vC w0 Tryz.prog cdX:=
 swapF_ok (code_okM (okX_of h) w0) rfl (aMv w0)
end Go.Rf
