import Derived.Test.YtgfhobcfdppbdaaGreatDoorKv
open Option renaming some->aa,none->ad
open Bool renaming true->ae
open Go renaming Value->au,Program->aw
set_option linter.unusedVariables false
set_option linter.unusedSimpArgs false
set_option linter.constructorNameAsVariable false
set_option linter.defProp false
namespace Go.Rf
open Go.AI Go.Proofs
section
variable{call:FuncId->Array au->St->Option (au×St)}{L:Nat}
def dH{P:aw}{ops:Array Oper}{base i:Nat}{o:Oper}{rest:List Oper}{S S':Slots}{H H':St}(hg:o.guard=ad)(h:fA P call ops base (o::rest) i S H=aa (S',H')):
    ∃v H1,lL P call base i o S H=aa (v,H1)/\fA P call ops base rest (i+1) (S.store o.dst v) H1=aa (S',H'):=by
 rw[fA,wanted,hg]at h;simp only[aI]at h;split at h
 .rename_i v H1 h1;exact⟨v,H1,h1,h⟩
 .cases h
def T7{S:Slots}{H:St}{b i d k:Nat}{T:TypeId}{c:au}(hc:cN c=ae)(hT: ∀e,Tryz.prog.underlying T≠aa (.slice e)):lL Tryz.prog call b i (uH d T k c) S H=
    (bif cN (S.at k)then cS Tryz.prog (do eqGuard .eql T (.tmp k) (.const c) (S.at k) c;binOp .eql T (S.at k) c)else ad).map λv=>(v,H):=by
 have h1:lL Tryz.prog call b i (uH d T k c) S H=(sY Tryz.prog H (ev S) (uH d T k c)).map λv=>(v,H):=by kernel_rfl
 have h2:mD Tryz.prog (ev S) (uH d T k c)=(bif cN (S.at k)&&cN c then cS Tryz.prog (do eqGuard .eql T (.tmp k) (.const c) (S.at k) c;binOp .eql T (S.at k) c)
  else match Tryz.prog.underlying T with
   |some (.slice _)=>UU .eql (S.at k) c
   |_=>ad):=by kernel_rfl
 rw[h1];congr 1;unfold sY;rw[h2,hc,bE];cases cN (S.at k)with
 |true=>
  simp only[aI];split
  .rename_i v h;exact h.symm
  .rename_i h;rw[h];rfl
 |false=>
  simp only[aJ];have:(match Tryz.prog.underlying T with
   |some (.slice _)=>UU .eql (S.at k) c
   |_=>ad)=ad:=by
   split
   .rename_i e h;exact absurd h (hT e)
   .rfl
  first|rfl|(rw[this];rfl)
def aXj: ∀e,Tryz.prog.underlying 9≠aa (.slice e):=λe h=>by rw[Tryz.underlying9]at h;cases h
def a5h: ∀e,Tryz.prog.underlying 3≠aa (.slice e):=λe h=>by rw[Tryz.underlying3]at h;cases h
def aWx: ∀e,Tryz.prog.underlying 26≠aa (.slice e):=λe h=>by rw[Tryz.underlying26]at h;cases h
def pW{S:Slots}{H H':St}{b i d k:Nat}{c:List UInt8}{x:au}(h:lL Tryz.prog call b i (uH d 9 k (sV c)) S H=aa (x,H')): ∃q:Bool,x= .bool q/\(q=ae->S.at k=sV c)/\H'=H:=by
 rw[T7 rfl aXj]at h;generalize S.at k=u at h⊢;cases hp:cN u with
 |false=>rw[hp]at h;cases h
 |true=>
  rw[hp,aI]at h;cases u with
  |string s=>
   have e2:cS Tryz.prog (do eqGuard .eql 9 (.tmp k) (.const (sV c)) (.string s) (sV c);binOp .eql 9 (.string s) (sV c))=aa (.bool (s.toList==(⟨c.toArray⟩:ByteArray).toList)):=by kernel_rfl
   rw[e2]at h;simp only[aK,aA,aB]at h;refine⟨_,h.1.symm,λhq=>?_,h.2.symm⟩
   have:s=⟨c.toArray⟩:=by
    cases s with|mk d=>
    have:d.toList=c:=by simpa [ByteArray.toList_eq]using hq
    rw[<-this,Array.toArray_toList]
   rw[this];rfl
  |_=>exact absurd ((by kernel_rfl:ad=_).trans h) (λe=>by cases e)
def Lq{S:Slots}{H H':St}{b i d k:Nat}{c:Int}{x:au}(h:lL Tryz.prog call b i (uH d 3 k (.int .i64 c)) S H=aa (x,H')): ∃q:Bool,x= .bool q/\(q=ae->S.at k= .int .i64 c)/\H'=H:=by
 rw[T7 rfl a5h]at h;generalize S.at k=u at h⊢;cases hp:cN u with
 |false=>rw[hp]at h;cases h
 |true=>
  rw[hp,aI]at h;cases u with
  |int kd n=>
   cases kd with
   |i64=>
    have e2:cS Tryz.prog (do eqGuard .eql 3 (.tmp k) (.const (.int .i64 c)) (.int .i64 n) (.int .i64 c);binOp .eql 3 (.int .i64 n) (.int .i64 c))=aa (.bool (n==c)):=by kernel_rfl
    rw[e2]at h;simp only[aK,aA,aB]at h;refine⟨_,h.1.symm,λhq=>?_,h.2.symm⟩
    rw[beq_iff_eq]at hq;rw[hq]
   |_=>exact absurd ((by kernel_rfl:ad=_).trans h) (λe=>by cases e)
  |pointer a=>cases a with
   |none=>exact absurd ((by kernel_rfl:ad=_).trans h) (λe=>by cases e)
   |some v=>simp[cN,bQ]at hp
  |_=>exact absurd ((by kernel_rfl:ad=_).trans h) (λe=>by cases e)
def aPs{S:Slots}{H H':St}{b i d k:Nat}{c:Int}{x:au}(h:lL Tryz.prog call b i (uH d 26 k (.int .u32 c)) S H=aa (x,H')): ∃q:Bool,x= .bool q/\(q=ae->S.at k= .int .u32 c)/\H'=H:=by
 rw[T7 rfl aWx]at h;generalize S.at k=u at h⊢;cases hp:cN u with
 |false=>rw[hp]at h;cases h
 |true=>
  rw[hp,aI]at h;cases u with
  |int kd n=>
   cases kd with
   |u32=>
    have e2:cS Tryz.prog (do eqGuard .eql 26 (.tmp k) (.const (.int .u32 c)) (.int .u32 n) (.int .u32 c);binOp .eql 26 (.int .u32 n) (.int .u32 c))=aa (.bool (n==c)):=by kernel_rfl
    rw[e2]at h;simp only[aK,aA,aB]at h;refine⟨_,h.1.symm,λhq=>?_,h.2.symm⟩
    rw[beq_iff_eq]at hq;rw[hq]
   |_=>exact absurd ((by kernel_rfl:ad=_).trans h) (λe=>by cases e)
  |pointer a=>cases a with
   |none=>exact absurd ((by kernel_rfl:ad=_).trans h) (λe=>by cases e)
   |some v=>simp[cN,bQ]at hp
  |_=>exact absurd ((by kernel_rfl:ad=_).trans h) (λe=>by cases e)
def KU{S:Slots}{H H':St}{b i d:Nat}{t:TypeId}{c x:au}(h:lL Tryz.prog call b i (Tz d c t) S H=aa (x,H')):x=c/\H'=H:=by
 have e2:lL Tryz.prog call b i (Tz d c t) S H=aa (c,H):=by kernel_rfl
 rw[e2]at h;simp only[aA,aB]at h;exact⟨h.1.symm,h.2.symm⟩
def mW{P:aw}{id:Nat}{ops:Array Oper}{S:Slots}{H:St}{r:au}{H':St}{rest:Code}{fn:Func}(h:eO P fn (cM P call L (.seq (.region id ops false) rest) S H)=aa (r,H')):
    ∃S1 H1,fA P call ops H.next ops.toList 0 S {H with next:=H.next+ops.size}=aa (S1,H1)/\eO P fn (cM P call L rest S1 H1)=aa (r,H'):=by
 cases hx:fA P call ops H.next ops.toList 0 S {H with next:=H.next+ops.size}with
 |none=>
  rw[cM,cM,iN,aJ,hx]at h;cases h
 |some x=>
  obtain⟨S1,H1⟩:=x;rw[GF call L (Qr call L hx)]at h;exact⟨S1,H1,rfl,h⟩
def aEi{a:Array au}{P:aw}{f:FuncId}(h:Ca P f a.size=ae){k:Nat}(hk:Ca P f k=ae):a.size=k:=by
 unfold Ca at h hk;split at h
 .rename_i fn hf;rw[hf]at hk;simp only[Nat.beq_eq]at h hk;omega
 .cases h
def gL{P:aw}{fn:Func}{x:Operand}{a b:Code}{S:Slots}{H H':St}{r:au}{q:Bool}(hq:ev S x= .bool q)(h:eO P fn (cM P call L (.cond x a b) S H)=aa (r,H')):eO P fn (cM P call L (bif q then a else b) S H)=aa (r,H'):=by
 cases q with
 |true=>rwa [aIf call L hq]at h
 |false=>rwa [aIg call L hq]at h
def jS{P:aw}{fn:Func}{S:Slots}{H H':St}{r:au}{k:Nat}(h:eO P fn (cM P call L (.exit k) S H)=aa (r,H')):False:=by
 rw[cM,eO]at h;cases h
def bNq{S:Slots}{H:St}:eO Tryz.prog bIu (cM Tryz.prog call L .ret S H)=aa (S.at 4,H):=by kernel_rfl
def aHz(vm: ∀(w0 w:World) (a b:List UInt8),Tryz.prog.globals.size<=w.heap.size->((a=[49]/\b=[50])∨(a=[45,53]/\b=[51]))->Calls Tryz.prog 222 #[sV a,sV b] w λe w'=>e= .returned (sV [49])/\Kept w w')
    (w0:W0) (hg:Tryz.prog.globals.size<=w0.heap.size):aKB w0 Tryz.prog 222 bIu bQF:=by
 intro call L args H H' r jd h;have hs:=aEi jd (k:=2) (by kernel_rfl)
 obtain⟨u0,u1,ha⟩: ∃u0 u1,args.toList=[u0,u1]:=by
  match hl:args.toList,(show args.toList.length=2 by simpa using hs)with
  |[u0,u1],_=>exact⟨u0,u1,rfl⟩
 rw[ha]at h;obtain⟨S1,H1,h1,h2⟩:=mW h;obtain⟨x0,τ0,e0,h1⟩:=dH (o:=uH 5 9 0 (sV [49])) rfl h1;obtain⟨q0,rfl,k0,rfl⟩:=pW e0;obtain⟨x1,τ1,e1,h1⟩:=dH (o:=uH 6 9 1 (sV [50])) rfl h1;obtain⟨q1,rfl,k1,rfl⟩:=pW e1;obtain⟨x2,τ2,e2,h1⟩:=dH (o:=uH 7 9 0 (sV [45,53])) rfl h1;obtain⟨q2,rfl,k2,rfl⟩:=pW e2;obtain⟨x3,τ3,e3,h1⟩:=dH (o:=uH 8 9 1 (sV [51])) rfl h1;obtain⟨q3,rfl,k3,rfl⟩:=pW e3;obtain⟨x4,τ4,e4,h1⟩:=dH (o:=Tz 4 (sV [49]) 9) rfl h1;obtain⟨rfl,rfl⟩:=KU e4;simp only[fA,aA,aB]at h1;obtain⟨rfl,rfl⟩:=h1;generalize hS:((((((mC [u0,u1] 0 .nil).store (uH 5 9 0 (sV [49])).dst (.bool q0)).store (uH 6 9 1 (sV [50])).dst (.bool q1)).store (uH 7 9 0 (sV [45,53])).dst (.bool q2)).store (uH 8 9 1 (sV [51])).dst (.bool q3)).store (Tz 4 (sV [49]) 9).dst (sV [49]))=S at h2;have c5:ev S (.tmp 5)= .bool q0:=by subst hS;rfl
 have c6:ev S (.tmp 6)= .bool q1:=by subst hS;rfl
 have c7:ev S (.tmp 7)= .bool q2:=by subst hS;rfl
 have c8:ev S (.tmp 8)= .bool q3:=by subst hS;rfl
 have c4:S.at 4=sV [49]:=by subst hS;rfl
 have k0':q0=ae->u0=sV [49]:=k0;have k1':q1=ae->u1=sV [50]:=k1;have k2':q2=ae->u0=sV [45,53]:=k2;have k3':q3=ae->u1=sV [51]:=k3;have fin: ∀a b:List UInt8,u0=sV a->u1=sV b->((a=[49]/\b=[50])∨(a=[45,53]/\b=[51]))->eO Tryz.prog bIu (cM Tryz.prog call L .ret S {H with next:=H.next+gcO.size})=aa (r,H')->
      args.toList.all bQ=ae/\(∃n,H.next<=n/\H'={H with next:=n})/\∃r',(∀Y,VR Y r r')/\∀w,Kept w0.toWorld w->Calls Tryz.prog 222 args w λe w'=>e= .returned r'/\Kept w w':=by
  rintro a b rfl rfl pm h5;rw[bNq,c4]at h5;simp only[aA,aB]at h5;obtain⟨rfl,rfl⟩:=h5;refine⟨by rw[ha];rfl,⟨_,Nat.le_add_right _ _,rfl⟩,_,λY=> .same _ rfl,λw hK=>?_⟩
  have e:args= #[sV a,sV b]:=by rw[<-Array.toArray_toList (xs:=args),ha]
  rw[e];exact vm w0 w a b (Nat.le_trans hg hK.size) pm
 have h3:=gL c5 h2;cases q0 with
 |true=>
  have h4:=gL c6 h3;cases q1 with
  |true=>exact fin _ _ (k0' rfl) (k1' rfl) (.inl ⟨rfl,rfl⟩) h4
  |false=>exact(jS h4).elim
 |false=>
  have h4:=gL c7 h3;cases q2 with
  |true=>
   have h5:=gL c8 h4;cases q3 with
   |true=>exact fin _ _ (k2' rfl) (k3' rfl) (.inr ⟨rfl,rfl⟩) h5
   |false=>exact(jS h5).elim
  |false=>exact(jS h4).elim
end
end Go.Rf
namespace Go.Rf
open Go.AI Go.Proofs Go.RowKit
def EE{w w':World}(h:Below w.heap.size w w'):Kept w w':=⟨h.os,h.output,h.size,h.block⟩
def aFZ(w:World)(l:List UInt8)(u:Nat)(hl:l.length<=100)(h:Lib.parseUintB 32 l= .ok u):Calls Tryz.prog 252 #[sV l,.int .i64 10,.int .i64 32] w λe w'=>e= .returned (.tuple #[.int .u64 u,.nilIface])/\Kept w w':=by
 refine(Tryz.strconv_ParseUint_10_at32_ok ⟨l.toArray⟩ (by show l.toArray.size<=_;simp;omega) u (by simpa using h) w).mono ?_
 rintro e w' ⟨rfl,rfl|rfl⟩
 .exact⟨rfl,Kept.refl _⟩
 .exact⟨rfl,EE (Lib.bytesWorld_below _ _ _)⟩
def bNp{call:FuncId->Array au->St->Option (au×St)}{L:Nat}{S:Slots}{H:St}:eO Tryz.prog bIn (cM Tryz.prog call L .ret S H)=aa (.tuple #[S.at 6,S.at 7],H):=by kernel_rfl
def aFY(w0:W0):aKB w0 Tryz.prog 252 bIn bQo:=by
 intro call L args H H' r jd h;have hs:=aEi jd (k:=3) (by kernel_rfl)
 obtain⟨u0,u1,u2,ha⟩: ∃u0 u1 u2,args.toList=[u0,u1,u2]:=by
  match hl:args.toList,(show args.toList.length=3 by simpa using hs)with
  |[u0,u1,u2],_=>exact⟨u0,u1,u2,rfl⟩
 rw[ha]at h;obtain⟨S1,H1,h1,h2⟩:=mW h;obtain⟨x0,τ0,e0,h1⟩:=dH (o:=uH 8 3 1 (.int .i64 10)) rfl h1;obtain⟨q0,rfl,k0,rfl⟩:=Lq e0;obtain⟨x1,τ1,e1,h1⟩:=dH (o:=uH 9 3 2 (.int .i64 32)) rfl h1;obtain⟨q1,rfl,k1,rfl⟩:=Lq e1;obtain⟨x2,τ2,e2,h1⟩:=dH (o:=uH 10 9 0 (sV [49])) rfl h1;obtain⟨q2,rfl,k2,rfl⟩:=pW e2;obtain⟨x3,τ3,e3,h1⟩:=dH (o:=uH 11 9 0 (sV [50])) rfl h1;obtain⟨q3,rfl,k3,rfl⟩:=pW e3;obtain⟨x4,τ4,e4,h1⟩:=dH (o:=uH 12 9 0 (sV [51])) rfl h1;obtain⟨q4,rfl,k4,rfl⟩:=pW e4;obtain⟨x5,τ5,e5,h1⟩:=dH (o:=uH 13 9 0 (sV [53])) rfl h1;obtain⟨q5,rfl,k5,rfl⟩:=pW e5;obtain⟨x6,τ6,e6,h1⟩:=dH (o:=Tz 7 .nilIface 284) rfl h1;obtain⟨rfl,rfl⟩:=KU e6;simp only[fA,aA,aB]at h1;obtain⟨rfl,rfl⟩:=h1;generalize hS:Slots.store _ (Tz 7 .nilIface 284).dst .nilIface=S at h2;have c8:ev S (.tmp 8)= .bool q0:=by subst hS;rfl
 have c9:ev S (.tmp 9)= .bool q1:=by subst hS;rfl
 have c10:ev S (.tmp 10)= .bool q2:=by subst hS;rfl
 have a8X:ev S (.tmp 11)= .bool q3:=by subst hS;rfl
 have c12:ev S (.tmp 12)= .bool q4:=by subst hS;rfl
 have c13:ev S (.tmp 13)= .bool q5:=by subst hS;rfl
 have c7:S.at 7= .nilIface:=by subst hS;rfl
 have k0':q0=ae->u1= .int .i64 10:=k0;have k1':q1=ae->u2= .int .i64 32:=k1;have k2':q2=ae->u0=sV [49]:=k2;have k3':q3=ae->u0=sV [50]:=k3;have k4':q4=ae->u0=sV [51]:=k4;have k5':q5=ae->u0=sV [53]:=k5;have fin: ∀(l:List UInt8) (n:Nat),l.length<=100->Lib.parseUintB 32 l= .ok n->u0=sV l->u1= .int .i64 10->u2= .int .i64 32->eO Tryz.prog bIn (cM Tryz.prog call L (bCX n) S {H with next:=H.next+puO.size})=aa (r,H')->
      args.toList.all bQ=ae/\(∃n,H.next<=n/\H'={H with next:=n})/\∃r',(∀Y,VR Y r r')/\∀w,Kept w0.toWorld w->Calls Tryz.prog 252 args w λe w'=>e= .returned r'/\Kept w w':=by
  rintro l n hl hn rfl rfl rfl h5;obtain⟨S2,H2,h6,h7⟩:=mW h5;obtain⟨y,τ,f0,h6⟩:=dH (o:=Tz 6 (.int .u64 n) 68) rfl h6;obtain⟨rfl,rfl⟩:=KU f0;simp only[fA,aA,aB]at h6;obtain⟨rfl,rfl⟩:=h6;rw[bNp]at h7;simp only[aA,aB]at h7;obtain⟨rfl,rfl⟩:=h7;have g6:(S.store (Tz 6 (.int .u64 n) 68).dst (.int .u64 n)).at 6= .int .u64 n:=by
   show Slots.at (S.store (aa 6) _) 6=_;rw[Go.Rf.at_store,bI rfl]
  have g7:(S.store (Tz 6 (.int .u64 n) 68).dst (.int .u64 n)).at 7= .nilIface:=by
   show Slots.at (S.store (aa 6) _) 7=_;rw[Go.Rf.at_store,bH (by decide),c7]
  rw[g6,g7];refine⟨by rw[ha];rfl,⟨_,by show H.next<=H.next+_+_;omega,rfl⟩,_,λY=> .mkTuple (xs:=[.int .u64 n,.nilIface]) (.same rfl),λw hK=>?_⟩
  have e:args= #[sV l,.int .i64 10,.int .i64 32]:=by rw[<-Array.toArray_toList (xs:=args),ha]
  rw[e];exact aFZ w l n hl hn
 have h3:=gL c8 h2;cases q0 with
 |false=>exact(jS h3).elim
 |true=>
 have h4:=gL c9 h3;cases q1 with
 |false=>exact(jS h4).elim
 |true=>
 have h5:=gL c10 h4;cases q2 with
 |true=>exact fin [49] 1 (by decide) (by decide) (k2' rfl) (k0' rfl) (k1' rfl) h5
 |false=>
 have h6:=gL a8X h5;cases q3 with
 |true=>exact fin [50] 2 (by decide) (by decide) (k3' rfl) (k0' rfl) (k1' rfl) h6
 |false=>
 have h7:=gL c12 h6;cases q4 with
 |true=>exact fin [51] 3 (by decide) (by decide) (k4' rfl) (k0' rfl) (k1' rfl) h7
 |false=>
 have h8:=gL c13 h7;cases q5 with
 |true=>exact fin [53] 5 (by decide) (by decide) (k5' rfl) (k0' rfl) (k1' rfl) h8
 |false=>exact(jS h8).elim
section
variable{call:FuncId->Array au->St->Option (au×St)}{L:Nat}
def AJ{P:aw}{o:Oper}{S:Slots}{H H':St}{b i:Nat}{x:au}(hk:dG o= .pure)(hc: ∀s d y,o.op≠ .convert s d y)(h:lL P call b i o S H=aa (x,H')):mD P (ev S) o=aa x/\H'=H:=by
 unfold lL at h;rw[hk]at h;simp only[aF,aB]at h;obtain⟨v,h1,rfl,rfl⟩:=h;refine⟨?_,rfl⟩;unfold sY at h1;split at h1
 .rename_i v' h2;rw[h2];exact h1
 .split at h1
  .rename_i s d y e;exact absurd e (hc s d y)
  .cases h1
def aEL{P:aw}{o:Oper}{S:Slots}{H H':St}{b i:Nat}{x:au}(hk:dG o= .read)(h:lL P call b i o S H=aa (x,H')):kS P H (ev S) o=aa x/\H'=H:=by
 unfold lL at h;rw[hk]at h;simp only[aF,aB]at h;obtain⟨v,h1,rfl,rfl⟩:=h;exact⟨h1,rfl⟩
def aIe{P:aw}{fn:Func}{x:Operand}{a b:Code}{S:Slots}{H H':St}{r:au}(h:eO P fn (cM P call L (.cond x a b) S H)=aa (r,H')): ∃q,ev S x= .bool q/\eO P fn (cM P call L (bif q then a else b) S H)=aa (r,H'):=by
 rw[cM]at h;split at h
 .rename_i e;exact⟨ae,e,h⟩
 .rename_i e;exact⟨false,e,h⟩
 .cases h
set_option maxRecDepth 100000 in
def aAK{u x:au}{f:Nat}(h:sZ Tryz.prog 270 u f=aa x)(hf:f<2): ∃cs,u= .agg cs/\cs[f]?=aa x:=by
 unfold sZ at h;rw[Tryz.underlying270]at h;cases u with
 |agg cs=>
  refine⟨cs,rfl,?_⟩;obtain rfl|rfl:f=0∨f=1:=by omega
  .exact(by kernel_rfl:_=cs[0]?).symm.trans h
  .exact(by kernel_rfl:_=cs[1]?).symm.trans h
 |_=>
  simp only[]at h;split at h<;>cases h
set_option maxRecDepth 100000 in
def aO1{u:au}(h:R2 Tryz.prog 268 u=aa (.int .i64 1)): ∃a c,u= .slice a 1 c:=by
 unfold R2 at h;rw[Tryz.underlying268]at h;cases u with
 |slice a n c=>
  simp only[goInt,aA,Value.int.injEq,true_and]at h;obtain rfl:n=1:=by omega
  exact⟨a,c,rfl⟩
 |_=>cases h
def aPf{a:Option Addr}{c:Nat}{x:au}(h:jL Tryz.prog 268 (.slice a 1 c) (.int .i64 0)=aa x): ∃id off,a=aa ⟨id,off,ad⟩/\x= .pointer (aa ⟨id,off,ad⟩):=by
 cases a with
 |none=>exact absurd ((by kernel_rfl:ad=_).trans h) (λe=>by cases e)
 |some a=>
  obtain⟨id,off,sp⟩:=a;cases sp with
  |none=>exact⟨id,off,rfl,Option.some.inj (h.symm.trans (by kernel_rfl))⟩
  |some s=>exact absurd ((by kernel_rfl:ad=_).trans h) (λe=>by cases e)
def aGL{H:St}{id off:Nat}{x:au}(h:kT Tryz.prog H 26 (.pointer (aa ⟨id,off,ad⟩))=aa x): ∃cs m,H.row id=aa (cs,m)/\cs[off]?=aa x:=by
 have e:kT Tryz.prog H 26 (.pointer (aa ⟨id,off,ad⟩))=match H.row id with
  |some (cs,_)=>cs[off]?
  |none=>ad:=by kernel_rfl
 rw[e]at h;split at h
 .rename_i cs m h1;exact⟨cs,m,h1,h⟩
 .cases h
def bNn{S:Slots}{H:St}:eO Tryz.prog bIl (cM Tryz.prog call L .ret S H)=aa (S.at 2,H):=by kernel_rfl
end
set_option maxRecDepth 100000 in
def aXk(w0:W0):Se w0 Tryz.prog 238 bIl stT:=by
 refine⟨⟨_,_,Tryz.func238,rfl,by kernel_rfl⟩,?_⟩
 intro call L bj args args' H H' w Y r h ρ hargs jd;have hs:=aEi jd (k:=1) (by kernel_rfl)
 obtain⟨u,ha⟩: ∃u,args.toList=[u]:=by
  match hl:args.toList,(show args.toList.length=1 by simpa using hs)with
  |[u],_=>exact⟨u,rfl⟩
 rw[ha]at h hargs;obtain⟨u',jg,cq,ru,rr⟩:=hargs.cons_inv;rw[rr.nil_inv]at cq;have e':args'= #[u']:=by rw[<-Array.toArray_toList (xs:=args'),cq]
 subst e';obtain⟨S1,H1,h1,h2⟩:=mW h;obtain⟨x0,τ0,e0,h1⟩:=dH (o:=Gx (aa 7) (.field 270 (.tmp 0) 1) 268) rfl h1;obtain⟨pe0,rfl⟩:=AJ rfl (λ_ _ _ h=>by cases h) e0
 obtain⟨x1,τ1,e1,h1⟩:=dH (o:=Gx (aa 11) (.field 270 (.tmp 0) 0) 4) rfl h1;obtain⟨pe1,rfl⟩:=AJ rfl (λ_ _ _ h=>by cases h) e1
 obtain⟨x2,τ2,e2,h1⟩:=dH (o:=Gx (aa 8) (.call {callee:= .builtin .len,args:= #[.tmp 7],argTypes:= #[268]}) 3) rfl h1;obtain⟨pe2,rfl⟩:=AJ rfl (λ_ _ _ h=>by cases h) e2
 obtain⟨x3,τ3,e3,h1⟩:=dH (o:=uH 9 3 8 (.int .i64 1)) rfl h1;obtain⟨q3,rfl,k3,rfl⟩:=Lq e3;simp only[fA,aA,aB]at h1;obtain⟨rfl,rfl⟩:=h1;have e0':sZ Tryz.prog 270 u 1=aa x0:=pe0;have e1':sZ Tryz.prog 270 u 0=aa x1:=pe1;have e2':R2 Tryz.prog 268 x0=aa x2:=pe2;have k3':q3=ae->x2= .int .i64 1:=k3;obtain⟨cs,rfl,g1⟩:=aAK e0' (by omega)
 obtain⟨cs2,hcs2,g0⟩:=aAK e1' (by omega)
 cases hcs2;generalize hS:Slots.store _ (uH 9 3 8 (.int .i64 1)).dst (.bool q3)=S at h2;have c9:ev S (.tmp 9)= .bool q3:=by subst hS;rfl
 have a8X:ev S (.tmp 11)=x1:=by subst hS;rfl
 have c7:S.at 7=x0:=by subst hS;rfl
 have h3:=gL c9 h2;cases q3 with
 |false=>exact(jS h3).elim
 |true=>
 obtain⟨qb,hqb,h4⟩:=aIe h3;cases qb with
 |true=>exact(jS h4).elim
 |false=>
 rw[a8X]at hqb;subst hqb;rw[k3' rfl]at e2';obtain⟨a,c,rfl⟩:=aO1 e2';obtain⟨S2,H2,h5,h6⟩:=mW h4;obtain⟨y0,t0,f0,h5⟩:=dH (o:=Gx (aa 19) (.indexAddr 268 (.tmp 7) (.const (.int .i64 0))) 0) rfl h5;obtain⟨pf0,rfl⟩:=AJ rfl (λ_ _ _ h=>by cases h) f0
 obtain⟨y1,t1,f1,h5⟩:=dH (o:=Gx (aa 20) (.load 26 (.tmp 19)) 26) rfl h5;obtain⟨pf1,rfl⟩:=aEL rfl f1;obtain⟨y2,t2,f2,h5⟩:=dH (o:=uH 21 26 20 (.int .u32 1)) rfl h5;obtain⟨p2,rfl,l2,rfl⟩:=aPs f2;obtain⟨y3,t3,f3,h5⟩:=dH (o:=Tz 2 (sV [49]) 9) rfl h5;obtain⟨rfl,rfl⟩:=KU f3;simp only[fA,aA,aB]at h5;obtain⟨rfl,rfl⟩:=h5;have f0':jL Tryz.prog 268 (.slice a 1 c) (.int .i64 0)=aa y0:=by rw[<-c7];exact pf0
 obtain⟨id,off,rfl,rfl⟩:=aPf f0';have f1':kT Tryz.prog H 26 (Slots.at (S.store (aa 19) (.pointer (aa ⟨id,off,ad⟩))) 19)=aa y1:=pf1;rw[Go.Rf.at_store,bI rfl]at f1';obtain⟨rs,m,bh,ny⟩:=aGL f1';have l2':p2=ae->Slots.at ((S.store (aa 19) (.pointer (aa ⟨id,off,ad⟩))).store (aa 20) y1) 20= .int .u32 1:=l2;rw[Go.Rf.at_store,bI rfl]at l2';generalize hS3:Slots.store _ (Tz 2 (sV [49]) 9).dst (sV [49])=S3 at h6;have d21:ev S3 (.tmp 21)= .bool p2:=by
  subst hS3;show Slots.at ((((S.store (aa 19) _).store (aa 20) _).store (aa 21) _).store (aa 2) _) 21=_;rw[Go.Rf.at_store,bH (by decide),Go.Rf.at_store,bI rfl]
 have d2:S3.at 2=sV [49]:=by
  subst hS3;show Slots.at ((((S.store (aa 19) _).store (aa 20) _).store (aa 21) _).store (aa 2) _) 2=_;rw[Go.Rf.at_store,bI rfl]
 have h7:=gL d21 h6;cases p2 with
 |false=>exact(jS h7).elim
 |true=>
 have h8:eO Tryz.prog bIl (cM Tryz.prog call L .ret S3 _)=aa (r,H'):=h7;rw[bNn,d2]at h8;simp only[aA,aB]at h8;obtain⟨rfl,rfl⟩:=h8;have hy:=l2' rfl;subst hy;obtain⟨us,rfl,hus⟩:=ru.agg_inv;obtain⟨z0,hz0,rz0⟩:=hus.get (i:=0) (by simpa using g0)
 obtain⟨z1,hz1,rz1⟩:=hus.get (i:=1) (by simpa using g1)
 have:=rz0.eq0 rfl;subst this;obtain⟨p,cap,hp,rfl,_,_⟩:=rz1.slc_inv;obtain⟨bc,bf⟩:=St.row_some bh;obtain⟨⟨C,tt,fr,r1,r2,_⟩,_,_,_,_⟩:=ρ.row id p rs m hp bc bf;obtain⟨v,hv,rv⟩:=r2 off _ ny;have:=rv.eq0 rfl;subst this;refine(SQ p.b (p.o+off) cap w C tt fr r1 hv us (by simpa using hz0) (by simpa using hz1)).mono ?_
 rintro e w' ⟨rfl,hb⟩;exact⟨Y,_,rfl,.same _ rfl,(ρ.keep (EE hb)).next (by show H.next<=H.next+_+_;omega),.refl _ _,by show H.next<=H.next+_+_;omega⟩
end Go.Rf
