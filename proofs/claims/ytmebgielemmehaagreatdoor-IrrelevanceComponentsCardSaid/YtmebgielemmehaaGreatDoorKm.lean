import Derived.Test.YtmebgielemmehaaGreatDoorKl
set_option linter.unusedVariables false
set_option linter.unusedSimpArgs false
set_option linter.constructorNameAsVariable false
set_option linter.defProp false
namespace Go.TV
open Go.AI Go.PI
section
variable{P:Program}{U:gT}{T:TP U.D}{c c0:Cx}{W:Type}{r:W}{q p:PSt}{M:TM U.D}
def Post(P:Program)(U:gT)(pc:fI)(sq take:Bool)(o:Oper)(S':PS)(p q:PSt)(c0 c:Cx)(M:TM U.D)(K:X U->TS U.D->TM U.D->Option W)(r:W):Prop:=
 ∃c' x S2 M2 v own S2' p',K x S2 M2=some r/\DH P pc sq o take S' p=some (v,own,S2',p')/\leC c c'/\oE U c' x (v,own)/\kU U c' S2 S2'/\MR U q c0 c' M2 p'/\(WR U c M p->WR U c' M2 p')/\p.next<=p'.next
def Lq{take:Bool}{p p':PSt}{t:TypeId}{a v:PV}{own:Bool}(h:rP P take p t a=some (v,own,p')):p.next<=p'.next:=by
 have hm:(fK p a).1.next=p.next:=by
  unfold fK;split
  .split
   .split<;>rfl
   .rfl
  .rfl
 unfold rP at h;split at h
 .rename_i w _;cases hb:take&&Aa w with
  |true=>rw[hb]at h;simp only[aI,aA,aB]at h;rw[<-h.2.2,hm];exact aS _
  |false=>rw[hb]at h;simp only[aJ,aA,aB]at h;rw[<-h.2.2];exact aS _
 .cases h
def HT{p p':PSt}{t:TypeId}{a x:PV}{own:Bool}(h:mK P p t a x own=some p'):p.next<=p'.next:=by
 unfold mK at h;simp only[Bool.cond_eq_ite]at h
 repeat' split at h
 all_goals first|(cases h;done)|(simp only[aA]at h;rw[<-h];exact aS _)
def rS{p p':PSt}{S':PS}{o:Oper}{v:PV}{own:Bool}(h:eO P p S' o=some (v,own,p')):p.next<=p'.next:=by
 unfold eO at h;simp only[Bool.cond_eq_ite]at h
 repeat' split at h
 all_goals first|(cases h;done)|(simp only[aA,aB]at h;rw[<-h.2.2];first|exact aS _|exact Nat.le_succ _)
def Cg{K:Nat->Option W}{m:Int}: ∀{f j0:Nat},aWx K m j0 f=some r->∃j,j0<=j/\j<j0+f/\m=(j:Int)/\K j=some r
 |0,_,h=>by cases h
 |f+1,j0,h=>by
  unfold aWx at h;by_cases e:m=(j0:Int)
  .rw[bF e]at h;exact⟨j0,aS _,by omega,e,h⟩
  .rw[bG e]at h;obtain⟨j,h1,h2,h3,h4⟩:=Cg h;exact⟨j,by omega,by omega,h3,h4⟩
def Ds(te:Ty): ∀j:Nat,eE U (List.replicate j te)=j*cZ U te
 |0=>by simp[eE]
 |j+1=>by
  rw[List.replicate_succ,Nat.succ_mul];simp only[eE];rw[Ds te j];omega
def aCy(hT:oQ P U T)(Mm:MR U q c0 c M p){t:TypeId}{x:SV U.D}{v:PV}{K:X U->Option W}(h:aLS U M (T.T.ty t) x K=some r)(ra:rG U c x v):
    ∃y w,K y=some r/\zY P t v=some w/\oE U c y (w,false):=by
 unfold aLS at h;split at h
 .rename_i k;split at h
  .rename_i e e' l ht hf;cases he:e.beq e' with
   |false=>rw[he]at h;cases h
   |true=>
    rw[he]at h;have:=Ty.beq_eq he;subst this;obtain⟨ce,g1,g2⟩:=ra;obtain⟨ce',g1',hn,hz,_⟩:=Mm.bx _ _ hf;rw[g1]at g1';cases g1';obtain⟨fe,hu,_⟩:=hT.un t _ ht;refine⟨_,i64 (l.length:Int),h,?_,gN _ _,bW _ _⟩;rcases g2 with⟨_,hn0,rfl|rfl⟩|⟨id,_,_,rfl⟩
    .simp only[zY,hu,aX];rw[<-hn,hn0]
    .simp only[zY,hu];rw[<-hn,hn0];rfl
    .simp only[zY,hu];rw[hn]
  .cases h
 .exact aCx hT h ra
variable{pc:fI}{sq take:Bool}{o:Oper}{S:TS U.D}{S':PS}{K:X U->TS U.D->TM U.D->Option W}
def wS(Mm:MR U q c0 c M p)(hk:cL o= .pure){x:X U}{S2:TS U.D}{v:PV}{own:Bool}{S2':PS}(h:K x S2 M=some r)(hp:dP P take S' o=some (v,own,S2'))(hx:oE U c x (v,own))(hF:kU U c S2 S2'):Post P U pc sq take o S' p q c0 c M K r:=
 ⟨c,x,S2,M,v,own,S2',p,h,by simp only[DH,hk,A8,hp,aK],leC.refl c,hx,hF,Mm,λhw=>hw,aS _⟩
def fQ(Mm:MR U q c0 c M p)(F:kU U c S S')(hk:cL o= .pure){x:X U}{v:PV}(h:K x S M=some r)(hp:dP P take S' o=some (v,false,S'))(hx:oE U c x (v,false)):Post P U pc sq take o S' p q c0 c M K r:=
 wS Mm hk h hp hx F
def Ks(F:kU U c S S'): ∀{l:List Operand} {ks:List Nat},Ku U S l=some ks->tQ c ks (wks (l.map (cP S')))
 |[],ks,h=>by simp only[Ku,aA]at h;subst h;trivial
 |x::l,ks,h=>by
  unfold Ku at h;split at h
  .rename_i k ks' hx hl;simp only[aA]at h;subst h;have h1:=(cX F x).1;rw[hx]at h1;obtain⟨e,id,g1,g2,g3⟩:=h1;have g3:cP S' x= .ptr id 0:=g3;refine⟨⟨e,id,g1,g2,by rw[g3];rfl⟩,Ks F hl⟩
  .cases h
variable(hU:gO U)(hT:oQ P U T)
include hU hT
def Vl{tc:kX U.D}(hc:CallOK U T tc pc)(F:kU U c S S')(Mm:MR U q c0 c M p){inst:Nat}{bk:List Nat}(h:Be U T tc sq take inst bk o S M K=some r):Post P U pc sq take o S' p q c0 c M K r:=by
 obtain⟨dst,op,ty,pos,ji,jh⟩:=o;have mv: ∀(x:Operand),(bif take then K (iQ U S x) (rY U S x) M else K (qU U (iQ U S x)) S M)=some r->(op= .move x∨op= .assign x)->Post P U pc sq take ⟨dst,op,ty,pos,ji,jh⟩ S' p q c0 c M K r:=by
  intro x h ho;cases take with
  |true=>
   refine wS Mm ?_ h (v:=cP S' x) (own:=gZ S' x) (S2':=lK S' x) ?_ (cX F x) (pI F x)
   .rcases ho with rfl|rfl<;>rfl
   .rcases ho with rfl|rfl<;>rfl
  |false=>
   refine fQ Mm F ?_ h (v:=cP S' x) ?_ (rZ (cX F x))
   .rcases ho with rfl|rfl<;>rfl
   .rcases ho with rfl|rfl<;>rfl
 cases op with
 |move x=>exact mv x h (.inl rfl)
 |assign x=>exact mv x h (.inr rfl)
 |pick w a b=>
  simp only[Be]at h;split at h
  .rename_i wb hw;have h1:=(cX F w).1;rw[hw]at h1;have h1:=of_bool h1;have h1:cP S' w= .v (.bool wb):=h1;obtain⟨x,h2,h3⟩:=Vc h (cX F a) (cX F b);refine fQ Mm F rfl h2 ?_ h3;simp only[dP,h1];cases wb<;>rfl
  .cases h
 |build t parts=>
  simp only[Be]at h;split at h
  .rename_i n ht;split at h
   .rename_i l hl;obtain⟨x,hx,h⟩:=mD h;obtain⟨w,h1,h2⟩:=XA hU hT F ht hl hx;exact fQ Mm F rfl h (by simp only[dP,h1,aK]) h2
   .cases h
  .cases h
 |nilCheck x=>
  simp only[Be]at h;have h1:=(cX F x).1;split at h
  .rename_i k off path hx;rw[hx]at h1;have h2:=h1;obtain⟨e,id,g1,g2,g3⟩:=h1;have g3:cP S' x= .ptr id off:=g3;exact fQ Mm F rfl h (v:= .ptr id off) (by simp only[dP,g3]) ⟨⟨e,id,g1,g2,rfl⟩,bW _ _⟩
  .rename_i v hx;rw[hx]at h1;obtain⟨es,i,off,e,g1,g2,g3⟩:=h1;have g1:cP S' x= .pin es i off:=g1;exact fQ Mm F rfl h (v:= .pin es i off) (by simp only[dP,g1]) ⟨⟨es,i,off,e,rfl,g2,g3⟩,bW _ _⟩
  .rename_i k i off path hx;rw[hx]at h1;obtain⟨e,id,g1,g2,g3,g4,g5⟩:=h1;have g5:cP S' x= .ptr id (i.toNat*e.z+off):=g5;exact fQ Mm F rfl h (v:= .ptr id (i.toNat*e.z+off)) (by simp only[dP,g5]) ⟨⟨e,id,g1,g2,g3,g4,rfl⟩,bW _ _⟩
  .cases h
 |binOp op t x y t'=>
  simp only[Be]at h;obtain⟨v,w,h1,h2,h3⟩:=aEx hU hT (x:=x) (y:=y) h (TB hU (cX F x).1) (TB hU (cX F y).1);have h2:lT P op t x y (cP S' x) (cP S' y)=some w:=h2;exact fQ Mm F rfl h1 (by simp only[dP,h2,aK]) ⟨h3,bW _ _⟩
 |unOp op t x=>
  simp only[Be]at h;obtain⟨v,w,h1,h2,h3⟩:=aJw (P:=P) h (cX F x).1;have h2:aSW P op (cP S' x)=some w:=h2;exact fQ Mm F rfl h1 (by simp only[dP,h2,aK]) ⟨h3,bW _ _⟩
 |convert s d x=>
  simp only[Be]at h;obtain⟨v,w,h1,h2,h3⟩:=Xi hT h (cX F x).1;rcases h3 with h3|⟨hs,h3,h4⟩
  .have h3:tU P s d (cP S' x)=some w:=h3;exact fQ Mm F rfl h1 (by simp only[dP,h3,aK]) ⟨h2,bW _ _⟩
  .have h3:tU P s d (cP S' x)=none:=h3;have h4:wU P s d (cP S' x)=some w:=h4;refine⟨c,_,S,M,w,false,S',p,h1,?_,leC.refl c,⟨h2,bW _ _⟩,F,Mm,λhw=>hw,aS _⟩
   rw[hs];simp only[DH,cL,A8,dP,h3,Option.map_none,aI,h4,aK]
 |makeFunc fn first captured=>
  simp only[Be]at h;split at h
  .rename_i f ks h1 h2;refine fQ Mm F rfl h (v:= .fn f (wks (first.toList.map (cP S'))) (wks (captured.toList.map (cP S')))) rfl ⟨⟨_,?_,Ks F h2⟩,bW _ _⟩
   rw[h1];rfl
  .cases h
 |fieldAddr s x f=>
  simp only[Be]at h;have h1:=(cX F x).1;split at h
  .rename_i n k off path ht hx;rw[hx]at h1;obtain⟨e,id,g1,g2,g3⟩:=h1;have g3:cP S' x= .ptr id off:=g3;cases hf:Nat.blt f (U.fs n).length with
   |false=>rw[hf]at h;cases h
   |true=>
    rw[hf]at h;rw[gQ,aD]at hf;have:=(oL hU hT ht hf).1 id off;exact fQ Mm F rfl h (by simp only[dP,g3,this,aK]) ⟨⟨e,id,g1,g2,rfl⟩,bW _ _⟩
  .rename_i n v ht hx;rw[hx]at h1;cases hb:v.t.beq (.rc n)with
   |false=>rw[hb]at h;cases h
   |true=>
    rw[hb]at h;simp only[aI]at h;split at h
    .rename_i w hw;obtain⟨q1,h2,h3⟩:=FC hU hT ht hb hw h1;have h2:gY P s (cP S' x) f=some q1:=h2;exact fQ Mm F rfl h (by simp only[dP,h2,aK]) ⟨h3,bW _ _⟩
    .cases h
  .rename_i n k i off path ht hx;rw[hx]at h1;obtain⟨e,id,g1,g2,g3,g4,g5⟩:=h1;have g5:cP S' x= .ptr id (i.toNat*e.z+off):=g5;cases hf:Nat.blt f (U.fs n).length with
   |false=>rw[hf]at h;cases h
   |true=>
    rw[hf]at h;rw[gQ,aD]at hf;have:=(oL hU hT ht hf).1 id (i.toNat*e.z+off);exact fQ Mm F rfl h (v:= .ptr id (i.toNat*e.z+off+jM U n f)) (by simp only[dP,g5,this,aK]) ⟨⟨e,id,g1,g2,g3,g4,by simp only[Nat.add_assoc]⟩,bW _ _⟩
  .cases h
 |field t x f=>
  simp only[Be]at h;have h1:=cX F x;split at h
  .rename_i n v rs ht hx;rw[hx]at h1;cases hb:v.t.beq (.rc n)with
   |false=>rw[hb]at h;cases h
   |true=>
    rw[hb]at h;simp only[aI]at h;split at h
    .rename_i w hw;obtain⟨q1,h2,h3⟩:=WP hU hT ht hb hw h1;exact fQ Mm F rfl h (by simp only[dP,h2,aK]) h3
    .cases h
  .cases h
 |indexAddr t x i=>
  simp only[Be]at h;have h1:=(cX F x).1;have h2:=(cX F i).1;split at h
  .rename_i e e' l k n ht hx hi;rw[hx]at h1;rw[hi]at h2;have h2:cP S' i= .v (.int k n):=iF h2;cases he:e.beq e' with
   |false=>rw[he]at h;cases h
   |true=>
    rw[he]at h;obtain⟨y,hy,h⟩:=mD h;obtain⟨q1,g1,g2⟩:=Fh hU hT (k:=k) ht he hy h1;have g1:fR P t (cP S' x) (.v (.int k n))=some q1:=g1;exact fQ Mm F rfl h (by simp only[dP,h2,g1,aK]) ⟨g2,bW _ _⟩
  .rename_i e kk k n ht hx hi;rw[hx]at h1;rw[hi]at h2;have h2:cP S' i= .v (.int k n):=iF h2;split at h
   .rename_i e' l hf;cases he:e.beq e' with
    |false=>rw[he]at h;cases h
    |true=>
     rw[he]at h;have:=Ty.beq_eq he;subst this;obtain⟨hin,h⟩:=eX h;obtain⟨ce,g1,g2⟩:=h1;obtain⟨ce',g1',hn,hz,_⟩:=Mm.bx _ _ hf;rw[g1]at g1';cases g1';obtain⟨fe,hu,gu,_⟩:=hT.un t _ ht;simp only[bV,aC,aD]at hin;rcases g2 with⟨_,hn0,_⟩|⟨id,g3,g4,g5⟩
     .have b1:(0:Int)<=n:=hin.1;have b2:(n:Int)<(l.length:Int):=hin.2;omega
     .have g5:cP S' x= .rs id 0 ce.n:=g5;have po:bV n ce.n=true:=by rw[hn];simp only[bV,aC,aD];exact hin
      refine fQ Mm F rfl h (v:= .ptr id (0+Int.toNat n*cZ U e)) ?_ ⟨⟨ce,id,g1,g3,hin.1,by rw[hn];exact hin.2,by rw[hz,Nat.zero_add,Nat.add_zero]⟩,bW _ _⟩
      simp only[dP,h2,g5,fR,hu,hT.sz _ _ gu,po,aI,aK]
   .cases h
  .rename_i n kk off pp k m ht hx hi;rw[hx]at h1;rw[hi]at h2;have h2:cP S' i= .v (.int k m):=iF h2;cases ha:T.T.arr t with
   |false=>rw[ha]at h;cases h
   |true=>
    rw[ha]at h;obtain⟨j,_,hj,hm,h⟩:=Cg h;obtain⟨len,e,te,hu,hz,hf⟩:=hT.arr t n ht ha;obtain⟨ce,id,g1,g2,g3⟩:=h1;have g3:cP S' x= .ptr id off:=g3;rw[hf,List.length_replicate,Nat.zero_add]at hj;have hin:bV m len=true:=by rw[hm];simp only[bV,aC,aD];omega
    have ho:jM U n j=j*cZ U te:=by rw[jM,hf,List.take_replicate,Nat.min_eq_left (by omega)];exact Ds _ _
    refine fQ Mm F rfl h (v:= .ptr id (off+Int.toNat m*cZ U te)) ?_ ⟨⟨ce,id,g1,g2,by rw[ho,hm];rfl⟩,bW _ _⟩
    simp only[dP,h2,g3,fR,hu,hz,hin,aI,aK]
  .rename_i n v k m ht hx hi;rw[hx]at h1;rw[hi]at h2;have h2:cP S' i= .v (.int k m):=iF h2;cases hb:(T.T.arr t&&v.t.beq (.rc n))with
   |false=>rw[hb]at h;cases h
   |true=>
    rw[hb]at h;rw[aC]at hb;rw[aI]at h;obtain⟨j,_,hj,hm,h5⟩:=Cg h;clear h;subst hm;split at h5
    .rename_i w hw;obtain⟨q1,g2,g3⟩:=Fi (k:=k) hU hT ht hb.1 hb.2 hw h1;have g2:fR P t (cP S' x) (.v (.int k (j:Int)))=some q1:=g2;exact fQ Mm F rfl h5 (by simp only[dP,h2,g2,aK]) ⟨g3,bW _ _⟩
    .cases h5
  .cases h
 |index t x i=>
  simp only[Be]at h;have h1:=(cX F x).1;have h2:=(cX F i).1;split at h
  .rename_i s k n ht hx hi;rw[hx]at h1;rw[hi]at h2;have h2:cP S' i= .v (.int k n):=iF h2;obtain⟨b,hb,h⟩:=mD h;have g1:=V7 hT (k:=k) ht hb h1;have g1:wT P t (cP S' x) (.v (.int k n))=some (.v (.int .u8 (b.toNat:Int))):=g1;exact fQ Mm F rfl h (by simp only[dP,h2,g1,aK]) ⟨gN _ _,bW _ _⟩
  .cases h
 |extract x i=>
  simp only[Be]at h;have h1:=(cX F x).1;split at h
  .rename_i l hx;rw[hx]at h1;obtain⟨ps,g1,g2⟩:=h1;have g1:cP S' x= .tup ps:=g1;split at h
   .rename_i v hv;have g3:ps[i]?=some (dB U v.t v.x):=by rw[g2,List.getElem?_map,hv];rfl
    cases ko:(take&&Nat.beq i 0)with
    |false=>
     rw[ko,aJ]at h;refine fQ Mm F rfl h (by simp only[dP,g1,ko,aJ,g3,aK]) ⟨⟨Qs hU _ _,AA (qW hU _ _)⟩,bW _ _⟩
    |true=>
     rw[ko,aI]at h;have hi:=ko;simp only[aC,cQ,aD]at hi;obtain⟨_,rfl⟩:=hi;refine wS Mm rfl h (v:=dB U v.t v.x) (own:=gZ S' x) (S2':=lK S' x) (by simp only[dP,g1,ko,aI,g3,aK]) ⟨⟨Qs hU _ _,AA (qW hU _ _)⟩,?_⟩ (pI F x)
     cases cr:zB v.t with
     |false=>exact bW _ _
     |true=>
      intro o s hm;rcases(cX F x).2 o s hm with⟨ha,_⟩|⟨ho,_,hw,hs⟩
      .have ha:isAgg (cP S' x)=true:=ha;rw[g1]at ha;cases ha
      .have hw:(gZ S' x||jW (cP S' x))=true:=hw;rw[g1,show jW (.tup ps)=false from rfl,Bool.or_false]at hw
       have hg:gd (dB U v.t v.x)=true:=by
        obtain⟨vt,vx⟩:=v;cases vt with
        |sl t=>exact eJ _ _
        |_=>cases cr
       refine .inr ⟨ho,?_,by show(gZ S' x||_)=true;rw[hw];rfl,λ_=>xN hg⟩
       refine mI (U:=U) (v:=v) ⟨Qs hU _ _,AA (qW hU _ _)⟩ ?_;cases gt:v.t with
       |rc n=>rw[gt]at cr;cases cr
       |_=>rfl
   .cases h
  .cases h
 |load t a=>
  simp only[Be]at h;obtain⟨x,M',v,own,p',h1,h2,h3,h4,h5⟩:=aLT hU hT h (cX F a).1 Mm;refine⟨c,x,S,M',v,own,S',p',h1,?_,leC.refl c,h3,F,h4,h5,Lq h2⟩;have:lJ P p S' ⟨dst,.load t a,ty,pos,ji,jh⟩ take=some (v,own,p'):=by
   simp only[lJ];unfold rP at h2;exact h2
  simp only[DH,cL,this,aK]
 |slice t x lo hi mx=>
  simp only[Be]at h;obtain⟨y,w,own,h1,h2,h3⟩:=aJR hT F (p:=p) h (cX F x).1;have h2:kE P p t (cP S' x) (lo.map (cP S')) (hi.map (cP S')) (mx.map (cP S'))=some (w,own):=h2;exact⟨c,y,S,M,w,own,S',p,h1,by simp only[DH,cL,lJ,h2,aK],leC.refl c,h3,F,Mm,λhw=>hw,aS _⟩
 |alloc t=>
  simp only[Be]at h;obtain⟨c',x,M',v,p',h1,h2,h3,h4,h5,h6⟩:=aNX hU hT (S':=S') (o:=⟨dst,.alloc t,ty,pos,ji,jh⟩) rfl h Mm;exact⟨c',x,S,M',v,false,S',p',h1,by simp only[DH,cL,h2,aK],h3,h4,LP h3 F,h5,h6,rS h2⟩
 |box t x=>
  simp only[Be]at h;obtain⟨c',x,M',v,p',h1,h2,h3,h4,h5,h6⟩:=aNC hU F (P:=P) (o:=⟨dst,.box t x,ty,pos,ji,jh⟩) rfl h Mm;exact⟨c',x,S,M',v,false,S',p',h1,by simp only[DH,cL,h2,aK],h3,h4,LP h3 F,h5,h6,rS h2⟩
 |buildSlice t len parts=>
  simp only[Be]at h;split at h
  .rename_i e ht;cases hb:Nat.ble (len*cZ U e) 1000000 with
   |false=>rw[hb]at h;cases h
   |true=>
    rw[hb]at h;simp only[aI]at h;split at h
    .rename_i l hl;obtain⟨w,h1,h2⟩:=Dd hU hT F (p:=p) (o:=⟨dst,.buildSlice t len parts,ty,pos,ji,jh⟩) rfl ht hb hl;exact⟨c,_,S,M,w,true,S',p,h,by simp only[DH,cL,h1,aK],leC.refl c,h2,F,Mm,λhw=>hw,aS _⟩
    .cases h
  .cases h
 |makeSlice t l k=>
  simp only[Be]at h;obtain⟨c',x,M',v,own,p',h1,h2,h3,h4,h5,h6⟩:=aLv hU hT F (o:=⟨dst,.makeSlice t l k,ty,pos,ji,jh⟩) rfl h Mm;exact⟨c',x,S,M',v,own,S',p',h1,by simp only[DH,cL,h2,aK],h3,h4,LP h3 F,h5,h6,rS h2⟩
 |store t a x=>
  simp only[Be]at h;obtain⟨M',p',h1,h2,h3,h4⟩:=aJN hU hT h (cX F a).1 (cX F x) Mm;have h2:mK P p t (cP S' a) (cP S' x) (gZ S' x)=some p':=h2;exact⟨c,_,_,M',.und,false,lK S' x,p',h1,by simp only[DH,cL,CZ,h2,aK],leC.refl c,⟨trivial,bW _ _⟩,pI F x,h3,h4,HT h2⟩
 |call cl=>
  simp only[Be]at h;split at h
  .rename_i dx;split at h
   .rename_i t x ht hx;obtain⟨y,w,h1,h2,h3⟩:=aCy hT Mm h (cX F x).1;have h2:zY P t (cP S' x)=some w:=h2;exact fQ Mm F (by simp only[cL,dx]) h1 (by simp only[dP,dx,ht,hx,h2,aK]) h3
   .cases h
  .rename_i dx;split at h
   .rename_i x y hx;obtain⟨z,w,h1,h2,h3⟩:=VS (P:=P) (ts:=cl.argTypes) (ty:=ty) h (cX F x).1 (cX F y).1;have h2:mB P false cl.argTypes ty [cP S' x,cP S' y]=some w:=h2;exact fQ Mm F (by simp only[cL,dx]) h1 (by simp only[dP,dx,hx,aO,List.map_nil,h2,aK]) h3
   .cases h
  .rename_i dx;split at h
   .rename_i x y hx;obtain⟨z,w,h1,h2,h3⟩:=VS (P:=P) (ts:=cl.argTypes) (ty:=ty) h (cX F x).1 (cX F y).1;have h2:mB P true cl.argTypes ty [cP S' x,cP S' y]=some w:=h2;exact fQ Mm F (by simp only[cL,dx]) h1 (by simp only[dP,dx,hx,aO,List.map_nil,h2,aK]) h3
   .cases h
  .rename_i dx;split at h
   .rename_i s x hx;obtain⟨y,v,own,h1,h2,h3⟩:=aNS hU hT F h;exact⟨c,y,_,M,v,own,lK S' s,p,h1,by simp only[DH,cL,dx,CZ,hx,h2,aK],leC.refl c,h3,pI F s,Mm,λhw=>hw,aS _⟩
   .cases h
  .rename_i f dx;obtain⟨x,S2,M',v,own,p',g,args,h1,h2,h3,h4,h5,h6,h7,h8⟩:=Xr hU hc F dx h Mm;exact⟨c,x,S2,M',v,own,_,p',h1,by simp only[DH,cL,dx,CZ,h2,h3,aK],leC.refl c,h4,h5,h6,h7,by rw[h8];exact aS _⟩
  .cases h
 |_=>cases h
end
end Go.TV
namespace Go.TV
open Go.AI Go.PI
section
variable{P:Program}{U:gT}{T:TP U.D}{c c0:Cx}{W:Type}{r:W}{q p:PSt}{M:TM U.D}{S:TS U.D}{S':PS}{pc:fI}
def Pf:oE U c (.tup [],[]) (.tup [],false):=⟨⟨[],rfl,rfl⟩,bW _ _⟩
def WB{ops:Array Oper}{o:Oper}{run skip:TS U.D->Option W}(h:aXL U ops o S run skip=some r)(F:kU U c S S'):
    ∃S1,kU U c S1 S'/\((lE ops S' o=some true/\run S1=some r)∨(lE ops S' o=some false/\skip S1=some r)):=by
 unfold aXL at h;split at h
 .rename_i hg;exact⟨S,F,.inl ⟨by simp only[lE,hg],h⟩⟩
 .rename_i j want hg;split at h
  .cases h
  .rename_i d hd;have hs:=F d;split at h
   .rename_i b rr hx;rw[hx]at hs;have hb:(S'.at d).1= .v (.bool b):=of_bool hs.1;have hpw:lE ops S' o=some (b==want):=by simp only[lE,hg,hd,aK,hb]
    have hF: ∀b',b=b'->kU U c ((d,(.val ⟨.bool,b'⟩,rr))::S) S':=λb' e=>JJ F (by rw[<-e];exact hs)
    rcases B4 h with⟨rfl,h⟩|⟨rfl,h⟩
    .cases want with
     |true=>exact⟨_,hF true rfl,.inl ⟨hpw,h⟩⟩
     |false=>exact⟨_,hF true rfl,.inr ⟨hpw,h⟩⟩
    .cases want with
     |true=>exact⟨_,hF false rfl,.inr ⟨hpw,h⟩⟩
     |false=>exact⟨_,hF false rfl,.inl ⟨hpw,h⟩⟩
   .rename_i rr hx;rw[hx]at hs;obtain⟨ps,e1,e2⟩:=hs.1;have hb:(S'.at d).1= .tup []:=by rw[e1,e2];rfl
    exact⟨S,F,.inr ⟨by simp only[lE,hg,hd,aK,hb],h⟩⟩
   .cases h
variable(hU:gO U)(hT:oQ P U T)
include hU hT
def QH{oA oI oS:Oper}{K:TS U.D->Option W}(h:aED U T oA oI oS S K=some r)(F:kU U c S S'):
    ∃S1 S1',K S1=some r/\DJ P S' oA oI oS=some S1'/\kU U c S1 S1':=by
 unfold aED at h;split at h
 .rename_i cl a t1 a' n b t2 b' x e1 e2 e3 e4 e5 e6;split at h
  .rename_i s zz e7 e8;cases hb:Nat.beq a a'&&Nat.beq b b'&& !Nat.beq a b&& !Gy a n&& !Gy a x&& !Gy b x&&oA.guard.isNone&&oI.guard.isNone&&oS.guard.isNone with
   |false=>rw[hb]at h;cases h
   |true=>
    rw[hb]at h;simp only[aI]at h;obtain⟨y,w,v,h1,h2,h3,h4⟩:=aEE hU hT F h;refine⟨_,((lK S' s).put (some a) v true).put (some b) (Sx v) false,h1,by simp only[DJ,e1,e2,e3,e4,e5,e6,e7,e8,hb,aI,h2,aK],?_⟩
    exact qL (qL (pI F s) h3) ⟨h4,bW _ _⟩
  .cases h
 .cases h
def runT_ok{tc:kX U.D}(hc:CallOK U T tc pc){ops:Array Oper}{K:TS U.D->TM U.D->Option W}: ∀(sc:List TStep) (S:TS U.D) (M:TM U.D) (S':PS) (p:PSt) (c:Cx),kU U c S S'->MR U q c0 c M p->CU U T tc ops sc S M K=some r->
    ∃c' S1 M1 S1' p',K S1 M1=some r/\tK P pc ops (sc.map TStep.un) S' p=some (S1',p')/\leC c c'/\kU U c' S1 S1'/\MR U q c0 c' M1 p'/\p.next<=p'.next
 |[],S,M,S',p,c,F,Mm,h=>⟨c,S,M,S',p,h,rfl,leC.refl c,F,Mm,aS _⟩
 | .app a i s::rest,S,M,S',p,c,F,Mm,h=>by
  unfold CU at h;split at h
  .rename_i oA oI oS e1 e2 e3;obtain⟨S1,S1',h1,h2,h3⟩:=QH hU hT h F;obtain⟨c',S2,M2,S2',p',g1,g2,g3⟩:=runT_ok hc rest S1 M S1' p c h3 Mm h1;refine⟨c',S2,M2,S2',p',g1,?_,g3⟩;simp only[aO,TStep.un,tK,e1,e2,e3,h2,g2]
  .cases h
 | .freeze t::rest,S,M,S',p,c,F,Mm,h=>by
  unfold CU at h;split at h
  .rename_i R hR;obtain⟨S1',p1,h1,h2,h3,h4⟩:=LO hU F hR Mm;obtain⟨c',S2,M2,S2',p',g1,g2,g3,g4,g5,g6⟩:=runT_ok hc rest R.1 R.2 S1' p1 c h2 h3 h;refine⟨c',S2,M2,S2',p',g1,?_,g3,g4,g5,Nat.le_trans (pfreeze_next h1) g6⟩;simp only[aO,TStep.un,tK,h1,g2]
  .cases h
 | .op i take inst bk::rest,S,M,S',p,c,F,Mm,h=>by
  unfold CU at h;split at h
  .cases h
  .rename_i o ho;obtain⟨S0,F0,h|h⟩:=WB h F
   .obtain⟨hw,h⟩:=h;obtain⟨c1,x,S1,M1,v,own,S1',p1,h1,h2,h3,h4,h5,h6,_,h7⟩:=Vl hU hT hc F0 Mm h;obtain⟨c',S2,M2,S2',p',g1,g2,g3,g4,g5,g6⟩:=runT_ok hc rest _ M1 _ p1 c1 (vY h5 h4) h6 h1;refine⟨c',S2,M2,S2',p',g1,?_,leC.trans h3 g3,g4,g5,Nat.le_trans h7 g6⟩;simp only[aO,TStep.un,tK,ho,hw,h2,g2]
   .obtain⟨hw,h⟩:=h;obtain⟨c',S2,M2,S2',p',g1,g2,g3⟩:=runT_ok hc rest _ M _ p c (vY F0 Pf) Mm h;refine⟨c',S2,M2,S2',p',g1,?_,g3⟩;simp only[aO,TStep.un,tK,ho,hw,g2]
where
 pfreeze_next {p p1:PSt} {S' S1':PS} {t:Nat} (h:jI p S' t=some (S1',p1)):p.next<=p1.next:=by
  unfold jI at h;split at h
  .rename_i R hR;cases h;unfold aV2 at hR;simp only[Bool.cond_eq_ite]at hR
   repeat' split at hR
   all_goals first|(cases hR;done)|(simp only[aA]at hR;rw[<-hR];exact aS _)
  .cases h
def PX(c:Cx):List KW->List jE->Prop
 |[],[]=>True
 |x::l,y::l'=>(x.i=y.i/\x.stale=y.stale/\x.mr=kF y.o/\(x.mr=false->∃e id,c x.k=some e/\e.id=some id/\aA1 y.o y.a y.v=some id))/\PX c l l'
 |_,_=>False
omit hU hT in
def Lv{c c':Cx}(h:leC c c'): ∀{l:List KW} {l':List jE},PX c l l'->PX c' l l'
 |[],[],_=>trivial
 |x::l,y::l',⟨⟨h1,h2,h3,h4⟩,h5⟩=>⟨⟨h1,h2,h3,λe=>by obtain⟨a,id,g1,g2⟩:=h4 e;exact⟨a,id,h _ _ g1,g2⟩⟩,Lv h h5⟩
 |[],_::_,hh=>hh.elim
 |_::_,[],hh=>hh.elim
omit hU hT in
def An(hw:WR U c M p): ∀{l:List KW} {l':List jE},PX c l l'->E4 M.wr l=true->l'.all (oJ P p)=true
 |[],[],_,_=>rfl
 |x::l,y::l',⟨⟨h1,h2,h3,h4⟩,h5⟩,h=>by
  simp only[E4,aC,Bool.or_eq_true,Bool.not_eq_true']at h;rw[aP,An hw h5 h.2,bE];unfold oJ;rw[<-h2];rcases h.1 with h6|⟨h6,h7⟩
  .rw[h6];rfl
  .obtain⟨e,id,g1,g2,g3⟩:=h4 h6;have:QA p (aA1 y.o y.a y.v)=true:=by
    rw[g3];simp only[QA,Bool.not_eq_true',<-Bool.not_eq_true];intro hm;have:=hw id (by simpa using hm) x.k e g1 g2
    rw[h7]at this;cases this
   rw[this,Bool.true_or,Bool.or_true]
 |[],_::_,hh,_=>hh.elim
 |_::_,[],hh,_=>hh.elim
omit hU hT in
def AH{ms:List Nat}{i:Nat}{ap:Bool}: ∀{l:List KW} {l':List jE},PX c l l'->PX c (Dn ms i ap l) ((l'.filter λr=> !kK (ms.getD i 0) r.i).map λr=>bif ap&& !kF r.o then r else{r with stale:=true})
 |[],[],_=>trivial
 |x::l,y::l',⟨⟨h1,h2,h3,h4⟩,h5⟩=>by
  have ih:=AH (ms:=ms) (i:=i) (ap:=ap) h5;simp only[Dn,List.filter_cons,h1];cases hb:kK (ms.getD i 0) y.i with
  |true=>simpa using ih
  |false=>
   simp only[Bool.not_false,bO,aJ,aO];refine⟨?_,ih⟩;rw[<-h3];cases ap&& !x.mr with
   |true=>simp only[aI];exact⟨h1,h2,h3,h4⟩
   |false=>simp only[aJ];exact⟨trivial,trivial,h3,h4⟩
 |[],_::_,hh=>hh.elim
 |_::_,[],hh=>hh.elim
omit hU hT in
def IH{ms:List Nat}{i:Nat}: ∀{l:List KW} {l':List jE},PX c l l'->PX c (II ms i l) (l'.filter λr=> !kK (ms.getD i 0) r.i)
 |[],[],_=>trivial
 |x::l,y::l',⟨⟨h1,h2,h3,h4⟩,h5⟩=>by
  have ih:=IH (ms:=ms) (i:=i) h5;simp only[II,List.filter_cons,h1];cases hb:kK (ms.getD i 0) y.i with
  |true=>simpa using ih
  |false=>exact⟨⟨h1,h2,h3,h4⟩,ih⟩
 |[],_::_,hh=>hh.elim
 |_::_,[],hh=>hh.elim
omit hU hT in
def P8{ms:List Nat}{i:Nat}: ∀{l:List KW} {l':List jE},PX c l l'->VC ms i l=true->(l'.filter λr=> !kK (ms.getD i 0) r.i).all (λr=> !kF r.o)=true
 |[],[],_,_=>rfl
 |x::l,y::l',⟨⟨h1,h2,h3,h4⟩,h5⟩,h=>by
  simp only[VC,aC,Bool.or_eq_true,Bool.not_eq_true']at h;have ih:=P8 (ms:=ms) (i:=i) h5 h.2;rw[List.filter_cons];cases hb:kK (ms.getD i 0) y.i with
  |true=>simpa using ih
  |false=>
   rw[h1,hb]at h;rcases h.1 with h6|h6
   .cases h6
   .simp only[Bool.not_false,bO,aP,ih,bE];rw[<-h3,h6];rfl
 |[],_::_,hh,_=>hh.elim
 |_::_,[],hh,_=>hh.elim
omit hU hT in
def aK6{o:Oper}{x:X U}{i:Nat}{pend gn:List KW}{pl:List jE}{v:PV}{own:Bool}{c':Cx}(h:aK7 U o S x i pend=some gn)(F:kU U c S S')(hl:leC c c')(hx:oE U c' x (v,own))(hp:PX c' pend pl):
    PX c' gn (bif jO o S' then⟨i,o,mV o S',v,false⟩::pl else pl):=by
 obtain⟨dst,op,ty,pos,ji,jh⟩:=o;have other:(∀t a,op≠ .load t a)->jO ⟨dst,op,ty,pos,ji,jh⟩ S'=false->aK7 U ⟨dst,op,ty,pos,ji,jh⟩ S x i pend=some pend->PX c' gn (bif jO ⟨dst,op,ty,pos,ji,jh⟩ S' then⟨i,⟨dst,op,ty,pos,ji,jh⟩,mV ⟨dst,op,ty,pos,ji,jh⟩ S',v,false⟩::pl else pl):=by
  intro _ h1 h2;rw[h2]at h;cases h;rw[h1];exact hp
 have box: ∀(k:Nat),(∃off nw,x.1= .lc k off nw)->jO ⟨dst,op,ty,pos,ji,jh⟩ S'=true->kF ⟨dst,op,ty,pos,ji,jh⟩=false->(∀a w,aA1 ⟨dst,op,ty,pos,ji,jh⟩ a w=vid w)->PX c' (⟨i,k,false,false⟩::pend) (bif jO ⟨dst,op,ty,pos,ji,jh⟩ S' then⟨i,⟨dst,op,ty,pos,ji,jh⟩,mV ⟨dst,op,ty,pos,ji,jh⟩ S',v,false⟩::pl else pl):=by
  intro k ⟨off,nw,hk⟩ h1 h2 h3;rw[h1];have h4:=hx.1;rw[hk]at h4;obtain⟨e,id,g1,g2,g3⟩:=h4;have g3:v= .ptr id off:=g3;exact⟨⟨rfl,rfl,h2.symm,λ_=>⟨e,id,g1,g2,by simp only[h3];rw[g3];rfl⟩⟩,hp⟩
 cases op with
 |load t a=>
  have h1:=(cX F a).1;simp only[aK7]at h;split at h
  .rename_i k off nw ha;rw[ha]at h1;obtain⟨e,id,g1,g2,g3⟩:=h1;have g3:cP S' a= .ptr id off:=g3;cases h;simp only[jO,g3,aI];exact⟨⟨rfl,rfl,rfl,λ_=>⟨e,id,hl _ _ g1,g2,by simp only[aA1,mV,g3,aOJ]⟩⟩,hp⟩
  .rename_i k ii off nw ha;rw[ha]at h1;obtain⟨e,id,g1,g2,_,_,g3⟩:=h1;have g3:cP S' a= .ptr id (ii.toNat*e.z+off):=g3;cases h;simp only[jO,g3,aI];exact⟨⟨rfl,rfl,rfl,λ_=>⟨e,id,hl _ _ g1,g2,by simp only[aA1,mV,g3,aOJ]⟩⟩,hp⟩
  .rename_i w ha;rw[ha]at h1;obtain⟨es,ii,off,e,g1,_⟩:=h1;have g1:cP S' a= .pin es ii off:=g1;cases h;simp only[jO,g1,aJ];exact hp
  .cases h
 |alloc t=>
  simp only[aK7]at h;split at h
  .rename_i k off nw hk;cases h;exact box k ⟨off,nw,hk⟩ rfl rfl λ_ _=>rfl
  .cases h
 |box t y=>
  simp only[aK7]at h;split at h
  .rename_i k off nw hk;cases h;exact box k ⟨off,nw,hk⟩ rfl rfl λ_ _=>rfl
  .cases h
 |makeSlice t l k=>
  simp only[aK7,aA]at h;subst h;exact⟨⟨rfl,rfl,rfl,λe=>by cases e⟩,hp⟩
 |_=>exact other (λ_ _ e=>by cases e) rfl rfl
def oZ{tc:kX U.D}(hc:CallOK U T tc pc){ops:Array Oper}{ms:List Nat}{K:TS U.D->TM U.D->Option W}: ∀(sc:List TStep) (pend:List KW) (pl:List jE) (S:TS U.D) (M:TM U.D) (S':PS) (p:PSt) (c:Cx),kU U c S S'->MR U q c0 c M p->WR U c M p->PX c pend pl->
    qT U T tc ops ms sc pend S M K=some r->
    ∃c' S1 M1 S1' p',K S1 M1=some r/\jV P pc ops ms (sc.map TStep.un) pl S' p=some (S1',p')/\leC c c'/\kU U c' S1 S1'/\MR U q c0 c' M1 p'/\p.next<=p'.next
 |[],pend,pl,S,M,S',p,c,F,Mm,β,Pd,h=>by
  unfold qT at h;cases hb:E4 M.wr pend with
  |false=>rw[hb]at h;cases h
  |true=>
   rw[hb]at h;exact⟨c,S,M,S',p,h,by simp only[List.map_nil,jV,An β Pd hb,aI],leC.refl c,F,Mm,aS _⟩
 | .app a i s::rest,pend,pl,S,M,S',p,c,F,Mm,β,Pd,h=>by
  unfold qT at h;split at h
  .rename_i oA oI oS e1 e2 e3;obtain⟨S1,S1',h1,h2,h3⟩:=QH hU hT h F;cases hb:E4 M.wr pend&&VC ms a pend with
   |false=>rw[hb]at h1;cases h1
   |true=>
    rw[hb]at h1;simp only[aC]at hb;have hpd:=IH (ms:=ms) (i:=s) (AH (ms:=ms) (i:=a) (ap:=true) Pd);obtain⟨c',S2,M2,S2',p',g1,g2,g3⟩:=oZ hc rest _ _ S1 M S1' p c h3 Mm β hpd h1;refine⟨c',S2,M2,S2',p',g1,?_,g3⟩;simp only[aO,TStep.un,jV,e1,e2,e3,h2,An β Pd hb.1,P8 Pd hb.2,Bool.and_self,aI];simpa using g2
  .cases h
 | .freeze t::rest,pend,pl,S,M,S',p,c,F,Mm,β,Pd,h=>by
  unfold qT at h;split at h
  .rename_i R hR;obtain⟨S1',p1,h1,h2,h3,h4⟩:=LO hU F hR Mm;obtain⟨c',S2,M2,S2',p',g1,g2,g3,g4,g5,g6⟩:=oZ hc rest pend pl R.1 R.2 S1' p1 c h2 h3 (h4 β) Pd h;refine⟨c',S2,M2,S2',p',g1,?_,g3,g4,g5,Nat.le_trans (runT_ok.pfreeze_next h1) g6⟩;simp only[aO,TStep.un,jV,h1,g2]
  .cases h
 | .op i take inst bk::rest,pend,pl,S,M,S',p,c,F,Mm,β,Pd,h=>by
  unfold qT at h;split at h
  .cases h
  .rename_i o ho;obtain⟨S0,F0,h|h⟩:=WB h F
   .obtain⟨hw,h⟩:=h;obtain⟨c1,x,S1,M1,v,own,S1',p1,h1,h2,h3,h4,h5,h6,hW,h7⟩:=Vl hU hT hc F0 Mm h;cases he:jX o with
    |true=>
     rw[he]at h1;simp only[aI]at h1;cases hb:E4 M.wr pend with
     |false=>rw[hb]at h1;cases h1
     |true=>
      rw[hb]at h1;have hpd:=AH (ms:=ms) (i:=i) (ap:=mM o) (Lv h3 Pd);obtain⟨c',S2,M2,S2',p',g1,g2,g3,g4,g5,g6⟩:=oZ hc rest _ _ _ M1 _ p1 c1 (vY h5 h4) h6 (hW β) hpd h1;refine⟨c',S2,M2,S2',p',g1,?_,leC.trans h3 g3,g4,g5,Nat.le_trans h7 g6⟩;simp only[aO,TStep.un,jV,ho,hw,h2,he,An β Pd hb,aI];exact g2
    |false=>
     rw[he]at h1;simp only[aJ]at h1;split at h1
     .rename_i gn hpe;have hpd:=aK6 hpe F0 h3 h4 (Lv h3 Pd);obtain⟨c',S2,M2,S2',p',g1,g2,g3,g4,g5,g6⟩:=oZ hc rest _ _ _ M1 _ p1 c1 (vY h5 h4) h6 (hW β) hpd h1;refine⟨c',S2,M2,S2',p',g1,?_,leC.trans h3 g3,g4,g5,Nat.le_trans h7 g6⟩;simp only[aO,TStep.un,jV,ho,hw,h2,he,aJ];exact g2
     .cases h1
   .obtain⟨hw,h⟩:=h;obtain⟨c',S2,M2,S2',p',g1,g2,g3⟩:=oZ hc rest pend pl _ M _ p c (vY F0 Pf) Mm β Pd h;refine⟨c',S2,M2,S2',p',g1,?_,g3⟩;simp only[aO,TStep.un,jV,ho,hw,g2]
end
end Go.TV
namespace Go.TV
open Go.AI Go.PI
section
variable{P:Program}{U:gT}{T:TP U.D}{c c0:Cx}{W:Type}{r:W}{q p:PSt}{M:TM U.D}{S:TS U.D}{S':PS}{pc:fI}
def K1(c:Cx)(l:List Nat):Cx:=λk=>bif dQ k l then c k else none
def Bg{c:Cx}{l:List Nat}{k:Nat}{e:Ce}(h:K1 c l k=some e):c k=some e/\dQ k l=true:=by
 unfold K1 at h;cases hb:dQ k l with
 |true=>rw[hb]at h;exact⟨h,rfl⟩
 |false=>rw[hb]at h;cases h
def Bf{c:Cx}{l:List Nat}{k:Nat}{e:Ce}(h:c k=some e)(hm:dQ k l=true):K1 c l k=some e:=by
 unfold K1;rw[hm];exact h
def FW{l:List Nat}: ∀{caps:List Nat} {ps:List PV},yF caps l=true->tQ c caps ps->tQ (K1 c l) caps ps
 |[],[],_,_=>trivial
 |k::ks,x::ps,h,⟨⟨e,id,h1,h2,h3⟩,h4⟩=>by
  simp only[yF,aC]at h;exact⟨⟨e,id,Bf h1 h.1,h2,h3⟩,FW h.2 h4⟩
 |[],_::_,_,h=>h.elim
 |_::_,[],_,h=>h.elim
def Dq: ∀{l:List (V U)} {ts:List Ty},Dr U l ts=true->l.length=ts.length
 |[],[],_=>rfl
 |v::l,t::ts,h=>by
  simp only[Dr,aC]at h;simp only[aM,Dq h.2]
 |[],_::_,h=>by cases h
 |_::_,[],h=>by cases h
def aCQ(hU:gO U){l:List Nat}{sh:Sh}{s:SV U.D}{d:List (V U)}{pv:PV}(h:tO U l sh s=some d)(r:rG U c s pv):
    ∃s',(∀rest,Li U sh (d++rest)=some (s',rest))/\rG U (K1 c l) s' pv:=by
 cases sh with
 |val t=>
  simp only[tO]at h;split at h
  .rename_i v hv;cases h;obtain⟨h1,h2⟩:=kM hU hv r;refine⟨.val v,λrest=>?_,h2⟩
   simp only[aR,Li,h1,Ty.beq_rfl,aI]
  .cases h
 |tup ts=>
  cases s with
  |tup vs=>
   simp only[tO]at h;cases hb:Dr U vs ts with
   |false=>rw[hb]at h;cases h
   |true=>
    rw[hb]at h;simp only[aI,aA]at h;subst h;refine⟨.tup vs,λrest=>?_,r⟩
    have:=Dq hb;simp only[Li,<-this,List.take_left,List.drop_left,hb,aI]
  |_=>cases h
 |nl=>
  cases s with
  |nl=>simp only[tO,aA]at h;subst h;exact⟨.nl,λrest=>rfl,r⟩
  |_=>cases h
 |lc k off path=>
  cases s with
  |lc k' fh mf=>
   simp only[tO]at h;cases hb:Nat.beq k k'&&Nat.beq off fh&&tP path mf&&dQ k l with
   |false=>rw[hb]at h;cases h
   |true=>
    rw[hb]at h;simp only[aI,aA]at h;subst h;simp only[aC,cQ,aD]at hb;obtain⟨⟨⟨rfl,rfl⟩,_⟩,hm⟩:=hb;obtain⟨e,id,g1,g2,g3⟩:=r;exact⟨.lc k off path,λrest=>rfl,e,id,Bf g1 hm,g2,g3⟩
  |_=>cases h
 |ep t=>
  cases s with
  |ep v=>
   simp only[tO]at h;cases hb:v.t.beq t with
   |false=>rw[hb]at h;cases h
   |true=>
    rw[hb]at h;simp only[aI,aA]at h;subst h;refine⟨.ep v,λrest=>?_,r⟩
    simp only[aR,Li,hb,aI]
  |_=>cases h
 |rw k=>
  cases s with
  |rw k'=>
   simp only[tO]at h;cases hb:Nat.beq k k'&&dQ k l with
   |false=>rw[hb]at h;cases h
   |true=>
    rw[hb]at h;simp only[aI,aA]at h;subst h;simp only[aC,cQ,aD]at hb;obtain⟨rfl,hm⟩:=hb;obtain⟨e,g1,g2⟩:=r;exact⟨.rw k,λrest=>rfl,e,Bf g1 hm,g2⟩
  |_=>cases h
 |cl f caps=>
  cases s with
  |cl f' co=>
   simp only[tO]at h;cases hb:Nat.beq f f'&&tP caps co&&yF caps l with
   |false=>rw[hb]at h;cases h
   |true=>
    rw[hb]at h;simp only[aI,aA]at h;subst h;simp only[aC,cQ,aD]at hb;obtain⟨⟨rfl,h2⟩,hm⟩:=hb;have:=sZ h2;subst this;obtain⟨ps,g1,g2⟩:=r;exact⟨.cl f caps,λrest=>rfl,ps,g1,FW hm g2⟩
  |_=>cases h
 |nf=>
  cases s with
  |nf=>simp only[tO,aA]at h;subst h;exact⟨.nf,λrest=>rfl,r⟩
  |_=>cases h
 |row t=>cases h
 |no=>simp only[tO,aA]at h;subst h;exact⟨.no,λrest=>rfl,trivial⟩
def Ql(hU:gO U){bl:List Nat}(F:kU U c S S'): ∀{l:List (Nat×Sh×iL)} {d:List (V U)} (rest:List (V U)),WI U bl S l=some d->
    ∃S0,Tt U l (d++rest)=some (S0,rest)/\kU U (K1 c bl) S0 (keeps S' (l.map (·.1)))
 |[],d,rest,h=>by
  simp only[WI,aA]at h;subst h;exact⟨[],rfl,λt=>⟨trivial,bW _ _⟩⟩
 |(t,s,rr)::l,d,rest,h=>by
  unfold WI at h;split at h
  .rename_i a d' ha hd;cases hb:leR rr (kT S t).2 with
   |false=>rw[hb]at h;cases h
   |true=>
    rw[hb]at h;simp only[aI,aA]at h;subst h;obtain⟨s',h1,h2⟩:=aCQ hU ha (F t).1;obtain⟨S0,h3,h4⟩:=Ql hU F rest hd;refine⟨(t,(s',rr))::S0,?_,?_⟩
    .rw[aQ];simp only[Tt,h1,h3]
    .exact qL h4 ⟨h2,aKt hb (F t).2⟩
  .cases h
def MA{bl:List Nat}{sh:Sh}{s:SV U.D}{d:List (V U)}{cs:List (PV×Bool)}(h:tO U bl sh s=some d)(hn:sh≠ .no)(r:uP U c s cs):
    ∃s',(∀rest,Li U sh (d++rest)=some (s',rest))/\uP U (K1 c bl) s' cs:=by
 cases sh with
 |val t=>
  simp only[tO]at h;split at h
  .rename_i v hv;cases h;cases s with
   |val w=>
    simp only[Em]at hv;cases hb:w.t.beq t with
    |false=>rw[hb]at hv;cases hv
    |true=>
     rw[hb]at hv;cases hv;refine⟨.val v,λrest=>?_,r⟩
     simp only[aR,Li,hb,aI]
   |nl=>exact r.elim
   |zr _=>exact r.elim
   |_=>cases hv
  .cases h
 |cl f caps=>
  cases s with
  |cl f' co=>
   simp only[tO]at h;cases hb:Nat.beq f f'&&tP caps co&&yF caps bl with
   |false=>rw[hb]at h;cases h
   |true=>
    rw[hb]at h;simp only[aI,aA]at h;subst h;simp only[aC,cQ,aD]at hb;obtain⟨⟨rfl,h2⟩,hm⟩:=hb;have:=sZ h2;subst this;obtain⟨pv,b,g0,ps,g1,g2⟩:=r;exact⟨.cl f caps,λrest=>rfl,pv,b,g0,ps,g1,FW hm g2⟩
  |_=>cases h
 |nf=>
  cases s with
  |nf=>simp only[tO,aA]at h;subst h;exact⟨.nf,λrest=>rfl,r⟩
  |_=>cases h
 |no=>exact(hn rfl).elim
 |row t=>cases h
 |tup ts=>cases s<;>first|exact r.elim|cases h
 |nl=>cases s<;>first|exact r.elim|cases h
 |lc k off path=>cases s<;>first|exact r.elim|cases h
 |ep t=>cases s<;>first|exact r.elim|cases h
 |rw k=>cases s<;>first|exact r.elim|cases h
def Qm(Mm:MR U q c0 c M p){bl:List Nat}: ∀{l:List (Nat×Sh×iL)} {d:List (V U)} (rest:List (V U)),SN U bl M.bx l=some d->(∀k,dQ k (l.map (·.1))=true->dQ k bl=true)->
    ∃M0,zU U l (d++rest)=some (M0,rest)/\(∀k,dE M0 k=none->dQ k (l.map (·.1))=false)/\(∀k b,dE M0 k=some b->∃e,K1 c bl k=some e/\Ag U (K1 c bl) p e b)
 |[],d,rest,h,_=>by
  simp only[SN,aA]at h;subst h;exact⟨[],rfl,λ_ _=>rfl,λk b h=>by cases h⟩
 |(k,s,rr)::l,d,rest,h,hl=>by
  have dw: ∀k,dQ k (l.map (·.1))=true->dQ k bl=true:=λj hj=>hl j (by simp only[aO,dQ,hj,Bool.or_true])
  have hk:dQ k bl=true:=hl k (by simp only[aO,dQ,Nat.beq_refl,Bool.true_or])
  have iG: ∀(dv dl:List (V U)) (b:BC U.D),SN U bl M.bx l=some dl->d=dv++dl->(∀M1,zU U l (dl++rest)=some (M1,rest)->zU U ((k,s,rr)::l) (dv++(dl++rest))=some ((k,b)::M1,rest))->(∃e,K1 c bl k=some e/\Ag U (K1 c bl) p e b)->
        ∃M0,zU U ((k,s,rr)::l) (d++rest)=some (M0,rest)/\(∀j,dE M0 j=none->dQ j (((k,s,rr)::l).map (·.1))=false)/\(∀j b,dE M0 j=some b->∃e,K1 c bl j=some e/\Ag U (K1 c bl) p e b):=by
   intro dv dl b hd he hu hb;obtain⟨M1,h1,h2,h3⟩:=Qm Mm rest hd dw;refine⟨(k,b)::M1,by rw[he,aQ];exact hu M1 h1,λj hj=>?_,λj b' hj=>?_⟩
   .rw[gD]at hj;by_cases e1:j=k
    .rw[bI e1]at hj;cases hj
    .rw[bH e1]at hj;simp only[aO,dQ,h2 j hj,Bool.or_false];exact S9 λe=>e1 e.symm
   .rw[gD]at hj;by_cases e1:j=k
    .rw[bI e1]at hj;simp only[aA]at hj;subst hj;rw[e1];exact hb
    .rw[bH e1]at hj;exact h3 j b' hj
  unfold SN at h;split at h
  .rename_i Da rs d' hf hd;obtain⟨e,he,id,cs,hid,bc,hcs,kq⟩:=Mm.bx k _ hf;split at h
   .cases h
   .cases h
   .rename_i s0 nr hnn;split at h
    .rename_i a ha;cases hb:leR rr rs with
     |false=>rw[hb]at h;cases h
     |true=>
      rw[hb]at h;simp only[aI,aA]at h;obtain⟨s',g1,g2⟩:=MA ha (λe=>hnn e) hcs
      have hun: ∀M1,zU U l (d'++rest)=some (M1,rest)->zU U ((k,s,rr)::l) (a++(d'++rest))=some ((k,.bx s' rr)::M1,rest):=by
       intro M1 hM1;have: ∀d2,zU U ((k,s,rr)::l) d2=(match Li U s d2 with|some (x,d')=>(match zU U l d' with|some (M,qb)=>some ((k,.bx x rr)::M,qb)|none=>none)|none=>none):=by
        intro d2;cases s with
        |row t=>exact(nr t rfl).elim
        |_=>cases d2<;>first|rfl|(simp only[zU])
       rw[this,g1];simp only[hM1]
      exact iG a d' (.bx s' rr) hd h.symm hun ⟨e,Bf he hk,id,cs,hid,bc,g2,EO hb kq⟩
    .cases h
  .rename_i et v d' hf hd;split at h
   .rename_i t;cases hb:et.beq t with
    |false=>rw[hb]at h;cases h
    |true=>
     rw[hb]at h;simp only[aI,aA]at h;obtain⟨e,he,hr⟩:=Mm.bx k _ hf;refine iG [⟨.sl et,v⟩] d' (.row et v) hd h.symm (λM1 hM1=>?_) ⟨e,Bf he hk,hr⟩
     simp only[aR,zU,hb,aI,hM1]
   .cases h
  .cases h
end
end Go.TV
namespace Go.TV
open Go.AI Go.PI
section
variable{P:Program}{U:gT}{T:TP U.D}{c c0:Cx}{W:Type}{r:W}{q p:PSt}{M:TM U.D}{S:TS U.D}{S':PS}{pc:fI}
def Fy(hU:gO U){ct:Cut}{d:List (V U)}(h:LR U ct S M=some d)(F:kU U c S S')(Mm:MR U q c0 c M p):
    ∃S0 M0 c',EH U ct d=some (S0,M0)/\kU U c' S0 (keeps S' ct.ts)/\MR U q c0 c' M0 p:=by
 unfold LR at h;split at h
 .rename_i a b ha hb;cases h;obtain⟨S0,h1,h2⟩:=Ql hU F b ha;obtain⟨M0,h3,h4,h5⟩:=Qm Mm [] hb (λ_ h=>h)
  rw[bA]at h3;refine⟨S0,⟨M0,[]⟩,K1 c (ct.bx.map (·.1)),by simp only[EH,h1,h3],h2,?_⟩
  refine⟨λk hk=>?_,h5,λk e id g1 g2=>Mm.lt k e id (Bg g1).1 g2,λk k' e e' id g1 g2 g3 g4=>Mm.inj k k' e e' id (Bg g1).1 (Bg g2).1 g3 g4,Mm.next,λk e g1 g2=>Mm.bor k e (Bg g1).1 g2,λk e id g1 g2 g3=>Mm.loc k e id (Bg g1).1 g2 g3,Mm.old,Mm.dirty,Mm.wr⟩
  unfold K1;rw[h4 k hk];rfl
 .cases h
def MR.cln(Mm:MR U q c0 c M p):MR U q c0 c ⟨M.bx,[]⟩ (PI.cln p):=
 ⟨Mm.dom,λk b h=>by obtain⟨e,h1,h2⟩:=Mm.bx k b h;exact⟨e,h1,tH h2 λ_ _=>rfl⟩,Mm.lt,Mm.inj,Mm.next,Mm.bor,Mm.loc,Mm.old,Mm.dirty,λid hi=>by cases hi⟩
def MR.dty{p':PSt}(Mm:MR U q c0 c M p'){c1:Cx}{M1:TM U.D}(Mp:MR U q c0 c1 M1 p)(hn:p.next<=p'.next):MR U q c0 c M (PI.dty p p'):=
 ⟨Mm.dom,λk b h=>by obtain⟨e,h1,h2⟩:=Mm.bx k b h;exact⟨e,h1,tH h2 λ_ _=>rfl⟩,Mm.lt,Mm.inj,Mm.next,Mm.bor,Mm.loc,Mm.old,Mm.dirty,λid hi=>by
  have hi:id∈p'.wr.foldr CQ p.wr:=hi;rw[eP]at hi;rcases hi with h|h
  .exact Mm.wr id h
  .obtain⟨h1,h2⟩:=Mp.wr id h;exact⟨Nat.lt_of_lt_of_le h1 hn,h2⟩⟩
variable(hU:gO U)(hT:oQ P U T)
include hU hT
def aHO(P:Program)(U:gT)(T:TP U.D)(q:PSt)(c0:Cx)(run:{W:Type}->TS U.D->TM U.D->TK U.D W->Option W)(prun:PS->PSt->Option (Fl×PS×PSt)):Prop:=
 ∀(W:Type) (K:TK U.D W) (r:W) (S:TS U.D) (M:TM U.D) (S':PS) (p:PSt) (c:Cx),kU U c S S'->MR U q c0 c M p->run S M K=some r->
  ∃fl c' S1 M1 S1' p',K fl S1 M1=some r/\prun S' p=some (fl,S1',p')/\kU U c' S1 S1'/\MR U q c0 c' M1 p'/\p.next<=p'.next
omit hU hT in
def IT(hU:gO U){ct:Cut}{run:{W:Type}->TS U.D->TM U.D->TK U.D W->Option W}{prun:PS->PSt->Option (Fl×PS×PSt)}(hr:aHO P U T q c0 run prun){K:TK U.D W}:
    ∀(n:Nat) (d:List (V U)) (S0:TS U.D) (M0:TM U.D) (S':PS) (p:PSt) (c:Cx),EH U ct d=some (S0,M0)->kU U c S0 (keeps S' ct.ts)->MR U q c0 c M0 p->Bs U ct (λS M K=>run S M K) K n d=some r->
    ∃fl c' S1 M1 S1' p',K fl S1 M1=some r/\vR (λS p=>prun (keeps S ct.ts) p) n S' p=some (fl,S1',p')/\kU U c' S1 S1'/\MR U q c0 c' M1 p'/\p.next<=p'.next
 |0,d,S0,M0,S',p,c,hu,F,Mm,h=>by cases h
 |n+1,d,S0,M0,S',p,c,hu,F,Mm,h=>by
  simp only[Bs,lN,hu]at h;obtain⟨fl,c1,S1,M1,S1',p1,h1,h2,h3,h4,h5⟩:=hr W _ r S0 M0 _ p c F Mm h;cases fl with
  |normal=>
   simp only[gP]at h1;split at h1
   .rename_i d' hd;obtain⟨S2,M2,c2,g1,g2,g3⟩:=Fy hU hd h3 h4;obtain⟨fl,c',S3,M3,S3',p3,k1,k2,k3,k4,k5⟩:=IT hU hr n d' S2 M2 S1' p1 c2 g1 g2 g3 h1;exact⟨fl,c',S3,M3,S3',p3,k1,by simp only[vR,h2,k2],k3,k4,Nat.le_trans h5 k5⟩
   .cases h1
  |exit id=>exact⟨_,c1,S1,M1,S1',p1,h1,by simp only[vR,h2],h3,h4,h5⟩
  |ret=>exact⟨_,c1,S1,M1,S1',p1,h1,by simp only[vR,h2],h3,h4,h5⟩
omit hU hT in
def Vm{q:PSt}{c0 c:Cx}{ops:Array Oper}{S:TS U.D}{M:TM U.D}{S':PS}{p:PSt}(F:kU U c S S')(Mm:MR U q c0 c M p)(h:DM U ops S M=true):Bh ops S' p=true:=by
 unfold DM at h;unfold Bh;split at h
 .rename_i e;rw[e]
 .rename_i s t e;rw[e];simp only;have r1:=(F s).1;have r2:=(F t).1;split at h
  .rename_i v k o2 p2 e1 e2;rw[e1]at r1;rw[e2]at r2;obtain⟨es,i,off,_,q1,_⟩:=r1;obtain⟨e',id,q2,q3,q4⟩:=r2;rw[q1,q4];simp only;split at h
   .rename_i bs br hf;obtain⟨e2',q5,id',cs,q6,q7,_⟩:=Mm.bx k _ hf;rw[q2]at q5;cases q5;rw[q3]at q6;cases q6;rw[q7]
   .cases h
  .cases h
 .cases h
def WQ{tc:kX U.D}(hc:CallOK U T tc pc)(L:Nat): ∀(code:TC),aHO P U T q c0 (λ{W} S M K=>fM U T (W:=W) tc L code S M K) (eM P pc L code.pc):=by
 intro code;induction code with
 |skip=>intro W K r S M S' p c F Mm h;exact⟨.normal,c,S,M,S',p,h,rfl,F,Mm,aS _⟩
 |label l=>intro W K r S M S' p c F Mm h;exact⟨.normal,c,S,M,S',p,h,rfl,F,Mm,aS _⟩
 |region id ops draw ms sc=>
  intro W K r S M S' p c F Mm h;simp only[fM]at h;cases draw with
  |true=>
   obtain⟨c',S1,M1,S1',p',h1,h2,h3,h4,h5,h6⟩:=oZ hU hT hc sc [] [] S ⟨M.bx,[]⟩ S' (PI.cln p) c F Mm.cln (λid hi=>by cases hi) trivial h
   obtain⟨h1,htw⟩:K .normal S1 M1=some r/\DM U ops S1 M1=true:=by
    cases hb:DM U ops S1 M1 with
    |true=>rw[hb,aI]at h1;exact⟨h1,rfl⟩
    |false=>rw[hb]at h1;cases h1
   refine⟨.normal,c',S1,M1,S1',PI.dty p p',h1,?_,h4,h5.dty Mm h6,h6⟩;simp only[TC.pc,eM,aI,h2,WJ,Vm h4 h5 htw,aK]
  |false=>
   obtain⟨c',S1,M1,S1',p',h1,h2,h3,h4,h5,h6⟩:=runT_ok hU hT hc sc S M S' p c F Mm h;refine⟨.normal,c',S1,M1,S1',p',h1,?_,h4,h5,h6⟩;simp only[TC.pc,eM,aJ,h2,aK]
 |seq a b cy fi=>
  intro W K r S M S' p c F Mm h;simp only[fM]at h;obtain⟨fl,c1,S1,M1,S1',p1,h1,h2,h3,h4,h5⟩:=cy W _ r S M S' p c F Mm h;cases fl with
  |normal=>
   obtain⟨fl,c2,S2,M2,S2',p2,g1,g2,g3,g4,g5⟩:=fi W _ r S1 M1 S1' p1 c1 h3 h4 h1;exact⟨fl,c2,S2,M2,S2',p2,g1,by simp only[TC.pc,eM,h2,g2],g3,g4,Nat.le_trans h5 g5⟩
  |exit id=>exact⟨_,c1,S1,M1,S1',p1,h1,by simp only[TC.pc,eM,h2],h3,h4,h5⟩
  |ret=>exact⟨_,c1,S1,M1,S1',p1,h1,by simp only[TC.pc,eM,h2],h3,h4,h5⟩
 |cond x a b cy fi=>
  intro W K r S M S' p c F Mm h;simp only[fM]at h;have h1:=(cX F x).1;split at h
  .rename_i w hx;rw[hx]at h1;have h1:cP S' x= .v (.bool w):=of_bool h1;rcases B4 h with⟨rfl,h⟩|⟨rfl,h⟩
   .obtain⟨fl,c1,S1,M1,S1',p1,g1,g2,g3⟩:=cy W _ r S M S' p c F Mm h;exact⟨fl,c1,S1,M1,S1',p1,g1,by simp only[TC.pc,eM,h1,g2],g3⟩
   .obtain⟨fl,c1,S1,M1,S1',p1,g1,g2,g3⟩:=fi W _ r S M S' p c F Mm h;exact⟨fl,c1,S1,M1,S1',p1,g1,by simp only[TC.pc,eM,h1,g2],g3⟩
  .cases h
 |block id a cy=>
  intro W K r S M S' p c F Mm h;simp only[fM]at h;obtain⟨fl,c1,S1,M1,S1',p1,h1,h2,h3,h4,h5⟩:=cy W _ r S M S' p c F Mm h;cases fl with
  |normal=>exact⟨_,c1,S1,M1,S1',p1,h1,by simp only[TC.pc,eM,h2],h3,h4,h5⟩
  |ret=>exact⟨_,c1,S1,M1,S1',p1,h1,by simp only[TC.pc,eM,h2],h3,h4,h5⟩
  |exit n=>
   simp only[dK]at h1;cases hb:Nat.beq n id with
   |true=>
    rw[hb]at h1;exact⟨_,c1,S1,M1,S1',p1,h1,by simp only[TC.pc,eM,h2,hb,aI],h3,h4,h5⟩
   |false=>
    rw[hb]at h1;exact⟨_,c1,S1,M1,S1',p1,h1,by simp only[TC.pc,eM,h2,hb,aJ],h3,h4,h5⟩
 |loop ct a cy=>
  intro W K r S M S' p c F Mm h;simp only[fM]at h;split at h
  .rename_i d hd;obtain⟨S0,M0,c1,g1,g2,g3⟩:=Fy hU hd F Mm;obtain⟨fl,c',S3,M3,S3',p3,k1,k2,k3⟩:=IT hU cy L d S0 M0 S' p c1 g1 g2 g3 h;exact⟨fl,c',S3,M3,S3',p3,k1,k2,k3⟩
  .cases h
 |exit id=>intro W K r S M S' p c F Mm h;exact⟨.exit id,c,S,M,S',p,h,rfl,F,Mm,aS _⟩
 |ret=>intro W K r S M S' p c F Mm h;exact⟨.ret,c,S,M,S',p,h,rfl,F,Mm,aS _⟩
 |scope a cy=>intro W K r S M S' p c F Mm h;exact cy W K r S M S' p c F Mm h
 |cut ct a cy=>
  intro W K r S M S' p c F Mm h;simp only[fM]at h;split at h
  .rename_i d hd;obtain⟨S0,M0,c1,g1,g2,g3⟩:=Fy hU hd F Mm;simp only[lN,g1]at h;exact cy W K r S0 M0 _ p c1 g2 g3 h
  .cases h
 |ice t a cy=>
  intro W K r S M S' p c F Mm h;simp only[fM]at h;split at h
  .rename_i R hR;obtain⟨S1',p1,h1,h2,h3,h4⟩:=LO hU F hR Mm;obtain⟨fl,c2,S2,M2,S2',p2,g1,g2,g3,g4,g5⟩:=cy W K r R.1 R.2 S1' p1 c h2 h3 h;exact⟨fl,c2,S2,M2,S2',p2,g1,by simp only[TC.pc,eM,h1,g2],g3,g4,Nat.le_trans (runT_ok.pfreeze_next h1) g5⟩
  .cases h
 |other cd=>intro W K r S M S' p c F Mm h;cases h
def EP(F:kU U c S S')(Mm:MR U q c0 c M p): ∀{rs:List ResultVar} {ts:List Ty} {l:List (V U)},CV U T S M rs ts=some l->
    ∃vs,fX P S' p rs=some vs/\List.map (λx=>wk x.1) vs=l.map (λv=>dB U v.t v.x)/\l.map (λv=>v.t)=ts/\
      (∀t v,rs=[.tmp t]->vs=[v]->v=S'.at t)/\(∀v w,vs=[w]->l=[v]->VR U v.t v.x w.1)/\(∀t fv w nn v l',rs= .tmp t::fv->vs=w::nn->l=v::l'->w=S'.at t/\VR U v.t v.x w.1)
 |[],[],l,h=>by
  simp only[CV,aA]at h;subst h;exact⟨[],rfl,rfl,rfl,λ_ _ h=>(by cases h),λ_ _ h=>(by cases h),λ_ _ _ _ _ _ h=>(by cases h)⟩
 | .tmp t::rs,ty::ts,l,h=>by
  unfold CV at h;split at h
  .rename_i v l' hv hl;cases h;obtain⟨h1,h2⟩:=kM hU hv (F t).1;obtain⟨vs,g1,g2,g3,_,_,_⟩:=EP F Mm hl;refine⟨S'.at t::vs,by simp only[fX,pV,g1],by rw[aO,aO,g2,h2.wk],by rw[aO,h1,g3],λt' v' e1 e2=>?_,λv' w e1 e2=>?_,λt' fv w nn v' l'' e1 e2 e3=>?_⟩
   .cases e1;cases e2;rfl
   .cases e1;cases e2;exact h2
   .cases e1;cases e2;cases e3;exact⟨rfl,h2⟩
  .cases h
 | .cell a t::rs,ty::ts,l,h=>by
  unfold CV at h;split at h
  .rename_i k off nw ty' l' hk fj hl;split at h
   .rename_i cv rr hf;split at h
    .rename_i w o hw;cases hb:w.t.beq ty&&ty.beq ty'&&Nat.beq o off with
     |false=>rw[hb]at h;cases h
     |true=>
      rw[hb]at h;simp only[aI,aA]at h;subst h;simp only[aC,cQ,aD]at hb;obtain⟨⟨hb1,hb2⟩,rfl⟩:=hb;have e1:=Ty.beq_eq hb1;have e2:=Ty.beq_eq hb2;subst e2;have hs:=(F a).1;rw[hk]at hs;obtain⟨e,id,m1,m2,m3⟩:=hs;obtain⟨e',m1',id',cs,m2',bc,⟨c1,c2,c3⟩,_⟩:=Mm.bx k _ hf;rw[m1]at m1';cases m1';rw[m2]at m2';cases m2';obtain⟨wt,wx⟩:=w;have e1:wt=ty:=e1;subst e1;obtain⟨g1,_⟩:=sX hU hw (⟨c1,c2⟩:SR cv.t cv.x (cs.map (·.1)));obtain⟨v,k1,k2,k3,k4⟩:=vM hU hT fj g1;have dw:jF P p t (S'.at a).1=some v:=by rw[m3];simp only[jF,bc];exact k1
      obtain⟨vs,g1,g2,g3,_,_,_⟩:=EP F Mm hl;refine⟨(v,false)::vs,by simp only[fX,pV,dw,aK,g1],by rw[aO,aO,g2,k2.wk],by rw[aO,g3],λt' v' e1 e2=>?_,λv' w e1 e2=>?_,λt' fv w nn v' l'' e1 e2 e3=>?_⟩
      .cases e1
      .cases e1;cases e2;exact k2
      .cases e1
    .cases h
   .cases h
  .cases h
 |[],_::_,l,h=>by cases h
 | .tmp _::_,[],l,h=>by cases h
 | .cell _ _::_,[],l,h=>by cases h
omit hU hT in
def EZ(Mm:MR U q c0 c M p): ∀{l:List (Sh×iL)} {bo:List iL} {j:Nat} {d:List (V U)},IE U M l bo j=some d->
    ∃m,fA U l bo d=some m/\(∀i x,m[i]?=some x->∃e,c (j+i)=some e/\Ag U c p e x)
 |[],[],j,d,h=>by
  simp only[IE,aA]at h;subst h;exact⟨[],rfl,λi x h=>by simp at h⟩
 |(s,rr)::l,r::bo,j,d,h=>by
  have next: ∀{x0:BC U.D} {m:List (BC U.D)} {e:Ce},(∀i x,m[i]?=some x->∃e,c (j+1+i)=some e/\Ag U c p e x)->c j=some e->Ag U c p e x0->∀i x,(x0::m)[i]?=some x->∃e,c (j+i)=some e/\Ag U c p e x:=by
   intro x0 m e g2 he k1 i x hx;cases i with
   |zero=>
    simp only[aU,aA]at hx;subst hx;exact⟨e,he,k1⟩
   |succ i=>
    rw[aT]at hx;have:=g2 i x hx
    rwa [show j+1+i=j+(i+1) by omega]at this
  unfold IE at h;split at h
  .rename_i Da rs d' hf hd;obtain⟨e,he,id,cs,hid,bc,hcs,kq⟩:=Mm.bx j _ hf;obtain⟨m,g1,g2⟩:=EZ Mm hd;split at h
   .rename_i t v;cases hb:v.t.beq t&&leR r rs with
    |false=>rw[hb]at h;cases h
    |true=>
     rw[hb]at h;simp only[aI,aA]at h;subst h;simp only[aC]at hb;exact⟨.bx (.val v) r::m,by simp only[fA,g1],next g2 he ⟨id,cs,hid,bc,hcs,EO hb.2 kq⟩⟩
   .rename_i f caps f' co;cases hb:Nat.beq f f'&&tP caps co with
    |false=>rw[hb]at h;cases h
    |true=>
     rw[hb]at h;simp only[aI,aA]at h;subst h;simp only[aC,cQ,aD]at hb;have e2:=sZ hb.2;rw[<-hb.1,<-e2]at hcs;exact⟨.bx (.cl f caps) []::m,by simp only[fA,g1],next g2 he ⟨id,cs,hid,bc,hcs,λ_ _ h=>by cases h⟩⟩
   .cases h
  .rename_i et x d' hf hd;obtain⟨e,he,bi⟩:=Mm.bx j _ hf;obtain⟨m,g1,g2⟩:=EZ Mm hd;split at h
   .rename_i t;cases hb:et.beq t with
    |false=>rw[hb]at h;cases h
    |true=>
     rw[hb]at h;simp only[aI,aA]at h;subst h;exact⟨.row et x::m,by simp only[fA,g1],next g2 he bi⟩
   .cases h
  .cases h
 |[],_::_,j,d,h=>by cases h
 |_::_,[],j,d,h=>by cases h
end
end Go.TV
namespace Go.TV
open Go.AI Go.PI
section
variable{P:Program}{U:gT}{T:TP U.D}{c c0:Cx}{q p:PSt}{M:TM U.D}{S:TS U.D}{S':PS}
def Pc: ∀{l:List (Nat×Sh×iL)} {d rest:List (V U)} {S0:TS U.D},Tt U l d=some (S0,rest)->∀k,dQ k (l.map (·.1))=false->kT S0 k=(.no,[])
 |[],d,rest,S0,h,k,_=>by simp only[Tt,aA,aB]at h;rw[<-h.1];rfl
 |(t,s,r)::l,d,rest,S0,h,k,hk=>by
  unfold Tt at h;split at h
  .rename_i x d' hx;split at h
   .rename_i S1 qb hS;simp only[aA,aB]at h;obtain⟨rfl,rfl⟩:=h;simp only[aO,dQ,Bool.or_eq_false_iff]at hk;rw[BD (λe=>by rw[e,Nat.beq_refl]at hk;cases hk.1)]
    exact Pc hS k hk.2
   .cases h
  .cases h
def HU: ∀(ps:List (Sh×Bool)) (i k:Nat),dQ k ((cutOf.psL ps i).map (·.1))=(decide (i<=k)&&decide (k<i+ps.length))
 |[],i,k=>by simp[cutOf.psL,dQ]
 |(s,o)::ps,i,k=>by
  simp only[cutOf.psL,aO,dQ,HU ps (i+1) k,aM,cQ];rw[Bool.eq_iff_iff];simp only[Bool.or_eq_true,aC,aD];omega
def Kz: ∀(ps:List (Sh×iL)) (i k:Nat),dQ k ((cutOf.bxL ps i).map (·.1))=(decide (i<=k)&&decide (k<i+ps.length))
 |[],i,k=>by simp[cutOf.bxL,dQ]
 |(s,o)::ps,i,k=>by
  simp only[cutOf.bxL,aO,dQ,Kz ps (i+1) k,aM,cQ];rw[Bool.eq_iff_iff];simp only[Bool.or_eq_true,aC,aD];omega
def aBr{k:Nat}{s:Sh}{rr:iL}{l:List (Nat×Sh×iL)}(nr: ∀t,s≠ .row t){d2:List (V U)}:zU U ((k,s,rr)::l) d2=(match Li U s d2 with|some (x,d')=>(match zU U l d' with|some (M,qb)=>some ((k,.bx x rr)::M,qb)|none=>none)|none=>none):=by
 cases s with
 |row t=>exact(nr t rfl).elim
 |_=>cases d2<;>first|rfl|(simp only[zU])
def Pe: ∀{l:List (Nat×Sh×iL)} {d rest:List (V U)} {M0:List (Nat×BC U.D)},zU U l d=some (M0,rest)->∀k,dE M0 k=none->dQ k (l.map (·.1))=false
 |[],d,rest,M0,h,k,_=>rfl
 |(t,s,r)::l,d,rest,M0,h,k,hk=>by
  have iG: ∀{b:BC U.D} {M1:List (Nat×BC U.D)} {d':List (V U)},M0=(t,b)::M1->zU U l d'=some (M1,rest)->dQ k (((t,s,r)::l).map (·.1))=false:=by
   intro b M1 d' e h1;subst e;rw[gD]at hk;by_cases e1:k=t
   .rw[bI e1]at hk;cases hk
   .rw[bH e1]at hk;simp only[aO,dQ,Pe h1 k hk,Bool.or_false];exact S9 λe=>e1 e.symm
  have other:(∀t',s≠ .row t')->dQ k (((t,s,r)::l).map (·.1))=false:=by
   intro nr;rw[aBr nr]at h;split at h
   .rename_i x d' _;split at h
    .rename_i M1 qb h1;simp only[aA,aB]at h;obtain⟨e1,e2⟩:=h;subst e2;exact iG e1.symm h1
    .cases h
   .cases h
  cases s with
  |row t'=>
   cases d with
   |nil=>cases h
   |cons v d=>
    obtain⟨vt,vx⟩:=v;cases vt with
    |sl e=>
     simp only[zU]at h;cases hb:e.beq t' with
     |false=>rw[hb]at h;cases h
     |true=>
      rw[hb]at h;simp only[aI]at h;split at h
      .rename_i M1 d' h1;simp only[aA,aB]at h;obtain⟨e1,e2⟩:=h;subst e2;exact iG e1.symm h1
      .cases h
    |_=>cases h
  |_=>exact other λ_ e=>by cases e
def pB{n:Nat}: ∀{l:List (Sh×iL)} {rs:List iL} {d:List (V U)} {m:List (BC U.D)},fA U l rs d=some m->Bk n l=true->∀(i f:Nat) (caps:List Nat) (r:iL),m[i]?=some (.bx (.cl f caps) r)->sM caps n=true
 |[],[],[],m,h,_,i,f,caps,r,hm=>by simp only[fA,aA]at h;subst h;simp at hm
 |(.val t,rr)::l,r::rs,v::d,m,h,ho,i,f,caps,r',hm=>by
  simp only[fA]at h;split at h
  .rename_i m' h1;cases h;cases i with
   |zero=>simp at hm
   |succ i=>rw[aT]at hm;exact pB h1 ho i f caps r' hm
  .cases h
 |(.cl f0 caps0,rr)::l,r::rs,d,m,h,ho,i,f,caps,r',hm=>by
  simp only[fA]at h;simp only[Bk,aC]at ho;split at h
  .rename_i m' h1;cases h;cases i with
   |zero=>
    simp only[aU,aA,BC.bx.injEq,SV.cl.injEq]at hm;rw[<-hm.1.2];exact ho.1
   |succ i=>rw[aT]at hm;exact pB h1 ho.2 i f caps r' hm
  .cases h
 |[],_::_,_,_,h,_,_,_,_,_,_=>by simp[fA]at h
 |[],[],_::_,_,h,_,_,_,_,_,_=>by simp[fA]at h
 |(s,rr)::l,[],d,m,h,_,_,_,_,_,_=>by cases s<;>simp[fA]at h
 |(.val t,rr)::l,r::rs,[],m,h,_,_,_,_,_,_=>by simp[fA]at h
 |(.tup _,_)::_,_::_,_,_,h,_,_,_,_,_,_=>by simp[fA]at h
 |(.nl,_)::_,_::_,_,_,h,_,_,_,_,_,_=>by simp[fA]at h
 |(.lc _ _ _,_)::_,_::_,_,_,h,_,_,_,_,_,_=>by simp[fA]at h
 |(.ep _,_)::_,_::_,_,_,h,_,_,_,_,_,_=>by simp[fA]at h
 |(.rw _,_)::_,_::_,_,_,h,_,_,_,_,_,_=>by simp[fA]at h
 |(.nf,_)::_,_::_,_,_,h,_,_,_,_,_,_=>by simp[fA]at h
 |(.row t,rr)::l,r::rs,⟨.sl e,x⟩::d,m,h,ho,i,f,caps,r',hm=>by
  simp only[fA]at h;split at h
  .rename_i m' h1;cases h;cases i with
   |zero=>simp at hm
   |succ i=>rw[aT]at hm;exact pB h1 ho i f caps r' hm
  .cases h
 |(.row t,rr)::l,r::rs,[],m,h,_,_,_,_,_,_=>by simp[fA]at h
 |(.row t,rr)::l,r::rs,⟨.int _,x⟩::d,m,h,_,_,_,_,_,_=>by simp[fA]at h
 |(.row t,rr)::l,r::rs,⟨.bool,x⟩::d,m,h,_,_,_,_,_,_=>by simp[fA]at h
 |(.row t,rr)::l,r::rs,⟨.str,x⟩::d,m,h,_,_,_,_,_,_=>by simp[fA]at h
 |(.row t,rr)::l,r::rs,⟨.rc _,x⟩::d,m,h,_,_,_,_,_,_=>by simp[fA]at h
 |(.no,_)::_,_::_,_,_,h,_,_,_,_,_,_=>by simp[fA]at h
def sS: ∀{l:List (Sh×iL)} {rs:List iL} {d:List (V U)} {m:List (BC U.D)},fA U l rs d=some m->∀(i:Nat),m[i]?=some .gone->False
 |l,rs,d,m,h,i,hm=>by
  unfold fA at h;split at h
  .simp only[aA]at h;subst h;simp at hm
  .split at h
   .rename_i m' h1;cases h;cases i with
    |zero=>simp at hm
    |succ i=>rw[aT]at hm;exact sS h1 i hm
   .cases h
  .split at h
   .rename_i m' h1;cases h;cases i with
    |zero=>simp at hm
    |succ i=>rw[aT]at hm;exact sS h1 i hm
   .cases h
  .split at h
   .rename_i m' h1;cases h;cases i with
    |zero=>simp at hm
    |succ i=>rw[aT]at hm;exact sS h1 i hm
   .cases h
  .cases h
def El{n:Nat}: ∀{l:List PV},(∀x∈l,below n x=true)->iU n l=true
 |[],_=>rfl
 |x::l,h=>by
  show(below n x&&iU n l)=true;rw[h x (aH ..),El λy hy=>h y (aG _ hy)];rfl
def XD{n:Nat}{x:PV}(h:gd (wk x)=true):below n x=true:=by
 cases x with
 |agg cs=>simp[wk,gd]at h
 |tup cs=>simp[wk,gd]at h
 |ptr i o=>simp[wk,gd]at h
 |rs i o l=>simp[wk,gd]at h
 |mp i=>simp[wk,gd]at h
 |fn f a b=>simp[wk,gd]at h
 |_=>rfl
def B7{n:Nat}: ∀{caps:List Nat} {ps:List PV},tQ c caps ps->(∀k e id,k∈caps->c k=some e->e.id=some id->id<n)->iU n ps=true
 |[],[],_,_=>rfl
 |k::ks,x::ps,⟨⟨e,id,h1,h2,h3⟩,h4⟩,hb=>by
  simp only[iU,B7 h4 (λk' e id hk=>hb k' e id (aG _ hk)),bE]
  rw[h3];simp only[below,gQ,aD];exact hb k e id (aH ..) h1 h2
 |[],_::_,h,_=>h.elim
 |_::_,[],h,_=>h.elim
def yG{n:Nat}: ∀{l:List Nat},sM l n=true->∀k∈l,k<n
 |x::l,h,k,hk=>by
  simp only[sM,aC,gQ,aD]at h;rcases List.mem_cons.1 hk with rfl|hk
  .exact h.1
  .exact yG h.2 k hk
def Kv{c':Cx}: ∀{caps:List Nat} {ps:List PV},tQ c caps ps->(∀k e,k∈caps->c k=some e->c' k=some e)->tQ c' caps ps
 |[],[],_,_=>trivial
 |k::ks,x::ps,⟨⟨e,id,h1,h2,h3⟩,h4⟩,hb=>⟨⟨e,id,hb k e (aH ..) h1,h2,h3⟩,Kv h4 λk' e hk=>hb k' e (aG _ hk)⟩
 |[],_::_,h,_=>h.elim
 |_::_,[],h,_=>h.elim
def P2{O:CJ}{s:Dj}{d:List (V U)}{args:List (PV×Bool)}{cc:Cx}{S0:TS U.D}{M0:TM U.D}(bw:aCe O s=true)(hf:Nat.beq s.f O.n=true)(hin:CO U s d p cc args S0 M0):
    s.bx=[]/\s.bo=[]/\s.rs=[.str]/\s.own=false/\∃a b o1 o2,d=[⟨.int .i64,a⟩,⟨.int .i64,b⟩]/\args=[(.v (.int .i64 a),o1),(.v (.int .i64 b),o2)]:=by
 obtain⟨f,ps,bx,bo,rs,own⟩:=s;unfold aCe at bw;rw[hf,aI]at bw;split at bw
 .rename_i e1 e2 e3 e4 e5;simp only at e1 e2 e3 e4 e5;subst e1;subst e2;subst e3;subst e4;subst e5;refine⟨rfl,rfl,rfl,rfl,?_⟩;have ci:=hin.start;have hu: ∀(t:Ty) (x:Den U.D t) (l:List (V U)),Li U (.val (.int .i64)) (⟨t,x⟩::l)=bif t.beq (.int .i64)then some (.val ⟨t,x⟩,l)else none:=λ_ _ _=>rfl
  simp only[EH,cutOf,cutOf.psL,cutOf.bxL,Tt]at ci
  match d,ci,hin with
  |[],ci,_=>cases ci
  |[⟨t,x⟩],ci,_=>
   rw[hu]at ci;cases h1:t.beq (.int .i64)with
   |false=>rw[h1]at ci;cases ci
   |true=>rw[h1]at ci;cases ci
  |⟨t,x⟩::⟨u,y⟩::r,ci,hin=>
   rw[hu]at ci;cases h1:t.beq (.int .i64)with
   |false=>rw[h1]at ci;cases ci
   |true=>
    rw[h1,aI]at ci;simp only[hu]at ci;cases h2:u.beq (.int .i64)with
    |false=>rw[h2]at ci;cases ci
    |true=>
     have e1:=Ty.beq_eq h1;have e2:=Ty.beq_eq h2;subst e1;subst e2;rw[h2,aI]at ci;cases r with
     |cons z r=>cases ci
     |nil=>
      simp only[zU,aA,aB]at ci;obtain⟨g1,g2⟩:=ci
      match args,hin.len,hin.args with
      |[(p1,o1),(p2,o2)],_,ha=>
       have a1:=(ha 0 _ rfl).1;have a2:=(ha 1 _ rfl).1;rw[<-g1]at a1 a2;refine⟨x,y,o1,o2,rfl,?_⟩;have b1:p1= .v (.int .i64 x):=iF a1;have b2:p2= .v (.int .i64 y):=iF a2;rw[b1,b2]
 .cases bw
def IF{O:CJ}{s:Dj}{d:List (V U)}{args:List (PV×Bool)}{cc:Cx}{S0:TS U.D}{M0:TM U.D}(bw:aCe O s=true)(hn:Nat.beq s.f O.n=false)(hf:Nat.beq s.f O.m=true)(hin:CO U s d p cc args S0 M0):
    s.bx=[]/\s.bo=[]/\s.rs=[.bool]/\s.own=false/\d=[]/\args=[]:=by
 obtain⟨f,ps,bx,bo,rs,own⟩:=s;unfold aCe at bw;rw[hn,aJ,hf,aI]at bw;split at bw
 .rename_i e1 e2 e3 e4 e5;simp only at e1 e2 e3 e4 e5;subst e1;subst e2;subst e3;subst e4;subst e5;refine⟨rfl,rfl,rfl,rfl,?_,?_⟩
  .have ci:=hin.start;simp only[EH,cutOf,cutOf.psL,cutOf.bxL,Tt]at ci;cases d with
   |nil=>rfl
   |cons x d=>simp only[zU]at ci;cases ci
  .exact List.length_eq_zero_iff.1 hin.len
 .cases bw
variable(hU:gO U)(hT:oQ P U T)
include hU hT
omit hU hT in
def Uz{own:Bool}{a:List (V U)}(h: ∀v,a≠ [v]): ∃rs0,zX U own a=(.tup a,rs0)/\(rs0=[]∨∃v b,a=[v,⟨.bool,b⟩]/\own=true/\b=true/\rs0=[(0,true)]):=by
 unfold zX;split
 .rename_i v;exact(h v rfl).elim
 .rename_i v b;refine⟨_,rfl,?_⟩;cases own with
  |false=>exact .inl rfl
  |true=>
   cases b with
   |false=>exact .inl rfl
   |true=>exact .inr ⟨v,true,rfl,rfl,rfl,rfl⟩
 .exact⟨[],rfl,.inl rfl⟩
def AQ{tc:kX U.D}{pc:fI}(ih:CallOK U T tc pc){L:Nat}{s:Dj}{code:TC}{rs:List ResultVar}(hb1:s.bx.length<=100)(hb2:Bk s.bx.length s.bx=true){d out:List (V U)}
    (h:lN U (cutOf s) (λS M=>fM U T tc L code S M (JU U T s rs)) d=some out) {p:PSt} {cc:Cx} {args:List (PV×Bool)} {S0:TS U.D} {M0:TM U.D} (hin:CO U s d p cc args S0 M0):
    ∃pv own p',yQ P pc L code.pc rs args p=some (pv,own,p')/\Ro U s out p cc pv own p':=by
 simp only[lN,hin.start]at h;have ci:=hin.start;unfold EH at ci;split at ci
 .rename_i Sa da hSa;split at ci
  .rename_i Ma hMa;simp only[aA,aB]at ci;obtain⟨e1,e2⟩:=ci;subst e1;subst e2;have gp: ∀k e,cc k=some e->k<s.bx.length:=λk e hk=>by
    rcases Nat.lt_or_ge k s.bx.length with h|h
    .exact h
    .rw[hin.dom k h]at hk;cases hk
   have F0:kU U cc Sa (wA args 0 .none):=by
    intro k;rw[JV];by_cases hk:k<args.length
    .rw[bI ⟨Nat.zero_le _,by omega⟩,Nat.sub_zero,aV hk]
     exact hin.args k _ (aV hk)
    .rw[bH (by omega)]
     have:kT Sa k=(.no,[]):=Pc hSa k (by
      show dQ k ((cutOf.psL s.ps 0).map (·.1))=false;rw[HU];have:=hin.len;simp;omega)
     rw[this];exact⟨trivial,bW _ _⟩
   have M0':MR U p cc cc ⟨Ma,[]⟩ (aOC p):=by
    refine⟨λk hk=>?_,λk b hk=>?_,hin.lt,hin.inj,aS _,λk e h1 _=>h1,λk e id h1 h2 h3=>?_,λid _ _=>rfl,λid hi=>(by cases hi),λid hi=>(by cases hi)⟩
    .have:=Pe hMa k hk;rw[show(cutOf s).bx=cutOf.bxL s.bx 0 from rfl,Kz]at this
     refine hin.dom k ?_;simp at this;omega
    .obtain⟨e,h1,h2⟩:=hin.bx k b hk;exact⟨e,h1,tH h2 λ_ _=>rfl⟩
    .have:=gp k e h1;omega
   obtain⟨fl,c1,S1,M1,S1',p1,h1,h2,h3,h4,h5⟩:=WQ hU hT ih L code (List (V U)) (JU U T s rs) out Sa ⟨Ma,[]⟩ (wA args 0 .none) (aOC p) cc F0 M0' h;have fm:(∀id,fl≠ .exit id)/\∃a b,CV U T S1 M1 rs s.rs=some a/\IE U M1 s.bx s.bo 0=some b/\FA U S1 rs s.own s.rs a=true/\out=a++b:=by
    have key: ∀(r:Option (List (V U))),r=(match CV U T S1 M1 rs s.rs,IE U M1 s.bx s.bo 0 with|some a,some b=>bif FA U S1 rs s.own s.rs a then some (a++b)else none|_,_=>none)->r=some out->∃a b,CV U T S1 M1 rs s.rs=some a/\IE U M1 s.bx s.bo 0=some b/\FA U S1 rs s.own s.rs a=true/\out=a++b:=by
     intro r e1 e2;rw[e1]at e2;split at e2
     .rename_i a b ha bv;cases hw:FA U S1 rs s.own s.rs a with
      |false=>rw[hw]at e2;cases e2
      |true=>rw[hw]at e2;cases e2;exact⟨a,b,ha,bv,hw,rfl⟩
     .cases e2
    cases fl with
    |exit id=>cases h1
    |normal=>exact⟨λ_ e=>(by cases e),key _ rfl h1⟩
    |ret=>exact⟨λ_ e=>(by cases e),key _ rfl h1⟩
   obtain⟨bn,a,b,ha,bv,hw,rfl⟩:=fm;obtain⟨vs,r1,r2,r3,r4,r5,r6⟩:=EP hU hT h3 h4 ha;obtain⟨m,o1,o2⟩:=EZ h4 bv;simp only[Nat.zero_add]at o2;have qr:a.length=s.rs.length:=by rw[<-r3,List.length_map]
   have htake:(a++b).take s.rs.length=a:=by rw[<-qr];exact List.take_left
   have fp:(a++b).drop s.rs.length=b:=by rw[<-qr];exact List.drop_left
   have df:oE U cc (zX U s.own a) ((dZ vs).1,(dZ vs).2)/\below p.next (dZ vs).1=true:=by
    have hlen:vs.length=a.length:=by have:=congrArg List.length r2;simpa using this
    have htup:(∀v,a≠ [v])->(oE U cc (zX U s.own a) ((dZ vs).1,(dZ vs).2)/\below p.next (dZ vs).1=true):=by
     intro hn1;obtain⟨rs0,e1,hrs0⟩:=Uz (own:=s.own) hn1;have e2: ∃fg,dZ vs=(.tup (wks (vs.map (·.1))),fg)/\∀w w' l,vs=w::w'::l->fg=((w.2||jW w.1)&& !Ff w.1&&V5 w.1):=by
      cases vs with
      |nil=>exact⟨false,rfl,λ_ _ _ h=>by cases h⟩
      |cons w vs=>cases vs with
       |cons w' vs=>exact⟨_,rfl,λ_ _ _ h=>by cases h;rfl⟩
       |nil=>
        cases a with
        |nil=>simp at hlen
        |cons x a=>cases a with
         |nil=>exact(hn1 x rfl).elim
         |cons y a=>simp at hlen
     obtain⟨fg,e2,sm⟩:=e2;have e3:wks (vs.map (·.1))=a.map λv=>dB U v.t v.x:=by rw[lC,List.map_map];exact r2
     rw[e1,e2];refine⟨⟨⟨_,rfl,e3⟩,?_⟩,?_⟩
     .rcases hrs0 with rfl|⟨v,b,rfl,ho,rfl,rfl⟩
      .exact bW _ _
      ·
       obtain⟨w,w',rfl⟩: ∃w w',vs=[w,w']:=by
        match vs,hlen with
        |[w,w'],_=>exact⟨w,w',rfl⟩
       have hF:Vh U S1 rs=true:=by
        cases hf:Vh U S1 rs with
        |true=>rfl
        |false=>simp[FA,ho,hf,a3O]at hw
       have jy:aQj s.rs=true:=by
        simp only[FA,ho,hF,aI,Bool.or_eq_true,aC]at hw;rcases hw with⟨h6,_⟩|h6
        .rw[<-r3]at h6;exact absurd (show IG [v.t,Ty.bool]=true from h6) (by simp[IG])
        .exact h6
       obtain⟨t,fv,la,ci⟩: ∃t fv,rs= .tmp t::fv/\oD (kT S1 t).2=true:=by
        unfold Vh at hF;split at hF
        .exact⟨_,_,rfl,hF⟩
        .cases hF
       obtain⟨ky,jc⟩:=r6 t fv w [w'] v _ la rfl rfl;have cr: ∃e,v.t= .sl e:=by
        rw[<-r3]at jy;cases gt:v.t with
        |sl e=>exact⟨e,rfl⟩
        |_=>rw[aO,gt]at jy;cases jy
       obtain⟨e,cr⟩:=cr;have ly:=mI jc (by rw[cr];rfl)
       have hN:V5 w.1=true:=by
        obtain⟨vt,vx⟩:=v;have cr:vt= .sl e:=cr;subst cr;obtain⟨_,hl⟩:=pC jc;rcases hl with⟨_,h8⟩|⟨_,h8⟩
        .rcases h8 with h8|h8|h8<;>rw[h8]<;>rfl
        .rw[h8];rfl
       have sm:=sm w w' [] rfl;rcases(h3 t).2 0 true (pS ci)with⟨g1,_⟩|⟨_,_,g1,g2⟩
       .rw[<-ky,ly]at g1;cases g1
       .rw[<-ky]at g1 g2;have hfg1:fg=true:=by rw[sm,g1,g2 rfl,hN];rfl
        intro o st hi;simp only[List.mem_singleton,aB]at hi;refine .inr ⟨hi.1,rfl,by rw[hfg1];rfl,λ_=>?_⟩
        rw[e3];show Ff (.tup (dB U v.t v.x::_))=false;have hg:gd (dB U v.t v.x)=true:=by
         obtain⟨vt,vx⟩:=v;have cr:vt= .sl e:=cr;subst cr;exact eJ _ _
        have:=xN hg;rw[aCE];generalize dB U v.t v.x=y at this;cases y with
        |sl z es=>cases es with
         |nil=>cases this
         |cons _ _=>rfl
        |_=>rfl
     show iU p.next _=true
     rw[e3,fE];intro x hx;obtain⟨v,_,rfl⟩:=List.mem_map.1 hx;exact JZ hU _ _ _
    cases a with
    |nil=>exact htup λv e=>by cases e
    |cons v a=>
     cases a with
     |cons y a=>exact htup λv e=>by cases e
     |nil=>
      cases vs with
      |nil=>simp at hlen
      |cons w vs=>
       cases vs with
       |cons y vs=>simp at hlen
       |nil=>
        have hv:=r5 v w rfl rfl;refine⟨⟨aG1 hU hv,?_⟩,?_⟩
        .cases ho:s.own with
         |false=>exact bW _ _
         |true=>
          have hB:aQj s.rs=false:=by rw[<-r3];cases gt:v.t<;>simp[aQj,gt]
          have hw1:aK9 U S1 rs=true/\IG s.rs=true:=by
           cases hf:Vh U S1 rs with
           |true=>
            simp only[FA,ho,hf,aI,hB,Bool.or_false,aC]at hw;exact⟨hw.2,hw.1⟩
           |false=>simp[FA,ho,hf,hB]at hw
          obtain⟨hw1,hw2⟩:=hw1;have la: ∃t,rs=[.tmp t]/\oD (kT S1 t).2=true:=by
           unfold aK9 at hw1;split at hw1
           .exact⟨_,rfl,hw1⟩
           .cases hw1
          obtain⟨t,rfl,hst2⟩:=la;have ky:=r4 t w rfl rfl;have cr:kS v.t=false:=by
           have hw3:IG [v.t]=true:=by rw[<-r3]at hw2;exact hw2
           cases gt:v.t with
           |sl t=>rfl
           |_=>rw[gt]at hw3;cases hw3
          have ly:=mI hv cr;rcases(h3 t).2 0 true (pS hst2)with⟨g1,_⟩|⟨_,_,g1,g2⟩
          .rw[<-ky,ly]at g1;cases g1
          .rw[<-ky]at g1 g2;intro o st hi;have hi:(o,st)∈Lx true:=hi;simp only[Lx,List.mem_singleton,aB]at hi;refine .inr ⟨hi.1,?_,?_,λ_=>?_⟩
           .show isAgg (wk w.1)=false;rw[hv.wk,<-hv.wk];cases hh:w.1 with
            |agg cs=>rw[hh]at ly;cases ly
            |sl z es=>cases es<;>rfl
            |_=>rfl
           .show(((w.2||jW w.1)&& !Ff w.1)||jW (wk w.1))=true;rw[g1,g2 rfl];rfl
           .exact V6 w.1
        .show below p.next (wk w.1)=true
         rw[hv.wk];exact JZ hU _ _ _
   obtain⟨hslr,hbel⟩:=df;have hmlen:m.length=s.bx.length:=rT o1;have hold: ∀id,id∈(p1.dirty.filter λid=>Nat.blt id p.next)↔id∈p1.dirty/\id<p.next:=λid=>by
    rw[List.mem_filter];simp only[gQ,aD]
   have hidx: ∀k e id,cc k=some e->e.id=some id->∃x,m[k]?=some x/\c1 k=some e/\Ag U c1 p1 e x:=by
    intro k e id hk hid;have bh:=gp k e hk;obtain⟨e',g1,g2⟩:=o2 k m[k] (aV (by omega))
    have:=h4.bor k e' g1 (by omega)
    rw[hk]at this;cases this;exact⟨_,aV (by omega),g1,g2⟩
   have my: ∀id,id<p.next->p1.get id=p1.mem.get id:=λid hi=>by
    have:Nat.blt id p1.next=true:=by rw[gQ,aD];exact Nat.lt_of_lt_of_le hi h5
    simp only[PSt.get,this,aI]
   have qq:(p1.dirty.filter λid=>Nat.blt id p.next).all (sL p.next p1.mem)=true:=by
    rw[bJ];intro id hi;obtain⟨hd,bh⟩:=(hold id).1 hi;obtain⟨k,e,g1,g2⟩:=h4.dirty id hd bh;obtain⟨x,g3,g4,g5⟩:=hidx k e id g1 g2;cases x with
    |gone=>exact(sS o1 k g3).elim
    |row t l=>
     obtain⟨_,hz,⟨g6,_⟩|⟨id',g6,g7⟩⟩:=g5
     .rw[g2]at g6;cases g6
     rw[g2]at g6;cases g6;rw[my id bh]at g7;simp only[sL,g7,qR];exact El λy hy=>by
      obtain⟨y',mj,hx⟩:=List.mem_flatMap.1 hy;obtain⟨a,_,rfl⟩:=List.mem_map.1 mj;exact BF (bJ.1 (qW hU t a) y hx)
    |bx sv rr=>
    obtain⟨id',cs,g6,g7,g8,_⟩:=g5;rw[g2]at g6;cases g6;have g5:=g7;have g6:=g8;rw[my id bh]at g5;simp only[sL,g5,qR,bJ];intro y hy;cases sv with
    |val v=>
     obtain⟨k1,k2,k3⟩:=g6;exact XD ((⟨k1,k2⟩:SR v.t v.x (cs.map (·.1))).gd hU (List.mem_map.2 ⟨y,hy,rfl⟩))
    |cl f caps=>
     obtain⟨pv,bb,e1,ps,e2,e3⟩:=g6;rw[e1,List.mem_singleton]at hy;rw[hy,e2];show(iU p.next []&&iU p.next ps)=true
     rw[B7 e3 λk' e' id' gx h6 h7=>hin.lt k' e' id' (h4.bor k' e' h6 (by have:=yG (pB o1 hb2 k f caps rr g3) k' gx;omega)) h7]
     rfl
    |nf=>
     obtain⟨bb,e1⟩:=g6;rw[e1,List.mem_singleton]at hy;rw[hy];rfl
    |_=>exact g6.elim
   have fx:PI.settle p (dZ vs).1 p1=⟨(p1.dirty.filter λid=>Nat.blt id p.next).foldr (XG p1.mem) p.mem,p.next,(p1.dirty.filter λid=>Nat.blt id p.next).foldr CQ p.dirty,(p1.wr.filter λid=>Nat.blt id p.next).foldr CQ p.wr⟩:=by
    unfold PI.settle;rw[hbel,qq];rfl
   have hfm:=xO (mem:=p.mem) (q:=p1.mem) (old:=p1.dirty.filter λid=>Nat.blt id p.next) (λid hi e=>by
    have:=bJ.1 qq id hi;simp only[sL,e]at this;cases this)
   have bc: ∀id,id<p.next->(PI.settle p (dZ vs).1 p1).get id=if id∈(p1.dirty.filter λid=>Nat.blt id p.next)then p1.get id else p.get id:=by
    intro id hi;rw[fx];have hbl:Nat.blt id p.next=true:=by rw[gQ,aD];exact hi
    show(bif Nat.blt id p.next then _ else none)=_
    rw[hbl,aI,hfm id,my id hi];by_cases h6:id∈(p1.dirty.filter λid=>Nat.blt id p.next)
    .rw[bI h6,bI h6]
    .rw[bH h6,bH h6];simp only[PSt.get,hbl,aI]
   have qp: ∀id,id<p.next->(PI.settle p (dZ vs).1 p1).get id=p1.get id:=by
    intro id hi;rw[bc id hi];by_cases h6:id∈(p1.dirty.filter λid=>Nat.blt id p.next)
    .rw[bI h6]
    .rw[bH h6];exact(h4.old id hi λhd=>h6 ((hold id).2 ⟨hd,hi⟩)).symm
   refine⟨(dZ vs).1,(dZ vs).2,PI.settle p (dZ vs).1 p1,?_,?_⟩
   .have:yQ P pc L code.pc rs args p=some ((dZ vs).1,(dZ vs).2,PI.settle p (dZ vs).1 p1):=by
     simp only[yQ,h2];cases fl with
     |exit id=>exact(bn id rfl).elim
     |normal=>simp only[r1]
     |ret=>simp only[r1]
    exact this
   .refine⟨by rw[htake];exact hslr,⟨m,by rw[fp];exact o1,λj x hj=>?_⟩,by rw[fx],λid hi dn=>?_,λid hi dn=>?_,λid hi=>?_,λid hi=>?_,λid hi=>?_⟩
    .obtain⟨e,g1,g2⟩:=o2 j x hj;have hjl:j<m.length:=by
      rcases Nat.lt_or_ge j m.length with h|h
      .exact h
      .rw[List.getElem?_eq_none h]at hj;cases hj
     have hcj:=h4.bor j e g1 (by omega)
     refine⟨e,hcj,?_⟩;cases x with
     |gone=>trivial
     |row t l=>
      obtain⟨k1,k2,k3⟩:=g2;refine⟨k1,k2,?_⟩;rcases k3 with k3|⟨id,k3,k4⟩
      .exact .inl k3
      .exact .inr ⟨id,k3,by rw[qp id (hin.lt j e id hcj k3)];exact k4⟩
     |bx sv rr=>
     obtain⟨id,cs,g2,g3,g4,g5⟩:=g2;refine⟨id,cs,g2,by rw[qp id (hin.lt j e id hcj g2)];exact g3,?_,g5⟩
     cases sv with
     |cl f caps=>
      obtain⟨pv,bb,e1,ps,e2,e3⟩:=g4;exact⟨pv,bb,e1,ps,e2,Kv e3 λk' e' gx h6=>h4.bor k' e' h6 (by have:=yG (pB o1 hb2 j f caps rr hj) k' gx;omega)⟩
     |_=>exact g4
    .rw[bc id hi,bH];intro h6;obtain⟨hd,bh⟩:=(hold id).1 h6;obtain⟨k,e,g1,g2⟩:=h4.dirty id hd bh;exact dn k e g1 g2
    .rw[fx]at dn;have dn:id∉(p1.dirty.filter λid=>Nat.blt id p.next).foldr CQ p.dirty:=dn
     rw[eP]at dn;rw[bc id hi,bH λh6=>dn (.inl h6)]
    .rw[fx]at hi;have hi:id∈(p1.dirty.filter λid=>Nat.blt id p.next).foldr CQ p.dirty:=hi
     rw[eP]at hi;rcases hi with h6|h6
     .obtain⟨hd,bh⟩:=(hold id).1 h6;exact .inr (h4.dirty id hd bh)
     .exact .inl h6
    .rw[fx];show id∈(p1.dirty.filter λid=>Nat.blt id p.next).foldr CQ p.dirty
     rw[eP];exact .inr hi
    .rw[fx]at hi;have hi:id∈(p1.wr.filter λid=>Nat.blt id p.next).foldr CQ p.wr:=hi
     rw[eP]at hi;rcases hi with h6|h6
     .rw[List.mem_filter,gQ,aD]at h6;exact .inr ((h4.wr id h6.1).2 h6.2)
     .exact .inl h6
  .cases ci
 .cases ci
def Kx{G:aN4}{GP:ZI}(hG: ∀i s code rs,T.sig i=some s->G i=some (code,rs)->GP s.f=some (code.pc,rs))(hA: ∀i s,T.sig i=some s->Gd P s.f s.ps.length=true)(L:Nat): ∀n,CallOK U T (zF U T G L n) (oM P T.orc GP L n):=by
 intro n;induction n with
 |zero=>intro inst s d out hs h;cases h
 |succ n ih=>
  intro inst s d out hs h p cc args S0 M0 hin;simp only[zF,hs]at h;split at h
  .rename_i s' code rs fy hg;cases fy;cases hb:aCe T.orc s&&Nat.ble s.bx.length 100&&Bk s.bx.length s.bx with
   |false=>rw[hb]at h;cases h
   |true=>
    rw[hb]at h;simp only[aC,Nat.ble_eq]at hb;obtain⟨⟨hb0,hb1⟩,hb2⟩:=hb;rw[aI]at h;split at h
    .rename_i x hx;simp only[aA]at h;subst h;unfold aB9 at hx;cases hf:Nat.beq s.f T.orc.n with
     |false=>
      rw[hf,aJ]at hx;cases hm:Nat.beq s.f T.orc.m with
      |false=>rw[hm]at hx;cases hx
      |true=>
       obtain⟨k1,k2,k3,k4,rfl,rfl⟩:=IF hb0 hf hm hin;rw[hm,aI]at hx;cases hx;refine⟨.v (.bool true),false,p,?_,?_⟩
       .simp only[oM,aCa,hf,hm,aI,aJ,a0G]
       .refine⟨?_,⟨[],?_,λj x hj=>(by cases hj)⟩,rfl,λ_ _ _=>rfl,λ_ _ _=>rfl,λid h=> .inl h,λid h=>h,λid h=> .inl h⟩
        .rw[k3,k4];exact⟨eU _,bW _ _⟩
        .rw[k3,k1,k2];rfl
     |true=>
      obtain⟨k1,k2,k3,k4,a,b,o1,o2,rfl,rfl⟩:=P2 hb0 hf hin;rw[hf,aI]at hx;simp only at hx;rw[aF]at hx;obtain⟨x,hx,rfl⟩:=hx;refine⟨.str x,false,p,?_,?_⟩
      .simp only[oM,aCa,hf,aI,hx,aK,a0G]
      .refine⟨?_,⟨[],?_,λj x hj=>(by cases hj)⟩,rfl,λ_ _ _=>rfl,λ_ _ _=>rfl,λid h=> .inl h,λid h=>h,λid h=> .inl h⟩
       .rw[k3,k4];exact⟨CE _,bW _ _⟩
       .rw[k3,k1,k2];rfl
    rename_i ch;have dn:aCa T.orc s.f args=none/\aGr T.orc s.f args=true:=by
     unfold aCa aGr;cases hf:Nat.beq s.f T.orc.n with
     |false=>
      cases hm:Nat.beq s.f T.orc.m with
      |false=>exact⟨rfl,rfl⟩
      |true=>
       obtain⟨k1,k2,k3,k4,rfl,rfl⟩:=IF hb0 hf hm hin;unfold aB9 at ch;rw[hf,aJ,hm,aI]at ch;cases ch
     |true=>
      obtain⟨k1,k2,k3,k4,a,b,o1,o2,rfl,rfl⟩:=P2 hb0 hf hin;unfold aB9 at ch;rw[hf,aI]at ch;exact⟨ch,rfl⟩
    have nk:Gd P s.f args.length=true:=by rw[hin.len];exact hA _ _ hs
    have hGP:=hG inst s code rs hs hg;obtain⟨pv,own,p',g1,g2⟩:=AQ hU hT ih hb1 hb2 h hin;exact⟨pv,own,p',by simp only[oM,dn.1,dn.2,nk,bD,Bool.or_self,aJ,hGP,g1],g2⟩
  .cases h
end
end Go.TV
