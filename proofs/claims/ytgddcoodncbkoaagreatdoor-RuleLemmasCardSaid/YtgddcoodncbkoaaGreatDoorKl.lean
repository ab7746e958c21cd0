import Derived.Test.YtgddcoodncbkoaaGreatDoorKk
set_option linter.unusedVariables false
set_option linter.unusedSimpArgs false
set_option linter.constructorNameAsVariable false
set_option linter.defProp false
namespace Go.TV
open Go.AI Go.PI
section
variable{P:Program}{U:jP}{T:TP U.D}{c c0:Cx}{W:Type}{r:W}{q p:PSt}{M:TM U.D}
def Post(P:Program)(U:jP)(pc:fB)(sq take:Bool)(o:Oper)(S':PS)(p q:PSt)(c0 c:Cx)(M:TM U.D)(K:X U->TS U.D->TM U.D->Option W)(r:W):Prop:=
 ∃c' x S2 M2 v own S2' p',K x S2 M2=some r/\pop P pc sq o take S' p=some (v,own,S2',p')/\leC c c'/\slR U c' x (v,own)/\frR U c' S2 S2'/\MR U q c0 c' M2 p'/\(WR U c M p->WR U c' M2 p')/\p.next<=p'.next
def aH1{take:Bool}{p p':PSt}{t:TypeId}{a v:PV}{own:Bool}(h:sI P take p t a=some (v,own,p')):p.next<=p'.next:=by
 have hm:(eI p a).1.next=p.next:=by
  unfold eI;split
  ·split
   ·split<;>rfl
   ·rfl
  ·rfl
 unfold sI at h;split at h
 ·rename_i w _;cases hb:take&&aIY w with
  |true=>rw[hb]at h;simp only[cdt,ojE,pjE]at h;rw[<-h.2.2,hm];exact nlR _
  |false=>rw[hb]at h;simp only[cdf,ojE,pjE]at h;rw[<-h.2.2];exact nlR _
 ·cases h
def aDc{p p':PSt}{t:TypeId}{a x:PV}{own:Bool}(h:kI P p t a x own=some p'):p.next<=p'.next:=by
 unfold kI at h;simp only[Bool.cond_eq_ite]at h
 repeat' split at h
 all_goals first|(cases h;done)|(simp only[ojE]at h;rw[<-h];exact nlR _)
def mB{p p':PSt}{S':PS}{o:Oper}{v:PV}{own:Bool}(h:dB P p S' o=some (v,own,p')):p.next<=p'.next:=by
 unfold dB at h;simp only[Bool.cond_eq_ite]at h
 repeat' split at h
 all_goals first|(cases h;done)|(simp only[ojE,pjE]at h;rw[<-h.2.2];first|exact nlR _|exact Nat.le_succ _)
def aAP{K:Nat->Option W}{m:Int}: ∀{f j0:Nat},arI K m j0 f=some r->∃j,j0<=j/\j<j0+f/\m=(j:Int)/\K j=some r
 |0,_,h=>by cases h
 |f+1,j0,h=>by
  unfold arI at h;by_cases e:m=(j0:Int)
  ·rw[decide_eq_true e]at h;exact⟨j0,nlR _,by omega,e,h⟩
  ·rw[decide_eq_false e]at h;obtain⟨j,h1,h2,h3,h4⟩:=aAP h;exact⟨j,by omega,by omega,h3,h4⟩
def aBd(te:Ty): ∀j:Nat,cY U (List.replicate j te)=j*szT U te
 |0=>by simp[cY]
 |j+1=>by
  rw[List.replicate_succ,Nat.succ_mul];simp only[cY];rw[aBd te j];omega
def lenK_ok(hT:zD P U T)(Mm:MR U q c0 c M p){t:TypeId}{x:SV U.D}{v:PV}{K:X U->Option W}(h:lenK U M (T.T.ty t) x K=some r)(ra:svR U c x v):
    ∃y w,K y=some r/\aIX P t v=some w/\slR U c y (w,false):=by
 unfold lenK at h;split at h
 ·rename_i k;split at h
  ·rename_i e e' l ht hf;cases he:e.beq e' with
   |false=>rw[he]at h;cases h
   |true=>
    rw[he]at h;have:=Ty.beq_eq he;subst this;obtain⟨ce,g1,g2⟩:=ra;obtain⟨ce',g1',hn,hz,_⟩:=Mm.bx _ _ hf;rw[g1]at g1';cases g1';obtain⟨fb,hu,_⟩:=hT.un t _ ht;refine⟨_,i64 (l.length:Int),h,?_,dW _ _,aJ _ _⟩;rcases g2 with⟨_,hn0,rfl|rfl⟩|⟨id,_,_,rfl⟩
    ·simp only[aIX,hu,lnN];rw[<-hn,hn0]
    ·simp only[aIX,hu];rw[<-hn,hn0];rfl
    ·simp only[aIX,hu];rw[hn]
  ·cases h
 ·exact lenT_ok hT h ra
variable{pc:fB}{sq take:Bool}{o:Oper}{S:TS U.D}{S':PS}{K:X U->TS U.D->TM U.D->Option W}
def sM(Mm:MR U q c0 c M p)(hk:aW o= .pure){x:X U}{S2:TS U.D}{v:PV}{own:Bool}{S2':PS}(h:K x S2 M=some r)(hp:bV P take S' o=some (v,own,S2'))(hx:slR U c x (v,own))(hF:frR U c S2 S2'):Post P U pc sq take o S' p q c0 c M K r:=
 ⟨c,x,S2,M,v,own,S2',p,h,by simp only[pop,hk,aBn,hp,omS],leC.refl c,hx,hF,Mm,λhw=>hw,nlR _⟩
def dP(Mm:MR U q c0 c M p)(F:frR U c S S')(hk:aW o= .pure){x:X U}{v:PV}(h:K x S M=some r)(hp:bV P take S' o=some (v,false,S'))(hx:slR U c x (v,false)):Post P U pc sq take o S' p q c0 c M K r:=
 sM Mm hk h hp hx F
def aGv(F:frR U c S S'): ∀{l:List Operand} {ks:List Nat},aMC U S l=some ks->aC1 c ks (wks (l.map (pev S')))
 |[],ks,h=>by simp only[aMC,ojE]at h;subst h;trivial
 |x::l,ks,h=>by
  unfold aMC at h;split at h
  ·rename_i k ks' hx hl;simp only[ojE]at h;subst h;have h1:=(bA F x).1;rw[hx]at h1;obtain⟨e,id,g1,g2,g3⟩:=h1;have g3:pev S' x= .ptr id 0:=g3;refine⟨⟨e,id,g1,g2,by rw[g3];rfl⟩,aGv F hl⟩
  ·cases h
variable(hU:fV U)(hT:zD P U T)
include hU hT
def opT_ok{tc:mV U.D}(hc:CallOK U T tc pc)(F:frR U c S S')(Mm:MR U q c0 c M p){inst:Nat}{bk:List Nat}(h:opT U T tc sq take inst bk o S M K=some r):Post P U pc sq take o S' p q c0 c M K r:=by
 obtain⟨dst,op,ty,pos,jc,jb⟩:=o;have mv: ∀(x:Operand),(bif take then K (evT U S x) (sY U S x) M else K (rJ U (evT U S x)) S M)=some r->(op= .move x∨op= .assign x)->Post P U pc sq take ⟨dst,op,ty,pos,jc,jb⟩ S' p q c0 c M K r:=by
  intro x h ho;cases take with
  |true=>
   refine sM Mm ?_ h (v:=pev S' x) (own:=jD S' x) (S2':=qU S' x) ?_ (bA F x) (lJ F x)
   ·rcases ho with rfl|rfl<;>rfl
   ·rcases ho with rfl|rfl<;>rfl
  |false=>
   refine dP Mm F ?_ h (v:=pev S' x) ?_ (oF (bA F x))
   ·rcases ho with rfl|rfl<;>rfl
   ·rcases ho with rfl|rfl<;>rfl
 cases op with
 |move x=>exact mv x h (.inl rfl)
 |assign x=>exact mv x h (.inr rfl)
 |pick w a b=>
  simp only[opT]at h;split at h
  ·rename_i wb hw;have h1:=(bA F w).1;rw[hw]at h1;have h1:=of_bool h1;have h1:pev S' w= .v (.bool wb):=h1;obtain⟨x,h2,h3⟩:=pickT_ok h (bA F a) (bA F b);refine dP Mm F rfl h2 ?_ h3;simp only[bV,h1];cases wb<;>rfl
  ·cases h
 |build t parts=>
  simp only[opT]at h;split at h
  ·rename_i n ht;split at h
   ·rename_i l hl;obtain⟨x,hx,h⟩:=jF h;obtain⟨w,h1,h2⟩:=build_ok hU hT F ht hl hx;exact dP Mm F rfl h (by simp only[bV,h1,omS]) h2
   ·cases h
  ·cases h
 |nilCheck x=>
  simp only[opT]at h;have h1:=(bA F x).1;split at h
  ·rename_i k off path hx;rw[hx]at h1;have h2:=h1;obtain⟨e,id,g1,g2,g3⟩:=h1;have g3:pev S' x= .ptr id off:=g3;exact dP Mm F rfl h (v:= .ptr id off) (by simp only[bV,g3]) ⟨⟨e,id,g1,g2,rfl⟩,aJ _ _⟩
  ·rename_i v hx;rw[hx]at h1;obtain⟨es,i,off,e,g1,g2,g3⟩:=h1;have g1:pev S' x= .pin es i off:=g1;exact dP Mm F rfl h (v:= .pin es i off) (by simp only[bV,g1]) ⟨⟨es,i,off,e,rfl,g2,g3⟩,aJ _ _⟩
  ·rename_i k i off path hx;rw[hx]at h1;obtain⟨e,id,g1,g2,g3,g4,g5⟩:=h1;have g5:pev S' x= .ptr id (i.toNat*e.z+off):=g5;exact dP Mm F rfl h (v:= .ptr id (i.toNat*e.z+off)) (by simp only[bV,g5]) ⟨⟨e,id,g1,g2,g3,g4,rfl⟩,aJ _ _⟩
  ·cases h
 |binOp op t x y t'=>
  simp only[opT]at h;obtain⟨v,w,h1,h2,h3⟩:=binT_ok hU hT (x:=x) (y:=y) h (zrV_ok hU (bA F x).1) (zrV_ok hU (bA F y).1);have h2:nU P op t x y (pev S' x) (pev S' y)=some w:=h2;exact dP Mm F rfl h1 (by simp only[bV,h2,omS]) ⟨h3,aJ _ _⟩
 |unOp op t x=>
  simp only[opT]at h;obtain⟨v,w,h1,h2,h3⟩:=unT_ok (P:=P) h (bA F x).1;have h2:pun P op (pev S' x)=some w:=h2;exact dP Mm F rfl h1 (by simp only[bV,h2,omS]) ⟨h3,aJ _ _⟩
 |convert s d x=>
  simp only[opT]at h;obtain⟨v,w,h1,h2,h3⟩:=convT_ok hT h (bA F x).1;rcases h3 with h3|⟨hs,h3,h4⟩
  ·have h3:vJ P s d (pev S' x)=some w:=h3;exact dP Mm F rfl h1 (by simp only[bV,h3,omS]) ⟨h2,aJ _ _⟩
  ·have h3:vJ P s d (pev S' x)=none:=h3;have h4:wX P s d (pev S' x)=some w:=h4;refine⟨c,_,S,M,w,false,S',p,h1,?_,leC.refl c,⟨h2,aJ _ _⟩,F,Mm,λhw=>hw,nlR _⟩
   rw[hs];simp only[pop,aW,aBn,bV,h3,Option.map_none,cdt,h4,omS]
 |makeFunc fn first captured=>
  simp only[opT]at h;split at h
  ·rename_i f ks h1 h2;refine dP Mm F rfl h (v:= .fn f (wks (first.toList.map (pev S'))) (wks (captured.toList.map (pev S')))) rfl ⟨⟨_,?_,aGv F h2⟩,aJ _ _⟩
   rw[h1];rfl
  ·cases h
 |fieldAddr s x f=>
  simp only[opT]at h;have h1:=(bA F x).1;split at h
  ·rename_i n k off path ht hx;rw[hx]at h1;obtain⟨e,id,g1,g2,g3⟩:=h1;have g3:pev S' x= .ptr id off:=g3;cases hf:Nat.blt f (U.fs n).length with
   |false=>rw[hf]at h;cases h
   |true=>
    rw[hf]at h;rw[iN,djE]at hf;have:=(jL hU hT ht hf).1 id off;exact dP Mm F rfl h (by simp only[bV,g3,this,omS]) ⟨⟨e,id,g1,g2,rfl⟩,aJ _ _⟩
  ·rename_i n v ht hx;rw[hx]at h1;cases hb:v.t.beq (.rc n)with
   |false=>rw[hb]at h;cases h
   |true=>
    rw[hb]at h;simp only[cdt]at h;split at h
    ·rename_i w hw;obtain⟨q1,h2,h3⟩:=aBR hU hT ht hb hw h1;have h2:dZ P s (pev S' x) f=some q1:=h2;exact dP Mm F rfl h (by simp only[bV,h2,omS]) ⟨h3,aJ _ _⟩
    ·cases h
  ·rename_i n k i off path ht hx;rw[hx]at h1;obtain⟨e,id,g1,g2,g3,g4,g5⟩:=h1;have g5:pev S' x= .ptr id (i.toNat*e.z+off):=g5;cases hf:Nat.blt f (U.fs n).length with
   |false=>rw[hf]at h;cases h
   |true=>
    rw[hf]at h;rw[iN,djE]at hf;have:=(jL hU hT ht hf).1 id (i.toNat*e.z+off);exact dP Mm F rfl h (v:= .ptr id (i.toNat*e.z+off+mD U n f)) (by simp only[bV,g5,this,omS]) ⟨⟨e,id,g1,g2,g3,g4,by simp only[Nat.add_assoc]⟩,aJ _ _⟩
  ·cases h
 |field t x f=>
  simp only[opT]at h;have h1:=bA F x;split at h
  ·rename_i n v rs ht hx;rw[hx]at h1;cases hb:v.t.beq (.rc n)with
   |false=>rw[hb]at h;cases h
   |true=>
    rw[hb]at h;simp only[cdt]at h;split at h
    ·rename_i w hw;obtain⟨q1,h2,h3⟩:=field_ok hU hT ht hb hw h1;exact dP Mm F rfl h (by simp only[bV,h2,omS]) h3
    ·cases h
  ·cases h
 |indexAddr t x i=>
  simp only[opT]at h;have h1:=(bA F x).1;have h2:=(bA F i).1;split at h
  ·rename_i e e' l k n ht hx hi;rw[hx]at h1;rw[hi]at h2;have h2:pev S' i= .v (.int k n):=fD h2;cases he:e.beq e' with
   |false=>rw[he]at h;cases h
   |true=>
    rw[he]at h;obtain⟨y,hy,h⟩:=jF h;obtain⟨q1,g1,g2⟩:=aBD hU hT (k:=k) ht he hy h1;have g1:cZ P t (pev S' x) (.v (.int k n))=some q1:=g1;exact dP Mm F rfl h (by simp only[bV,h2,g1,omS]) ⟨g2,aJ _ _⟩
  ·rename_i e kk k n ht hx hi;rw[hx]at h1;rw[hi]at h2;have h2:pev S' i= .v (.int k n):=fD h2;split at h
   ·rename_i e' l hf;cases he:e.beq e' with
    |false=>rw[he]at h;cases h
    |true=>
     rw[he]at h;have:=Ty.beq_eq he;subst this;obtain⟨hin,h⟩:=cN h;obtain⟨ce,g1,g2⟩:=h1;obtain⟨ce',g1',hn,hz,_⟩:=Mm.bx _ _ hf;rw[g1]at g1';cases g1';obtain⟨fb,hu,gp,_⟩:=hT.un t _ ht;simp only[bC,bjE,djE]at hin;rcases g2 with⟨_,hn0,_⟩|⟨id,g3,g4,g5⟩
     ·have b1:(0:Int)<=n:=hin.1;have b2:(n:Int)<(l.length:Int):=hin.2;omega
     ·have g5:pev S' x= .rs id 0 ce.n:=g5;have hin':bC n ce.n=true:=by rw[hn];simp only[bC,bjE,djE];exact hin
      refine dP Mm F rfl h (v:= .ptr id (0+Int.toNat n*szT U e)) ?_ ⟨⟨ce,id,g1,g3,hin.1,by rw[hn];exact hin.2,by rw[hz,Nat.zero_add,Nat.add_zero]⟩,aJ _ _⟩
      simp only[bV,h2,g5,cZ,hu,hT.sz _ _ gp,hin',cdt,omS]
   ·cases h
  ·rename_i n kk off pp k m ht hx hi;rw[hx]at h1;rw[hi]at h2;have h2:pev S' i= .v (.int k m):=fD h2;cases ha:T.T.arr t with
   |false=>rw[ha]at h;cases h
   |true=>
    rw[ha]at h;obtain⟨j,_,hj,hm,h⟩:=aAP h;obtain⟨len,e,te,hu,hz,hf⟩:=hT.arr t n ht ha;obtain⟨ce,id,g1,g2,g3⟩:=h1;have g3:pev S' x= .ptr id off:=g3;rw[hf,List.length_replicate,Nat.zero_add]at hj;have hin:bC m len=true:=by rw[hm];simp only[bC,bjE,djE];omega
    have ho:mD U n j=j*szT U te:=by rw[mD,hf,List.take_replicate,Nat.min_eq_left (by omega)];exact aBd _ _
    refine dP Mm F rfl h (v:= .ptr id (off+Int.toNat m*szT U te)) ?_ ⟨⟨ce,id,g1,g2,by rw[ho,hm];rfl⟩,aJ _ _⟩
    simp only[bV,h2,g3,cZ,hu,hz,hin,cdt,omS]
  ·rename_i n v k m ht hx hi;rw[hx]at h1;rw[hi]at h2;have h2:pev S' i= .v (.int k m):=fD h2;cases hb:(T.T.arr t&&v.t.beq (.rc n))with
   |false=>rw[hb]at h;cases h
   |true=>
    rw[hb]at h;rw[bjE]at hb;rw[cdt]at h;obtain⟨j,_,hj,hm,h5⟩:=aAP h;clear h;subst hm;split at h5
    ·rename_i w hw;obtain⟨q1,g2,g3⟩:=aBE (k:=k) hU hT ht hb.1 hb.2 hw h1;have g2:cZ P t (pev S' x) (.v (.int k (j:Int)))=some q1:=g2;exact dP Mm F rfl h5 (by simp only[bV,h2,g2,omS]) ⟨g3,aJ _ _⟩
    ·cases h5
  ·cases h
 |index t x i=>
  simp only[opT]at h;have h1:=(bA F x).1;have h2:=(bA F i).1;split at h
  ·rename_i s k n ht hx hi;rw[hx]at h1;rw[hi]at h2;have h2:pev S' i= .v (.int k n):=fD h2;obtain⟨b,hb,h⟩:=jF h;have g1:=index_ok hT (k:=k) ht hb h1;have g1:wW P t (pev S' x) (.v (.int k n))=some (.v (.int .u8 (b.toNat:Int))):=g1;exact dP Mm F rfl h (by simp only[bV,h2,g1,omS]) ⟨dW _ _,aJ _ _⟩
  ·cases h
 |extract x i=>
  simp only[opT]at h;have h1:=(bA F x).1;split at h
  ·rename_i l hx;rw[hx]at h1;obtain⟨ps,g1,g2⟩:=h1;have g1:pev S' x= .tup ps:=g1;split at h
   ·rename_i v hv;have g3:ps[i]?=some (enV U v.t v.x):=by rw[g2,List.getElem?_map,hv];rfl
    cases lr:(take&&Nat.beq i 0)with
    |false=>
     rw[lr,cdf]at h;refine dP Mm F rfl h (by simp only[bV,g1,lr,cdf,g3,omS]) ⟨⟨en_wk hU _ _,aA7 (rQ hU _ _)⟩,aJ _ _⟩
    |true=>
     rw[lr,cdt]at h;have hi:=lr;simp only[bjE,cG,djE]at hi;obtain⟨_,rfl⟩:=hi;refine sM Mm rfl h (v:=enV U v.t v.x) (own:=jD S' x) (S2':=qU S' x) (by simp only[bV,g1,lr,cdt,g3,omS]) ⟨⟨en_wk hU _ _,aA7 (rQ hU _ _)⟩,?_⟩ (lJ F x)
     cases cr:aBB v.t with
     |false=>exact aJ _ _
     |true=>
      intro o s hm;rcases(bA F x).2 o s hm with⟨ha,_⟩|⟨ho,_,hw,hs⟩
      ·have ha:isAgg (pev S' x)=true:=ha;rw[g1]at ha;cases ha
      ·have hw:(jD S' x||iO (pev S' x))=true:=hw;rw[g1,show iO (.tup ps)=false from rfl,Bool.or_false]at hw
       have hg:gd (enV U v.t v.x)=true:=by
        obtain⟨vt,vx⟩:=v;cases vt with
        |sl t=>exact cI _ _
        |_=>cases cr
       refine .inr ⟨ho,?_,by show(jD S' x||_)=true;rw[hw];rfl,λ_=>xI hg⟩
       refine iY (U:=U) (v:=v) ⟨en_wk hU _ _,aA7 (rQ hU _ _)⟩ ?_;cases gn:v.t with
       |rc n=>rw[gn]at cr;cases cr
       |_=>rfl
   ·cases h
  ·cases h
 |load t a=>
  simp only[opT]at h;obtain⟨x,M',v,own,p',h1,h2,h3,h4,h5⟩:=ldT_ok hU hT h (bA F a).1 Mm;refine⟨c,x,S,M',v,own,S',p',h1,?_,leC.refl c,h3,F,h4,h5,aH1 h2⟩;have:kJ P p S' ⟨dst,.load t a,ty,pos,jc,jb⟩ take=some (v,own,p'):=by
   simp only[kJ];unfold sI at h2;exact h2
  simp only[pop,aW,this,omS]
 |slice t x lo hi mx=>
  simp only[opT]at h;obtain⟨y,w,own,h1,h2,h3⟩:=slT_ok hT F (p:=p) h (bA F x).1;have h2:gX P p t (pev S' x) (lo.map (pev S')) (hi.map (pev S')) (mx.map (pev S'))=some (w,own):=h2;exact⟨c,y,S,M,w,own,S',p,h1,by simp only[pop,aW,kJ,h2,omS],leC.refl c,h3,F,Mm,λhw=>hw,nlR _⟩
 |alloc t=>
  simp only[opT]at h;obtain⟨c',x,M',v,p',h1,h2,h3,h4,h5,h6⟩:=alT_ok hU hT (S':=S') (o:=⟨dst,.alloc t,ty,pos,jc,jb⟩) rfl h Mm;exact⟨c',x,S,M',v,false,S',p',h1,by simp only[pop,aW,h2,omS],h3,h4,aK3 h3 F,h5,h6,mB h2⟩
 |box t x=>
  simp only[opT]at h;obtain⟨c',x,M',v,p',h1,h2,h3,h4,h5,h6⟩:=bxT_ok hU F (P:=P) (o:=⟨dst,.box t x,ty,pos,jc,jb⟩) rfl h Mm;exact⟨c',x,S,M',v,false,S',p',h1,by simp only[pop,aW,h2,omS],h3,h4,aK3 h3 F,h5,h6,mB h2⟩
 |buildSlice t len parts=>
  simp only[opT]at h;split at h
  ·rename_i e ht;cases hb:Nat.ble (len*szT U e) 1000000 with
   |false=>rw[hb]at h;cases h
   |true=>
    rw[hb]at h;simp only[cdt]at h;split at h
    ·rename_i l hl;obtain⟨w,h1,h2⟩:=aAN hU hT F (p:=p) (o:=⟨dst,.buildSlice t len parts,ty,pos,jc,jb⟩) rfl ht hb hl;exact⟨c,_,S,M,w,true,S',p,h,by simp only[pop,aW,h1,omS],leC.refl c,h2,F,Mm,λhw=>hw,nlR _⟩
    ·cases h
  ·cases h
 |makeSlice t l k=>
  simp only[opT]at h;obtain⟨c',x,M',v,own,p',h1,h2,h3,h4,h5,h6⟩:=msT_ok hU hT F (o:=⟨dst,.makeSlice t l k,ty,pos,jc,jb⟩) rfl h Mm;exact⟨c',x,S,M',v,own,S',p',h1,by simp only[pop,aW,h2,omS],h3,h4,aK3 h3 F,h5,h6,mB h2⟩
 |store t a x=>
  simp only[opT]at h;obtain⟨M',p',h1,h2,h3,h4⟩:=stT_ok hU hT h (bA F a).1 (bA F x) Mm;have h2:kI P p t (pev S' a) (pev S' x) (jD S' x)=some p':=h2;exact⟨c,_,_,M',.und,false,qU S' x,p',h1,by simp only[pop,aW,peff,h2,omS],leC.refl c,⟨trivial,aJ _ _⟩,lJ F x,h3,h4,aDc h2⟩
 |call cl=>
  simp only[opT]at h;split at h
  ·rename_i dt;split at h
   ·rename_i t x ht hx;obtain⟨y,w,h1,h2,h3⟩:=lenK_ok hT Mm h (bA F x).1;have h2:aIX P t (pev S' x)=some w:=h2;exact dP Mm F (by simp only[aW,dt]) h1 (by simp only[bV,dt,ht,hx,h2,omS]) h3
   ·cases h
  ·rename_i dt;split at h
   ·rename_i x y hx;obtain⟨z,w,h1,h2,h3⟩:=mmT_ok (P:=P) (ts:=cl.argTypes) (ty:=ty) h (bA F x).1 (bA F y).1;have h2:jC P false cl.argTypes ty [pev S' x,pev S' y]=some w:=h2;exact dP Mm F (by simp only[aW,dt]) h1 (by simp only[bV,dt,hx,mpC,List.map_nil,h2,omS]) h3
   ·cases h
  ·rename_i dt;split at h
   ·rename_i x y hx;obtain⟨z,w,h1,h2,h3⟩:=mmT_ok (P:=P) (ts:=cl.argTypes) (ty:=ty) h (bA F x).1 (bA F y).1;have h2:jC P true cl.argTypes ty [pev S' x,pev S' y]=some w:=h2;exact dP Mm F (by simp only[aW,dt]) h1 (by simp only[bV,dt,hx,mpC,List.map_nil,h2,omS]) h3
   ·cases h
  ·rename_i dt;split at h
   ·rename_i s x hx;obtain⟨y,v,own,h1,h2,h3⟩:=apT_ok hU hT F h;exact⟨c,y,_,M,v,own,qU S' s,p,h1,by simp only[pop,aW,dt,peff,hx,h2,omS],leC.refl c,h3,lJ F s,Mm,λhw=>hw,nlR _⟩
   ·cases h
  ·rename_i f dt;obtain⟨x,S2,M',v,own,p',g,args,h1,h2,h3,h4,h5,h6,h7,h8⟩:=callK_ok hU hc F dt h Mm;exact⟨c,x,S2,M',v,own,_,p',h1,by simp only[pop,aW,dt,peff,h2,h3,omS],leC.refl c,h4,h5,h6,h7,by rw[h8];exact nlR _⟩
  ·cases h
 |_=>cases h
end
end Go.TV
namespace Go.TV
open Go.AI Go.PI
section
variable{P:Program}{U:jP}{T:TP U.D}{c c0:Cx}{W:Type}{r:W}{q p:PSt}{M:TM U.D}{S:TS U.D}{S':PS}{pc:fB}
def aJh:slR U c (.tup [],[]) (.tup [],false):=⟨⟨[],rfl,rfl⟩,aJ _ _⟩
def guT_ok{ops:Array Oper}{o:Oper}{run skip:TS U.D->Option W}(h:guT U ops o S run skip=some r)(F:frR U c S S'):
    ∃S1,frR U c S1 S'/\((iE ops S' o=some true/\run S1=some r)∨(iE ops S' o=some false/\skip S1=some r)):=by
 unfold guT at h;split at h
 ·rename_i hg;exact⟨S,F,.inl ⟨by simp only[iE,hg],h⟩⟩
 ·rename_i j want hg;split at h
  ·cases h
  ·rename_i d hd;have hs:=F d;split at h
   ·rename_i b rr hx;rw[hx]at hs;have hb:(S'.at d).1= .v (.bool b):=of_bool hs.1;have hpw:iE ops S' o=some (b==want):=by simp only[iE,hg,hd,omS,hb]
    have hF: ∀b',b=b'->frR U c ((d,(.val ⟨.bool,b'⟩,rr))::S) S':=λb' e=>aGi F (by rw[<-e];exact hs)
    rcases aAH h with⟨rfl,h⟩|⟨rfl,h⟩
    ·cases want with
     |true=>exact⟨_,hF true rfl,.inl ⟨hpw,h⟩⟩
     |false=>exact⟨_,hF true rfl,.inr ⟨hpw,h⟩⟩
    ·cases want with
     |true=>exact⟨_,hF false rfl,.inr ⟨hpw,h⟩⟩
     |false=>exact⟨_,hF false rfl,.inl ⟨hpw,h⟩⟩
   ·rename_i rr hx;rw[hx]at hs;obtain⟨ps,e1,e2⟩:=hs.1;have hb:(S'.at d).1= .tup []:=by rw[e1,e2];rfl
    exact⟨S,F,.inr ⟨by simp only[iE,hg,hd,omS,hb],h⟩⟩
   ·cases h
variable(hU:fV U)(hT:zD P U T)
include hU hT
def aML{oA oI oS:Oper}{K:TS U.D->Option W}(h:appT U T oA oI oS S K=some r)(F:frR U c S S'):
    ∃S1 S1',K S1=some r/\aH8 P S' oA oI oS=some S1'/\frR U c S1 S1':=by
 unfold appT at h;split at h
 ·rename_i cl a t1 a' n b t2 b' x e1 e2 e3 e4 e5 e6;split at h
  ·rename_i s zz e7 e8;cases hb:Nat.beq a a'&&Nat.beq b b'&& !Nat.beq a b&& !isT a n&& !isT a x&& !isT b x&&oA.guard.isNone&&oI.guard.isNone&&oS.guard.isNone with
   |false=>rw[hb]at h;cases h
   |true=>
    rw[hb]at h;simp only[cdt]at h;obtain⟨y,w,v,h1,h2,h3,h4⟩:=ap1T_ok hU hT F h;refine⟨_,((qU S' s).put (some a) v true).put (some b) (pinL v) false,h1,by simp only[aH8,e1,e2,e3,e4,e5,e6,e7,e8,hb,cdt,h2,omS],?_⟩
    exact mM (mM (lJ F s) h3) ⟨h4,aJ _ _⟩
  ·cases h
 ·cases h
def runT_ok{tc:mV U.D}(hc:CallOK U T tc pc){ops:Array Oper}{K:TS U.D->TM U.D->Option W}: ∀(sc:List TStep) (S:TS U.D) (M:TM U.D) (S':PS) (p:PSt) (c:Cx),frR U c S S'->MR U q c0 c M p->runT U T tc ops sc S M K=some r->
    ∃c' S1 M1 S1' p',K S1 M1=some r/\aCW P pc ops (sc.map TStep.un) S' p=some (S1',p')/\leC c c'/\frR U c' S1 S1'/\MR U q c0 c' M1 p'/\p.next<=p'.next
 |[],S,M,S',p,c,F,Mm,h=>⟨c,S,M,S',p,h,rfl,leC.refl c,F,Mm,nlR _⟩
 | .app a i s::rest,S,M,S',p,c,F,Mm,h=>by
  unfold runT at h;split at h
  ·rename_i oA oI oS e1 e2 e3;obtain⟨S1,S1',h1,h2,h3⟩:=aML hU hT h F;obtain⟨c',S2,M2,S2',p',g1,g2,g3⟩:=runT_ok hc rest S1 M S1' p c h3 Mm h1;refine⟨c',S2,M2,S2',p',g1,?_,g3⟩;simp only[mpC,TStep.un,aCW,e1,e2,e3,h2,g2]
  ·cases h
 | .freeze t::rest,S,M,S',p,c,F,Mm,h=>by
  unfold runT at h;split at h
  ·rename_i R hR;obtain⟨S1',p1,h1,h2,h3,h4⟩:=aK2 hU F hR Mm;obtain⟨c',S2,M2,S2',p',g1,g2,g3,g4,g5,g6⟩:=runT_ok hc rest R.1 R.2 S1' p1 c h2 h3 h;refine⟨c',S2,M2,S2',p',g1,?_,g3,g4,g5,Nat.le_trans (pfreeze_next h1) g6⟩;simp only[mpC,TStep.un,aCW,h1,g2]
  ·cases h
 | .op i take inst bk::rest,S,M,S',p,c,F,Mm,h=>by
  unfold runT at h;split at h
  ·cases h
  ·rename_i o ho;obtain⟨S0,F0,h|h⟩:=guT_ok h F
   ·obtain⟨hw,h⟩:=h;obtain⟨c1,x,S1,M1,v,own,S1',p1,h1,h2,h3,h4,h5,h6,_,h7⟩:=opT_ok hU hT hc F0 Mm h;obtain⟨c',S2,M2,S2',p',g1,g2,g3,g4,g5,g6⟩:=runT_ok hc rest _ M1 _ p1 c1 (tD h5 h4) h6 h1;refine⟨c',S2,M2,S2',p',g1,?_,leC.trans h3 g3,g4,g5,Nat.le_trans h7 g6⟩;simp only[mpC,TStep.un,aCW,ho,hw,h2,g2]
   ·obtain⟨hw,h⟩:=h;obtain⟨c',S2,M2,S2',p',g1,g2,g3⟩:=runT_ok hc rest _ M _ p c (tD F0 aJh) Mm h;refine⟨c',S2,M2,S2',p',g1,?_,g3⟩;simp only[mpC,TStep.un,aCW,ho,hw,g2]
where
 pfreeze_next {p p1:PSt} {S' S1':PS} {t:Nat} (h:fX p S' t=some (S1',p1)):p.next<=p1.next:=by
  unfold fX at h;split at h
  ·rename_i R hR;cases h;unfold frz at hR;simp only[Bool.cond_eq_ite]at hR
   repeat' split at hR
   all_goals first|(cases hR;done)|(simp only[ojE]at hR;rw[<-hR];exact nlR _)
  ·cases h
def pdR(c:Cx):List TPd->List gV->Prop
 |[],[]=>True
 |x::l,y::l'=>(x.i=y.i/\x.stale=y.stale/\x.mr=gZ y.o/\(x.mr=false->∃e id,c x.k=some e/\e.id=some id/\cid y.o y.a y.v=some id))/\pdR c l l'
 |_,_=>False
omit hU hT in
def aKp{c c':Cx}(h:leC c c'): ∀{l:List TPd} {l':List gV},pdR c l l'->pdR c' l l'
 |[],[],_=>trivial
 |x::l,y::l',⟨⟨h1,h2,h3,h4⟩,h5⟩=>⟨⟨h1,h2,h3,λe=>by obtain⟨a,id,g1,g2⟩:=h4 e;exact⟨a,id,h _ _ g1,g2⟩⟩,aKp h h5⟩
 |[],_::_,hh=>hh.elim
 |_::_,[],hh=>hh.elim
omit hU hT in
def aAi(hw:WR U c M p): ∀{l:List TPd} {l':List gV},pdR c l l'->okPd M.wr l=true->l'.all (lT P p)=true
 |[],[],_,_=>rfl
 |x::l,y::l',⟨⟨h1,h2,h3,h4⟩,h5⟩,h=>by
  simp only[okPd,bjE,Bool.or_eq_true,Bool.not_eq_true']at h;rw[alC,aAi hw h5 h.2,bnA];unfold lT;rw[<-h2];rcases h.1 with h6|⟨h6,h7⟩
  ·rw[h6];rfl
  ·obtain⟨e,id,g1,g2,g3⟩:=h4 h6;have:clean p (cid y.o y.a y.v)=true:=by
    rw[g3];simp only[clean,Bool.not_eq_true',<-Bool.not_eq_true];intro hm;have:=hw id (by simpa using hm) x.k e g1 g2
    rw[h7]at this;cases this
   rw[this,Bool.true_or,Bool.or_true]
 |[],_::_,hh,_=>hh.elim
 |_::_,[],hh,_=>hh.elim
omit hU hT in
def zK{ms:List Nat}{i:Nat}{ap:Bool}: ∀{l:List TPd} {l':List gV},pdR c l l'->pdR c (aHV ms i ap l) ((l'.filter λr=> !bit (ms.getD i 0) r.i).map λr=>bif ap&& !gZ r.o then r else{r with stale:=true})
 |[],[],_=>trivial
 |x::l,y::l',⟨⟨h1,h2,h3,h4⟩,h5⟩=>by
  have ih:=zK (ms:=ms) (i:=i) (ap:=ap) h5;simp only[aHV,List.filter_cons,h1];cases hb:bit (ms.getD i 0) y.i with
  |true=>simpa using ih
  |false=>
   simp only[Bool.not_false,if_true,cdf,mpC];refine⟨?_,ih⟩;rw[<-h3];cases ap&& !x.mr with
   |true=>simp only[cdt];exact⟨h1,h2,h3,h4⟩
   |false=>simp only[cdf];exact⟨trivial,trivial,h3,h4⟩
 |[],_::_,hh=>hh.elim
 |_::_,[],hh=>hh.elim
omit hU hT in
def aFV{ms:List Nat}{i:Nat}: ∀{l:List TPd} {l':List gV},pdR c l l'->pdR c (aKC ms i l) (l'.filter λr=> !bit (ms.getD i 0) r.i)
 |[],[],_=>trivial
 |x::l,y::l',⟨⟨h1,h2,h3,h4⟩,h5⟩=>by
  have ih:=aFV (ms:=ms) (i:=i) h5;simp only[aKC,List.filter_cons,h1];cases hb:bit (ms.getD i 0) y.i with
  |true=>simpa using ih
  |false=>exact⟨⟨h1,h2,h3,h4⟩,ih⟩
 |[],_::_,hh=>hh.elim
 |_::_,[],hh=>hh.elim
omit hU hT in
def aKF{ms:List Nat}{i:Nat}: ∀{l:List TPd} {l':List gV},pdR c l l'->noMk ms i l=true->(l'.filter λr=> !bit (ms.getD i 0) r.i).all (λr=> !gZ r.o)=true
 |[],[],_,_=>rfl
 |x::l,y::l',⟨⟨h1,h2,h3,h4⟩,h5⟩,h=>by
  simp only[noMk,bjE,Bool.or_eq_true,Bool.not_eq_true']at h;have ih:=aKF (ms:=ms) (i:=i) h5 h.2;rw[List.filter_cons];cases hb:bit (ms.getD i 0) y.i with
  |true=>simpa using ih
  |false=>
   rw[h1,hb]at h;rcases h.1 with h6|h6
   ·cases h6
   ·simp only[Bool.not_false,if_true,alC,ih,bnA];rw[<-h3,h6];rfl
 |[],_::_,hh,_=>hh.elim
 |_::_,[],hh,_=>hh.elim
omit hU hT in
def pdT_ok{o:Oper}{x:X U}{i:Nat}{pend gi:List TPd}{pl:List gV}{v:PV}{own:Bool}{c':Cx}(h:pdT U o S x i pend=some gi)(F:frR U c S S')(hl:leC c c')(hx:slR U c' x (v,own))(hp:pdR c' pend pl):
    pdR c' gi (bif gN o S' then⟨i,o,kW o S',v,false⟩::pl else pl):=by
 obtain⟨dst,op,ty,pos,jc,jb⟩:=o;have other:(∀t a,op≠ .load t a)->gN ⟨dst,op,ty,pos,jc,jb⟩ S'=false->pdT U ⟨dst,op,ty,pos,jc,jb⟩ S x i pend=some pend->pdR c' gi (bif gN ⟨dst,op,ty,pos,jc,jb⟩ S' then⟨i,⟨dst,op,ty,pos,jc,jb⟩,kW ⟨dst,op,ty,pos,jc,jb⟩ S',v,false⟩::pl else pl):=by
  intro _ h1 h2;rw[h2]at h;cases h;rw[h1];exact hp
 have box: ∀(k:Nat),(∃off np,x.1= .lc k off np)->gN ⟨dst,op,ty,pos,jc,jb⟩ S'=true->gZ ⟨dst,op,ty,pos,jc,jb⟩=false->(∀a w,cid ⟨dst,op,ty,pos,jc,jb⟩ a w=vid w)->pdR c' (⟨i,k,false,false⟩::pend) (bif gN ⟨dst,op,ty,pos,jc,jb⟩ S' then⟨i,⟨dst,op,ty,pos,jc,jb⟩,kW ⟨dst,op,ty,pos,jc,jb⟩ S',v,false⟩::pl else pl):=by
  intro k ⟨off,np,hk⟩ h1 h2 h3;rw[h1];have h4:=hx.1;rw[hk]at h4;obtain⟨e,id,g1,g2,g3⟩:=h4;have g3:v= .ptr id off:=g3;exact⟨⟨rfl,rfl,h2.symm,λ_=>⟨e,id,g1,g2,by simp only[h3];rw[g3];rfl⟩⟩,hp⟩
 cases op with
 |load t a=>
  have h1:=(bA F a).1;simp only[pdT]at h;split at h
  ·rename_i k off np ha;rw[ha]at h1;obtain⟨e,id,g1,g2,g3⟩:=h1;have g3:pev S' a= .ptr id off:=g3;cases h;simp only[gN,g3,cdt];exact⟨⟨rfl,rfl,rfl,λ_=>⟨e,id,hl _ _ g1,g2,by simp only[cid,kW,g3,aid]⟩⟩,hp⟩
  ·rename_i k ii off np ha;rw[ha]at h1;obtain⟨e,id,g1,g2,_,_,g3⟩:=h1;have g3:pev S' a= .ptr id (ii.toNat*e.z+off):=g3;cases h;simp only[gN,g3,cdt];exact⟨⟨rfl,rfl,rfl,λ_=>⟨e,id,hl _ _ g1,g2,by simp only[cid,kW,g3,aid]⟩⟩,hp⟩
  ·rename_i w ha;rw[ha]at h1;obtain⟨es,ii,off,e,g1,_⟩:=h1;have g1:pev S' a= .pin es ii off:=g1;cases h;simp only[gN,g1,cdf];exact hp
  ·cases h
 |alloc t=>
  simp only[pdT]at h;split at h
  ·rename_i k off np hk;cases h;exact box k ⟨off,np,hk⟩ rfl rfl λ_ _=>rfl
  ·cases h
 |box t y=>
  simp only[pdT]at h;split at h
  ·rename_i k off np hk;cases h;exact box k ⟨off,np,hk⟩ rfl rfl λ_ _=>rfl
  ·cases h
 |makeSlice t l k=>
  simp only[pdT,ojE]at h;subst h;exact⟨⟨rfl,rfl,rfl,λe=>by cases e⟩,hp⟩
 |_=>exact other (λ_ _ e=>by cases e) rfl rfl
def lD{tc:mV U.D}(hc:CallOK U T tc pc){ops:Array Oper}{ms:List Nat}{K:TS U.D->TM U.D->Option W}: ∀(sc:List TStep) (pend:List TPd) (pl:List gV) (S:TS U.D) (M:TM U.D) (S':PS) (p:PSt) (c:Cx),frR U c S S'->MR U q c0 c M p->WR U c M p->pdR c pend pl->
    rG U T tc ops ms sc pend S M K=some r->
    ∃c' S1 M1 S1' p',K S1 M1=some r/\iL P pc ops ms (sc.map TStep.un) pl S' p=some (S1',p')/\leC c c'/\frR U c' S1 S1'/\MR U q c0 c' M1 p'/\p.next<=p'.next
 |[],pend,pl,S,M,S',p,c,F,Mm,β,Pd,h=>by
  unfold rG at h;cases hb:okPd M.wr pend with
  |false=>rw[hb]at h;cases h
  |true=>
   rw[hb]at h;exact⟨c,S,M,S',p,h,by simp only[List.map_nil,iL,aAi β Pd hb,cdt],leC.refl c,F,Mm,nlR _⟩
 | .app a i s::rest,pend,pl,S,M,S',p,c,F,Mm,β,Pd,h=>by
  unfold rG at h;split at h
  ·rename_i oA oI oS e1 e2 e3;obtain⟨S1,S1',h1,h2,h3⟩:=aML hU hT h F;cases hb:okPd M.wr pend&&noMk ms a pend with
   |false=>rw[hb]at h1;cases h1
   |true=>
    rw[hb]at h1;simp only[bjE]at hb;have hpd:=aFV (ms:=ms) (i:=s) (zK (ms:=ms) (i:=a) (ap:=true) Pd);obtain⟨c',S2,M2,S2',p',g1,g2,g3⟩:=lD hc rest _ _ S1 M S1' p c h3 Mm β hpd h1;refine⟨c',S2,M2,S2',p',g1,?_,g3⟩;simp only[mpC,TStep.un,iL,e1,e2,e3,h2,aAi β Pd hb.1,aKF Pd hb.2,Bool.and_self,cdt];simpa using g2
  ·cases h
 | .freeze t::rest,pend,pl,S,M,S',p,c,F,Mm,β,Pd,h=>by
  unfold rG at h;split at h
  ·rename_i R hR;obtain⟨S1',p1,h1,h2,h3,h4⟩:=aK2 hU F hR Mm;obtain⟨c',S2,M2,S2',p',g1,g2,g3,g4,g5,g6⟩:=lD hc rest pend pl R.1 R.2 S1' p1 c h2 h3 (h4 β) Pd h;refine⟨c',S2,M2,S2',p',g1,?_,g3,g4,g5,Nat.le_trans (runT_ok.pfreeze_next h1) g6⟩;simp only[mpC,TStep.un,iL,h1,g2]
  ·cases h
 | .op i take inst bk::rest,pend,pl,S,M,S',p,c,F,Mm,β,Pd,h=>by
  unfold rG at h;split at h
  ·cases h
  ·rename_i o ho;obtain⟨S0,F0,h|h⟩:=guT_ok h F
   ·obtain⟨hw,h⟩:=h;obtain⟨c1,x,S1,M1,v,own,S1',p1,h1,h2,h3,h4,h5,h6,hW,h7⟩:=opT_ok hU hT hc F0 Mm h;cases he:iP o with
    |true=>
     rw[he]at h1;simp only[cdt]at h1;cases hb:okPd M.wr pend with
     |false=>rw[hb]at h1;cases h1
     |true=>
      rw[hb]at h1;have hpd:=zK (ms:=ms) (i:=i) (ap:=jI o) (aKp h3 Pd);obtain⟨c',S2,M2,S2',p',g1,g2,g3,g4,g5,g6⟩:=lD hc rest _ _ _ M1 _ p1 c1 (tD h5 h4) h6 (hW β) hpd h1;refine⟨c',S2,M2,S2',p',g1,?_,leC.trans h3 g3,g4,g5,Nat.le_trans h7 g6⟩;simp only[mpC,TStep.un,iL,ho,hw,h2,he,aAi β Pd hb,cdt];exact g2
    |false=>
     rw[he]at h1;simp only[cdf]at h1;split at h1
     ·rename_i gi hpe;have hpd:=pdT_ok hpe F0 h3 h4 (aKp h3 Pd);obtain⟨c',S2,M2,S2',p',g1,g2,g3,g4,g5,g6⟩:=lD hc rest _ _ _ M1 _ p1 c1 (tD h5 h4) h6 (hW β) hpd h1;refine⟨c',S2,M2,S2',p',g1,?_,leC.trans h3 g3,g4,g5,Nat.le_trans h7 g6⟩;simp only[mpC,TStep.un,iL,ho,hw,h2,he,cdf];exact g2
     ·cases h1
   ·obtain⟨hw,h⟩:=h;obtain⟨c',S2,M2,S2',p',g1,g2,g3⟩:=lD hc rest pend pl _ M _ p c (tD F0 aJh) Mm β Pd h;refine⟨c',S2,M2,S2',p',g1,?_,g3⟩;simp only[mpC,TStep.un,iL,ho,hw,g2]
end
end Go.TV
namespace Go.TV
open Go.AI Go.PI
section
variable{P:Program}{U:jP}{T:TP U.D}{c c0:Cx}{W:Type}{r:W}{q p:PSt}{M:TM U.D}{S:TS U.D}{S':PS}{pc:fB}
def onC(c:Cx)(l:List Nat):Cx:=λk=>bif bW k l then c k else none
def aBr{c:Cx}{l:List Nat}{k:Nat}{e:Ce}(h:onC c l k=some e):c k=some e/\bW k l=true:=by
 unfold onC at h;cases hb:bW k l with
 |true=>rw[hb]at h;exact⟨h,rfl⟩
 |false=>rw[hb]at h;cases h
def aBq{c:Cx}{l:List Nat}{k:Nat}{e:Ce}(h:c k=some e)(hm:bW k l=true):onC c l k=some e:=by
 unfold onC;rw[hm];exact h
def aEx{l:List Nat}: ∀{caps:List Nat} {ps:List PV},yY caps l=true->aC1 c caps ps->aC1 (onC c l) caps ps
 |[],[],_,_=>trivial
 |k::ks,x::ps,h,⟨⟨e,id,h1,h2,h3⟩,h4⟩=>by
  simp only[yY,bjE]at h;exact⟨⟨e,id,aBq h1 h.1,h2,h3⟩,aEx h.2 h4⟩
 |[],_::_,_,h=>h.elim
 |_::_,[],_,h=>h.elim
def aBa: ∀{l:List (V U)} {ts:List Ty},aHW U l ts=true->l.length=ts.length
 |[],[],_=>rfl
 |v::l,t::ts,h=>by
  simp only[aHW,bjE]at h;simp only[lcS,aBa h.2]
 |[],_::_,h=>by cases h
 |_::_,[],h=>by cases h
def fitV_ok(hU:fV U){l:List Nat}{sh:Sh}{s:SV U.D}{d:List (V U)}{pv:PV}(h:aCZ U l sh s=some d)(r:svR U c s pv):
    ∃s',(∀rest,unV U sh (d++rest)=some (s',rest))/\svR U (onC c l) s' pv:=by
 cases sh with
 |val t=>
  simp only[aCZ]at h;split at h
  ·rename_i v hv;cases h;obtain⟨h1,h2⟩:=hY hU hv r;refine⟨.val v,λrest=>?_,h2⟩
   simp only[sgA,unV,h1,Ty.beq_rfl,cdt]
  ·cases h
 |tup ts=>
  cases s with
  |tup vs=>
   simp only[aCZ]at h;cases hb:aHW U vs ts with
   |false=>rw[hb]at h;cases h
   |true=>
    rw[hb]at h;simp only[cdt,ojE]at h;subst h;refine⟨.tup vs,λrest=>?_,r⟩
    have:=aBa hb;simp only[unV,<-this,List.take_left,List.drop_left,hb,cdt]
  |_=>cases h
 |nl=>
  cases s with
  |nl=>simp only[aCZ,ojE]at h;subst h;exact⟨.nl,λrest=>rfl,r⟩
  |_=>cases h
 |lc k off path=>
  cases s with
  |lc k' fe mg=>
   simp only[aCZ]at h;cases hb:Nat.beq k k'&&Nat.beq off fe&&aC0 path mg&&bW k l with
   |false=>rw[hb]at h;cases h
   |true=>
    rw[hb]at h;simp only[cdt,ojE]at h;subst h;simp only[bjE,cG,djE]at hb;obtain⟨⟨⟨rfl,rfl⟩,_⟩,hm⟩:=hb;obtain⟨e,id,g1,g2,g3⟩:=r;exact⟨.lc k off path,λrest=>rfl,e,id,aBq g1 hm,g2,g3⟩
  |_=>cases h
 |ep t=>
  cases s with
  |ep v=>
   simp only[aCZ]at h;cases hb:v.t.beq t with
   |false=>rw[hb]at h;cases h
   |true=>
    rw[hb]at h;simp only[cdt,ojE]at h;subst h;refine⟨.ep v,λrest=>?_,r⟩
    simp only[sgA,unV,hb,cdt]
  |_=>cases h
 |rw k=>
  cases s with
  |rw k'=>
   simp only[aCZ]at h;cases hb:Nat.beq k k'&&bW k l with
   |false=>rw[hb]at h;cases h
   |true=>
    rw[hb]at h;simp only[cdt,ojE]at h;subst h;simp only[bjE,cG,djE]at hb;obtain⟨rfl,hm⟩:=hb;obtain⟨e,g1,g2⟩:=r;exact⟨.rw k,λrest=>rfl,e,aBq g1 hm,g2⟩
  |_=>cases h
 |cl f caps=>
  cases s with
  |cl f' cm=>
   simp only[aCZ]at h;cases hb:Nat.beq f f'&&aC0 caps cm&&yY caps l with
   |false=>rw[hb]at h;cases h
   |true=>
    rw[hb]at h;simp only[cdt,ojE]at h;subst h;simp only[bjE,cG,djE]at hb;obtain⟨⟨rfl,h2⟩,hm⟩:=hb;have:=pW h2;subst this;obtain⟨ps,g1,g2⟩:=r;exact⟨.cl f caps,λrest=>rfl,ps,g1,aEx hm g2⟩
  |_=>cases h
 |nf=>
  cases s with
  |nf=>simp only[aCZ,ojE]at h;subst h;exact⟨.nf,λrest=>rfl,r⟩
  |_=>cases h
 |row t=>cases h
 |no=>simp only[aCZ,ojE]at h;subst h;exact⟨.no,λrest=>rfl,trivial⟩
def aK5(hU:fV U){bl:List Nat}(F:frR U c S S'): ∀{l:List (Nat×Sh×Rts)} {d:List (V U)} (rest:List (V U)),fitS U bl S l=some d->
    ∃S0,unS U l (d++rest)=some (S0,rest)/\frR U (onC c bl) S0 (keeps S' (l.map (·.1)))
 |[],d,rest,h=>by
  simp only[fitS,ojE]at h;subst h;exact⟨[],rfl,λt=>⟨trivial,aJ _ _⟩⟩
 |(t,s,rr)::l,d,rest,h=>by
  unfold fitS at h;split at h
  ·rename_i a d' ha hd;cases hb:leR rr (oZ S t).2 with
   |false=>rw[hb]at h;cases h
   |true=>
    rw[hb]at h;simp only[cdt,ojE]at h;subst h;obtain⟨s',h1,h2⟩:=fitV_ok hU ha (F t).1;obtain⟨S0,h3,h4⟩:=aK5 hU F rest hd;refine⟨(t,(s',rr))::S0,?_,?_⟩
    ·rw[apA];simp only[unS,h1,h3]
    ·exact mM h4 ⟨h2,rtR_le hb (F t).2⟩
  ·cases h
def aIo{bl:List Nat}{sh:Sh}{s:SV U.D}{d:List (V U)}{cs:List (PV×Bool)}(h:aCZ U bl sh s=some d)(hn:sh≠ .no)(r:uE U c s cs):
    ∃s',(∀rest,unV U sh (d++rest)=some (s',rest))/\uE U (onC c bl) s' cs:=by
 cases sh with
 |val t=>
  simp only[aCZ]at h;split at h
  ·rename_i v hv;cases h;cases s with
   |val w=>
    simp only[asV]at hv;cases hb:w.t.beq t with
    |false=>rw[hb]at hv;cases hv
    |true=>
     rw[hb]at hv;cases hv;refine⟨.val v,λrest=>?_,r⟩
     simp only[sgA,unV,hb,cdt]
   |nl=>exact r.elim
   |zr _=>exact r.elim
   |_=>cases hv
  ·cases h
 |cl f caps=>
  cases s with
  |cl f' cm=>
   simp only[aCZ]at h;cases hb:Nat.beq f f'&&aC0 caps cm&&yY caps bl with
   |false=>rw[hb]at h;cases h
   |true=>
    rw[hb]at h;simp only[cdt,ojE]at h;subst h;simp only[bjE,cG,djE]at hb;obtain⟨⟨rfl,h2⟩,hm⟩:=hb;have:=pW h2;subst this;obtain⟨pv,b,g0,ps,g1,g2⟩:=r;exact⟨.cl f caps,λrest=>rfl,pv,b,g0,ps,g1,aEx hm g2⟩
  |_=>cases h
 |nf=>
  cases s with
  |nf=>simp only[aCZ,ojE]at h;subst h;exact⟨.nf,λrest=>rfl,r⟩
  |_=>cases h
 |no=>exact(hn rfl).elim
 |row t=>cases h
 |tup ts=>cases s<;>first|exact r.elim|cases h
 |nl=>cases s<;>first|exact r.elim|cases h
 |lc k off path=>cases s<;>first|exact r.elim|cases h
 |ep t=>cases s<;>first|exact r.elim|cases h
 |rw k=>cases s<;>first|exact r.elim|cases h
def aK7(Mm:MR U q c0 c M p){bl:List Nat}: ∀{l:List (Nat×Sh×Rts)} {d:List (V U)} (rest:List (V U)),fitB U bl M.bx l=some d->(∀k,bW k (l.map (·.1))=true->bW k bl=true)->
    ∃M0,unB U l (d++rest)=some (M0,rest)/\(∀k,bR M0 k=none->bW k (l.map (·.1))=false)/\(∀k b,bR M0 k=some b->∃e,onC c bl k=some e/\bcR U (onC c bl) p e b)
 |[],d,rest,h,_=>by
  simp only[fitB,ojE]at h;subst h;exact⟨[],rfl,λ_ _=>rfl,λk b h=>by cases h⟩
 |(k,s,rr)::l,d,rest,h,hl=>by
  have dj: ∀k,bW k (l.map (·.1))=true->bW k bl=true:=λj hj=>hl j (by simp only[mpC,bW,hj,Bool.or_true])
  have hk:bW k bl=true:=hl k (by simp only[mpC,bW,Nat.beq_refl,Bool.true_or])
  have fin: ∀(dv dl:List (V U)) (b:BC U.D),fitB U bl M.bx l=some dl->d=dv++dl->(∀M1,unB U l (dl++rest)=some (M1,rest)->unB U ((k,s,rr)::l) (dv++(dl++rest))=some ((k,b)::M1,rest))->(∃e,onC c bl k=some e/\bcR U (onC c bl) p e b)->
        ∃M0,unB U ((k,s,rr)::l) (d++rest)=some (M0,rest)/\(∀j,bR M0 j=none->bW j (((k,s,rr)::l).map (·.1))=false)/\(∀j b,bR M0 j=some b->∃e,onC c bl j=some e/\bcR U (onC c bl) p e b):=by
   intro dv dl b hd he hu hb;obtain⟨M1,h1,h2,h3⟩:=aK7 Mm rest hd dj;refine⟨(k,b)::M1,by rw[he,apA];exact hu M1 h1,λj hj=>?_,λj b' hj=>?_⟩
   ·rw[dK]at hj;by_cases e1:j=k
    ·rw[if_pos e1]at hj;cases hj
    ·rw[if_neg e1]at hj;simp only[mpC,bW,h2 j hj,Bool.or_false];exact beqF λe=>e1 e.symm
   ·rw[dK]at hj;by_cases e1:j=k
    ·rw[if_pos e1]at hj;simp only[ojE]at hj;subst hj;rw[e1];exact hb
    ·rw[if_neg e1]at hj;exact h3 j b' hj
  unfold fitB at h;split at h
  ·rename_i cont rs d' hf hd;obtain⟨e,he,id,cs,hid,bf,hcs,kr⟩:=Mm.bx k _ hf;split at h
   ·cases h
   ·cases h
   ·rename_i s0 ni hnn;split at h
    ·rename_i a ha;cases hb:leR rr rs with
     |false=>rw[hb]at h;cases h
     |true=>
      rw[hb]at h;simp only[cdt,ojE]at h;obtain⟨s',g1,g2⟩:=aIo ha (λe=>hnn e) hcs
      have py: ∀M1,unB U l (d'++rest)=some (M1,rest)->unB U ((k,s,rr)::l) (a++(d'++rest))=some ((k,.bx s' rr)::M1,rest):=by
       intro M1 hM1;have: ∀d2,unB U ((k,s,rr)::l) d2=(match unV U s d2 with|some (x,d')=>(match unB U l d' with|some (M,pn)=>some ((k,.bx x rr)::M,pn)|none=>none)|none=>none):=by
        intro d2;cases s with
        |row t=>exact(ni t rfl).elim
        |_=>cases d2<;>first|rfl|(simp only[unB])
       rw[this,g1];simp only[hM1]
      exact fin a d' (.bx s' rr) hd h.symm py ⟨e,aBq he hk,id,cs,hid,bf,g2,aFm hb kr⟩
    ·cases h
  ·rename_i et v d' hf hd;split at h
   ·rename_i t;cases hb:et.beq t with
    |false=>rw[hb]at h;cases h
    |true=>
     rw[hb]at h;simp only[cdt,ojE]at h;obtain⟨e,he,hr⟩:=Mm.bx k _ hf;refine fin [⟨.sl et,v⟩] d' (.row et v) hd h.symm (λM1 hM1=>?_) ⟨e,aBq he hk,hr⟩
     simp only[sgA,unB,hb,cdt,hM1]
   ·cases h
  ·cases h
end
end Go.TV
namespace Go.TV
open Go.AI Go.PI
section
variable{P:Program}{U:jP}{T:TP U.D}{c c0:Cx}{W:Type}{r:W}{q p:PSt}{M:TM U.D}{S:TS U.D}{S':PS}{pc:fB}
def aDD(hU:fV U){ct:Cut}{d:List (V U)}(h:fitT U ct S M=some d)(F:frR U c S S')(Mm:MR U q c0 c M p):
    ∃S0 M0 c',unT' U ct d=some (S0,M0)/\frR U c' S0 (keeps S' ct.ts)/\MR U q c0 c' M0 p:=by
 unfold fitT at h;split at h
 ·rename_i a b ha hb;cases h;obtain⟨S0,h1,h2⟩:=aK5 hU F b ha;obtain⟨M0,h3,h4,h5⟩:=aK7 Mm [] hb (λ_ h=>h)
  rw[apN]at h3;refine⟨S0,⟨M0,[]⟩,onC c (ct.bx.map (·.1)),by simp only[unT',h1,h3],h2,?_⟩
  refine⟨λk hk=>?_,h5,λk e id g1 g2=>Mm.lt k e id (aBr g1).1 g2,λk k' e e' id g1 g2 g3 g4=>Mm.inj k k' e e' id (aBr g1).1 (aBr g2).1 g3 g4,Mm.next,λk e g1 g2=>Mm.bor k e (aBr g1).1 g2,λk e id g1 g2 g3=>Mm.loc k e id (aBr g1).1 g2 g3,Mm.old,Mm.dirty,Mm.wr⟩
  unfold onC;rw[h4 k hk];rfl
 ·cases h
def MR.cln(Mm:MR U q c0 c M p):MR U q c0 c ⟨M.bx,[]⟩ (PI.cln p):=
 ⟨Mm.dom,λk b h=>by obtain⟨e,h1,h2⟩:=Mm.bx k b h;exact⟨e,h1,qI h2 λ_ _=>rfl⟩,Mm.lt,Mm.inj,Mm.next,Mm.bor,Mm.loc,Mm.old,Mm.dirty,λid hi=>by cases hi⟩
def MR.dty{p':PSt}(Mm:MR U q c0 c M p'){c1:Cx}{M1:TM U.D}(Mp:MR U q c0 c1 M1 p)(hn:p.next<=p'.next):MR U q c0 c M (PI.dty p p'):=
 ⟨Mm.dom,λk b h=>by obtain⟨e,h1,h2⟩:=Mm.bx k b h;exact⟨e,h1,qI h2 λ_ _=>rfl⟩,Mm.lt,Mm.inj,Mm.next,Mm.bor,Mm.loc,Mm.old,Mm.dirty,λid hi=>by
  have hi:id∈p'.wr.foldr ins p.wr:=hi;rw[cJ]at hi;rcases hi with h|h
  ·exact Mm.wr id h
  ·obtain⟨h1,h2⟩:=Mp.wr id h;exact⟨Nat.lt_of_lt_of_le h1 hn,h2⟩⟩
variable(hU:fV U)(hT:zD P U T)
include hU hT
def ExeOK(P:Program)(U:jP)(T:TP U.D)(q:PSt)(c0:Cx)(run:{W:Type}->TS U.D->TM U.D->TK U.D W->Option W)(prun:PS->PSt->Option (Fl×PS×PSt)):Prop:=
 ∀(W:Type) (K:TK U.D W) (r:W) (S:TS U.D) (M:TM U.D) (S':PS) (p:PSt) (c:Cx),frR U c S S'->MR U q c0 c M p->run S M K=some r->
  ∃fl c' S1 M1 S1' p',K fl S1 M1=some r/\prun S' p=some (fl,S1',p')/\frR U c' S1 S1'/\MR U q c0 c' M1 p'/\p.next<=p'.next
omit hU hT in
def aF5(hU:fV U){ct:Cut}{run:{W:Type}->TS U.D->TM U.D->TK U.D W->Option W}{prun:PS->PSt->Option (Fl×PS×PSt)}(hr:ExeOK P U T q c0 run prun){K:TK U.D W}:
    ∀(n:Nat) (d:List (V U)) (S0:TS U.D) (M0:TM U.D) (S':PS) (p:PSt) (c:Cx),unT' U ct d=some (S0,M0)->frR U c S0 (keeps S' ct.ts)->MR U q c0 c M0 p->aIc U ct (λS M K=>run S M K) K n d=some r->
    ∃fl c' S1 M1 S1' p',K fl S1 M1=some r/\aAn (λS p=>prun (keeps S ct.ts) p) n S' p=some (fl,S1',p')/\frR U c' S1 S1'/\MR U q c0 c' M1 p'/\p.next<=p'.next
 |0,d,S0,M0,S',p,c,hu,F,Mm,h=>by cases h
 |n+1,d,S0,M0,S',p,c,hu,F,Mm,h=>by
  simp only[aIc,pU,hu]at h;obtain⟨fl,c1,S1,M1,S1',p1,h1,h2,h3,h4,h5⟩:=hr W _ r S0 M0 _ p c F Mm h;cases fl with
  |normal=>
   simp only[lpK]at h1;split at h1
   ·rename_i d' hd;obtain⟨S2,M2,c2,g1,g2,g3⟩:=aDD hU hd h3 h4;obtain⟨fl,c',S3,M3,S3',p3,k1,k2,k3,k4,k5⟩:=aF5 hU hr n d' S2 M2 S1' p1 c2 g1 g2 g3 h1;exact⟨fl,c',S3,M3,S3',p3,k1,by simp only[aAn,h2,k2],k3,k4,Nat.le_trans h5 k5⟩
   ·cases h1
  |exit id=>exact⟨_,c1,S1,M1,S1',p1,h1,by simp only[aAn,h2],h3,h4,h5⟩
  |ret=>exact⟨_,c1,S1,M1,S1',p1,h1,by simp only[aAn,h2],h3,h4,h5⟩
omit hU hT in
def okTwT_ok{q:PSt}{c0 c:Cx}{ops:Array Oper}{S:TS U.D}{M:TM U.D}{S':PS}{p:PSt}(F:frR U c S S')(Mm:MR U q c0 c M p)(h:aIa U ops S M=true):aDh ops S' p=true:=by
 unfold aIa at h;unfold aDh;split at h
 ·rename_i e;rw[e]
 ·rename_i s t e;rw[e];simp only;have r1:=(F s).1;have r2:=(F t).1;split at h
  ·rename_i v k o2 p2 e1 e2;rw[e1]at r1;rw[e2]at r2;obtain⟨es,i,off,_,q1,_⟩:=r1;obtain⟨e',id,q2,q3,q4⟩:=r2;rw[q1,q4];simp only;split at h
   ·rename_i bs br hf;obtain⟨e2',q5,bp,cs,q6,q7,_⟩:=Mm.bx k _ hf;rw[q2]at q5;cases q5;rw[q3]at q6;cases q6;rw[q7]
   ·cases h
  ·cases h
 ·cases h
def execT_ok{tc:mV U.D}(hc:CallOK U T tc pc)(L:Nat): ∀(code:TC),ExeOK P U T q c0 (λ{W} S M K=>eV U T (W:=W) tc L code S M K) (dJ P pc L code.pc):=by
 intro code;induction code with
 |skip=>intro W K r S M S' p c F Mm h;exact⟨.normal,c,S,M,S',p,h,rfl,F,Mm,nlR _⟩
 |label l=>intro W K r S M S' p c F Mm h;exact⟨.normal,c,S,M,S',p,h,rfl,F,Mm,nlR _⟩
 |region id ops draw ms sc=>
  intro W K r S M S' p c F Mm h;simp only[eV]at h;cases draw with
  |true=>
   obtain⟨c',S1,M1,S1',p',h1,h2,h3,h4,h5,h6⟩:=lD hU hT hc sc [] [] S ⟨M.bx,[]⟩ S' (PI.cln p) c F Mm.cln (λid hi=>by cases hi) trivial h
   obtain⟨h1,htw⟩:K .normal S1 M1=some r/\aIa U ops S1 M1=true:=by
    cases hb:aIa U ops S1 M1 with
    |true=>rw[hb,cdt]at h1;exact⟨h1,rfl⟩
    |false=>rw[hb]at h1;cases h1
   refine⟨.normal,c',S1,M1,S1',PI.dty p p',h1,?_,h4,h5.dty Mm h6,h6⟩;simp only[TC.pc,dJ,cdt,h2,fitP,okTwT_ok h4 h5 htw,omS]
  |false=>
   obtain⟨c',S1,M1,S1',p',h1,h2,h3,h4,h5,h6⟩:=runT_ok hU hT hc sc S M S' p c F Mm h;refine⟨.normal,c',S1,M1,S1',p',h1,?_,h4,h5,h6⟩;simp only[TC.pc,dJ,cdf,h2,omS]
 |seq a b fj la=>
  intro W K r S M S' p c F Mm h;simp only[eV]at h;obtain⟨fl,c1,S1,M1,S1',p1,h1,h2,h3,h4,h5⟩:=fj W _ r S M S' p c F Mm h;cases fl with
  |normal=>
   obtain⟨fl,c2,S2,M2,S2',p2,g1,g2,g3,g4,g5⟩:=la W _ r S1 M1 S1' p1 c1 h3 h4 h1;exact⟨fl,c2,S2,M2,S2',p2,g1,by simp only[TC.pc,dJ,h2,g2],g3,g4,Nat.le_trans h5 g5⟩
  |exit id=>exact⟨_,c1,S1,M1,S1',p1,h1,by simp only[TC.pc,dJ,h2],h3,h4,h5⟩
  |ret=>exact⟨_,c1,S1,M1,S1',p1,h1,by simp only[TC.pc,dJ,h2],h3,h4,h5⟩
 |cond x a b fj la=>
  intro W K r S M S' p c F Mm h;simp only[eV]at h;have h1:=(bA F x).1;split at h
  ·rename_i w hx;rw[hx]at h1;have h1:pev S' x= .v (.bool w):=of_bool h1;rcases aAH h with⟨rfl,h⟩|⟨rfl,h⟩
   ·obtain⟨fl,c1,S1,M1,S1',p1,g1,g2,g3⟩:=fj W _ r S M S' p c F Mm h;exact⟨fl,c1,S1,M1,S1',p1,g1,by simp only[TC.pc,dJ,h1,g2],g3⟩
   ·obtain⟨fl,c1,S1,M1,S1',p1,g1,g2,g3⟩:=la W _ r S M S' p c F Mm h;exact⟨fl,c1,S1,M1,S1',p1,g1,by simp only[TC.pc,dJ,h1,g2],g3⟩
  ·cases h
 |block id a fj=>
  intro W K r S M S' p c F Mm h;simp only[eV]at h;obtain⟨fl,c1,S1,M1,S1',p1,h1,h2,h3,h4,h5⟩:=fj W _ r S M S' p c F Mm h;cases fl with
  |normal=>exact⟨_,c1,S1,M1,S1',p1,h1,by simp only[TC.pc,dJ,h2],h3,h4,h5⟩
  |ret=>exact⟨_,c1,S1,M1,S1',p1,h1,by simp only[TC.pc,dJ,h2],h3,h4,h5⟩
  |exit n=>
   simp only[bH]at h1;cases hb:Nat.beq n id with
   |true=>
    rw[hb]at h1;exact⟨_,c1,S1,M1,S1',p1,h1,by simp only[TC.pc,dJ,h2,hb,cdt],h3,h4,h5⟩
   |false=>
    rw[hb]at h1;exact⟨_,c1,S1,M1,S1',p1,h1,by simp only[TC.pc,dJ,h2,hb,cdf],h3,h4,h5⟩
 |loop ct a fj=>
  intro W K r S M S' p c F Mm h;simp only[eV]at h;split at h
  ·rename_i d hd;obtain⟨S0,M0,c1,g1,g2,g3⟩:=aDD hU hd F Mm;obtain⟨fl,c',S3,M3,S3',p3,k1,k2,k3⟩:=aF5 hU fj L d S0 M0 S' p c1 g1 g2 g3 h;exact⟨fl,c',S3,M3,S3',p3,k1,k2,k3⟩
  ·cases h
 |exit id=>intro W K r S M S' p c F Mm h;exact⟨.exit id,c,S,M,S',p,h,rfl,F,Mm,nlR _⟩
 |ret=>intro W K r S M S' p c F Mm h;exact⟨.ret,c,S,M,S',p,h,rfl,F,Mm,nlR _⟩
 |scope a fj=>intro W K r S M S' p c F Mm h;exact fj W K r S M S' p c F Mm h
 |cut ct a fj=>
  intro W K r S M S' p c F Mm h;simp only[eV]at h;split at h
  ·rename_i d hd;obtain⟨S0,M0,c1,g1,g2,g3⟩:=aDD hU hd F Mm;simp only[pU,g1]at h;exact fj W K r S0 M0 _ p c1 g2 g3 h
  ·cases h
 |ice t a fj=>
  intro W K r S M S' p c F Mm h;simp only[eV]at h;split at h
  ·rename_i R hR;obtain⟨S1',p1,h1,h2,h3,h4⟩:=aK2 hU F hR Mm;obtain⟨fl,c2,S2,M2,S2',p2,g1,g2,g3,g4,g5⟩:=fj W K r R.1 R.2 S1' p1 c h2 h3 h;exact⟨fl,c2,S2,M2,S2',p2,g1,by simp only[TC.pc,dJ,h1,g2],g3,g4,Nat.le_trans (runT_ok.pfreeze_next h1) g5⟩
  ·cases h
 |other cd=>intro W K r S M S' p c F Mm h;cases h
def aDb(F:frR U c S S')(Mm:MR U q c0 c M p): ∀{rs:List ResultVar} {ts:List Ty} {l:List (V U)},resT U T S M rs ts=some l->
    ∃vs,dM P S' p rs=some vs/\List.map (λx=>wk x.1) vs=l.map (λv=>enV U v.t v.x)/\l.map (λv=>v.t)=ts/\
      (∀t v,rs=[.tmp t]->vs=[v]->v=S'.at t)/\(∀v w,vs=[w]->l=[v]->VR U v.t v.x w.1)/\(∀t fw w nb v l',rs= .tmp t::fw->vs=w::nb->l=v::l'->w=S'.at t/\VR U v.t v.x w.1)
 |[],[],l,h=>by
  simp only[resT,ojE]at h;subst h;exact⟨[],rfl,rfl,rfl,λ_ _ h=>(by cases h),λ_ _ h=>(by cases h),λ_ _ _ _ _ _ h=>(by cases h)⟩
 | .tmp t::rs,ty::ts,l,h=>by
  unfold resT at h;split at h
  ·rename_i v l' hv hl;cases h;obtain⟨h1,h2⟩:=hY hU hv (F t).1;obtain⟨vs,g1,g2,g3,_,_,_⟩:=aDb F Mm hl;refine⟨S'.at t::vs,by simp only[dM,lZ,g1],by rw[mpC,mpC,g2,h2.wk],by rw[mpC,h1,g3],λt' v' e1 e2=>?_,λv' w e1 e2=>?_,λt' fw w nb v' l'' e1 e2 e3=>?_⟩
   ·cases e1;cases e2;rfl
   ·cases e1;cases e2;exact h2
   ·cases e1;cases e2;cases e3;exact⟨rfl,h2⟩
  ·cases h
 | .cell a t::rs,ty::ts,l,h=>by
  unfold resT at h;split at h
  ·rename_i k off np ty' l' hk ff hl;split at h
   ·rename_i cv rr hf;split at h
    ·rename_i w o hw;cases hb:w.t.beq ty&&ty.beq ty'&&Nat.beq o off with
     |false=>rw[hb]at h;cases h
     |true=>
      rw[hb]at h;simp only[cdt,ojE]at h;subst h;simp only[bjE,cG,djE]at hb;obtain⟨⟨hb1,hb2⟩,rfl⟩:=hb;have e1:=Ty.beq_eq hb1;have e2:=Ty.beq_eq hb2;subst e2;have hs:=(F a).1;rw[hk]at hs;obtain⟨e,id,m1,m2,m3⟩:=hs;obtain⟨e',m1',bp,cs,m2',bf,⟨c1,c2,c3⟩,_⟩:=Mm.bx k _ hf;rw[m1]at m1';cases m1';rw[m2]at m2';cases m2';obtain⟨wt,wx⟩:=w;have e1:wt=ty:=e1;subst e1;obtain⟨g1,_⟩:=pT hU hw (⟨c1,c2⟩:SR cv.t cv.x (cs.map (·.1)));obtain⟨v,k1,k2,k3,k4⟩:=sP hU hT ff g1;have dj:iF P p t (S'.at a).1=some v:=by rw[m3];simp only[iF,bf];exact k1
      obtain⟨vs,g1,g2,g3,_,_,_⟩:=aDb F Mm hl;refine⟨(v,false)::vs,by simp only[dM,lZ,dj,omS,g1],by rw[mpC,mpC,g2,k2.wk],by rw[mpC,g3],λt' v' e1 e2=>?_,λv' w e1 e2=>?_,λt' fw w nb v' l'' e1 e2 e3=>?_⟩
      ·cases e1
      ·cases e1;cases e2;exact k2
      ·cases e1
    ·cases h
   ·cases h
  ·cases h
 |[],_::_,l,h=>by cases h
 | .tmp _::_,[],l,h=>by cases h
 | .cell _ _::_,[],l,h=>by cases h
omit hU hT in
def aDf(Mm:MR U q c0 c M p): ∀{l:List (Sh×Rts)} {bo:List Rts} {j:Nat} {d:List (V U)},outB U M l bo j=some d->
    ∃m,fW U l bo d=some m/\(∀i x,m[i]?=some x->∃e,c (j+i)=some e/\bcR U c p e x)
 |[],[],j,d,h=>by
  simp only[outB,ojE]at h;subst h;exact⟨[],rfl,λi x h=>by simp at h⟩
 |(s,rr)::l,r::bo,j,d,h=>by
  have next: ∀{x0:BC U.D} {m:List (BC U.D)} {e:Ce},(∀i x,m[i]?=some x->∃e,c (j+1+i)=some e/\bcR U c p e x)->c j=some e->bcR U c p e x0->∀i x,(x0::m)[i]?=some x->∃e,c (j+i)=some e/\bcR U c p e x:=by
   intro x0 m e g2 he k1 i x hx;cases i with
   |zero=>
    simp only[gcZ,ojE]at hx;subst hx;exact⟨e,he,k1⟩
   |succ i=>
    rw[gcS]at hx;have:=g2 i x hx
    rwa [show j+1+i=j+(i+1) by omega]at this
  unfold outB at h;split at h
  ·rename_i cont rs d' hf hd;obtain⟨e,he,id,cs,hid,bf,hcs,kr⟩:=Mm.bx j _ hf;obtain⟨m,g1,g2⟩:=aDf Mm hd;split at h
   ·rename_i t v;cases hb:v.t.beq t&&leR r rs with
    |false=>rw[hb]at h;cases h
    |true=>
     rw[hb]at h;simp only[cdt,ojE]at h;subst h;simp only[bjE]at hb;exact⟨.bx (.val v) r::m,by simp only[fW,g1],next g2 he ⟨id,cs,hid,bf,hcs,aFm hb.2 kr⟩⟩
   ·rename_i f caps f' cm;cases hb:Nat.beq f f'&&aC0 caps cm with
    |false=>rw[hb]at h;cases h
    |true=>
     rw[hb]at h;simp only[cdt,ojE]at h;subst h;simp only[bjE,cG,djE]at hb;have e2:=pW hb.2;rw[<-hb.1,<-e2]at hcs;exact⟨.bx (.cl f caps) []::m,by simp only[fW,g1],next g2 he ⟨id,cs,hid,bf,hcs,λ_ _ h=>by cases h⟩⟩
   ·cases h
  ·rename_i et x d' hf hd;obtain⟨e,he,bh⟩:=Mm.bx j _ hf;obtain⟨m,g1,g2⟩:=aDf Mm hd;split at h
   ·rename_i t;cases hb:et.beq t with
    |false=>rw[hb]at h;cases h
    |true=>
     rw[hb]at h;simp only[cdt,ojE]at h;subst h;exact⟨.row et x::m,by simp only[fW,g1],next g2 he bh⟩
   ·cases h
  ·cases h
 |[],_::_,j,d,h=>by cases h
 |_::_,[],j,d,h=>by cases h
end
end Go.TV
namespace Go.TV
open Go.AI Go.PI
section
variable{P:Program}{U:jP}{T:TP U.D}{c c0:Cx}{q p:PSt}{M:TM U.D}{S:TS U.D}{S':PS}
def aJe: ∀{l:List (Nat×Sh×Rts)} {d rest:List (V U)} {S0:TS U.D},unS U l d=some (S0,rest)->∀k,bW k (l.map (·.1))=false->oZ S0 k=(.no,[])
 |[],d,rest,S0,h,k,_=>by simp only[unS,ojE,pjE]at h;rw[<-h.1];rfl
 |(t,s,r)::l,d,rest,S0,h,k,hk=>by
  unfold unS at h;split at h
  ·rename_i x d' hx;split at h
   ·rename_i S1 pn hS;simp only[ojE,pjE]at h;obtain⟨rfl,rfl⟩:=h;simp only[mpC,bW,Bool.or_eq_false_iff]at hk;rw[xH (λe=>by rw[e,Nat.beq_refl]at hk;cases hk.1)]
    exact aJe hS k hk.2
   ·cases h
  ·cases h
def aFK: ∀(ps:List (Sh×Bool)) (i k:Nat),bW k ((cutOf.psL ps i).map (·.1))=(decide (i<=k)&&decide (k<i+ps.length))
 |[],i,k=>by simp[cutOf.psL,bW]
 |(s,o)::ps,i,k=>by
  simp only[cutOf.psL,mpC,bW,aFK ps (i+1) k,lcS,cG];rw[Bool.eq_iff_iff];simp only[Bool.or_eq_true,bjE,djE];omega
def aGz: ∀(ps:List (Sh×Rts)) (i k:Nat),bW k ((cutOf.bxL ps i).map (·.1))=(decide (i<=k)&&decide (k<i+ps.length))
 |[],i,k=>by simp[cutOf.bxL,bW]
 |(s,o)::ps,i,k=>by
  simp only[cutOf.bxL,mpC,bW,aGz ps (i+1) k,lcS,cG];rw[Bool.eq_iff_iff];simp only[Bool.or_eq_true,bjE,djE];omega
def unB_val{k:Nat}{s:Sh}{rr:Rts}{l:List (Nat×Sh×Rts)}(ni: ∀t,s≠ .row t){d2:List (V U)}:unB U ((k,s,rr)::l) d2=(match unV U s d2 with|some (x,d')=>(match unB U l d' with|some (M,pn)=>some ((k,.bx x rr)::M,pn)|none=>none)|none=>none):=by
 cases s with
 |row t=>exact(ni t rfl).elim
 |_=>cases d2<;>first|rfl|(simp only[unB])
def aJf: ∀{l:List (Nat×Sh×Rts)} {d rest:List (V U)} {M0:List (Nat×BC U.D)},unB U l d=some (M0,rest)->∀k,bR M0 k=none->bW k (l.map (·.1))=false
 |[],d,rest,M0,h,k,_=>rfl
 |(t,s,r)::l,d,rest,M0,h,k,hk=>by
  have fin: ∀{b:BC U.D} {M1:List (Nat×BC U.D)} {d':List (V U)},M0=(t,b)::M1->unB U l d'=some (M1,rest)->bW k (((t,s,r)::l).map (·.1))=false:=by
   intro b M1 d' e h1;subst e;rw[dK]at hk;by_cases e1:k=t
   ·rw[if_pos e1]at hk;cases hk
   ·rw[if_neg e1]at hk;simp only[mpC,bW,aJf h1 k hk,Bool.or_false];exact beqF λe=>e1 e.symm
  have other:(∀t',s≠ .row t')->bW k (((t,s,r)::l).map (·.1))=false:=by
   intro ni;rw[unB_val ni]at h;split at h
   ·rename_i x d' _;split at h
    ·rename_i M1 pn h1;simp only[ojE,pjE]at h;obtain⟨e1,e2⟩:=h;subst e2;exact fin e1.symm h1
    ·cases h
   ·cases h
  cases s with
  |row t'=>
   cases d with
   |nil=>cases h
   |cons v d=>
    obtain⟨vt,vx⟩:=v;cases vt with
    |sl e=>
     simp only[unB]at h;cases hb:e.beq t' with
     |false=>rw[hb]at h;cases h
     |true=>
      rw[hb]at h;simp only[cdt]at h;split at h
      ·rename_i M1 d' h1;simp only[ojE,pjE]at h;obtain⟨e1,e2⟩:=h;subst e2;exact fin e1.symm h1
      ·cases h
    |_=>cases h
  |_=>exact other λ_ e=>by cases e
def kK{n:Nat}: ∀{l:List (Sh×Rts)} {rs:List Rts} {d:List (V U)} {m:List (BC U.D)},fW U l rs d=some m->okBx n l=true->∀(i f:Nat) (caps:List Nat) (r:Rts),m[i]?=some (.bx (.cl f caps) r)->uK caps n=true
 |[],[],[],m,h,_,i,f,caps,r,hm=>by simp only[fW,ojE]at h;subst h;simp at hm
 |(.val t,rr)::l,r::rs,v::d,m,h,ho,i,f,caps,r',hm=>by
  simp only[fW]at h;split at h
  ·rename_i m' h1;cases h;cases i with
   |zero=>simp at hm
   |succ i=>rw[gcS]at hm;exact kK h1 ho i f caps r' hm
  ·cases h
 |(.cl f0 caps0,rr)::l,r::rs,d,m,h,ho,i,f,caps,r',hm=>by
  simp only[fW]at h;simp only[okBx,bjE]at ho;split at h
  ·rename_i m' h1;cases h;cases i with
   |zero=>
    simp only[gcZ,ojE,BC.bx.injEq,SV.cl.injEq]at hm;rw[<-hm.1.2];exact ho.1
   |succ i=>rw[gcS]at hm;exact kK h1 ho.2 i f caps r' hm
  ·cases h
 |[],_::_,_,_,h,_,_,_,_,_,_=>by simp[fW]at h
 |[],[],_::_,_,h,_,_,_,_,_,_=>by simp[fW]at h
 |(s,rr)::l,[],d,m,h,_,_,_,_,_,_=>by cases s<;>simp[fW]at h
 |(.val t,rr)::l,r::rs,[],m,h,_,_,_,_,_,_=>by simp[fW]at h
 |(.tup _,_)::_,_::_,_,_,h,_,_,_,_,_,_=>by simp[fW]at h
 |(.nl,_)::_,_::_,_,_,h,_,_,_,_,_,_=>by simp[fW]at h
 |(.lc _ _ _,_)::_,_::_,_,_,h,_,_,_,_,_,_=>by simp[fW]at h
 |(.ep _,_)::_,_::_,_,_,h,_,_,_,_,_,_=>by simp[fW]at h
 |(.rw _,_)::_,_::_,_,_,h,_,_,_,_,_,_=>by simp[fW]at h
 |(.nf,_)::_,_::_,_,_,h,_,_,_,_,_,_=>by simp[fW]at h
 |(.row t,rr)::l,r::rs,⟨.sl e,x⟩::d,m,h,ho,i,f,caps,r',hm=>by
  simp only[fW]at h;split at h
  ·rename_i m' h1;cases h;cases i with
   |zero=>simp at hm
   |succ i=>rw[gcS]at hm;exact kK h1 ho i f caps r' hm
  ·cases h
 |(.row t,rr)::l,r::rs,[],m,h,_,_,_,_,_,_=>by simp[fW]at h
 |(.row t,rr)::l,r::rs,⟨.int _,x⟩::d,m,h,_,_,_,_,_,_=>by simp[fW]at h
 |(.row t,rr)::l,r::rs,⟨.bool,x⟩::d,m,h,_,_,_,_,_,_=>by simp[fW]at h
 |(.row t,rr)::l,r::rs,⟨.str,x⟩::d,m,h,_,_,_,_,_,_=>by simp[fW]at h
 |(.row t,rr)::l,r::rs,⟨.rc _,x⟩::d,m,h,_,_,_,_,_,_=>by simp[fW]at h
 |(.no,_)::_,_::_,_,_,h,_,_,_,_,_,_=>by simp[fW]at h
def nZ: ∀{l:List (Sh×Rts)} {rs:List Rts} {d:List (V U)} {m:List (BC U.D)},fW U l rs d=some m->∀(i:Nat),m[i]?=some .gone->False
 |l,rs,d,m,h,i,hm=>by
  unfold fW at h;split at h
  ·simp only[ojE]at h;subst h;simp at hm
  ·split at h
   ·rename_i m' h1;cases h;cases i with
    |zero=>simp at hm
    |succ i=>rw[gcS]at hm;exact nZ h1 i hm
   ·cases h
  ·split at h
   ·rename_i m' h1;cases h;cases i with
    |zero=>simp at hm
    |succ i=>rw[gcS]at hm;exact nZ h1 i hm
   ·cases h
  ·split at h
   ·rename_i m' h1;cases h;cases i with
    |zero=>simp at hm
    |succ i=>rw[gcS]at hm;exact nZ h1 i hm
   ·cases h
  ·cases h
def aCl{n:Nat}: ∀{l:List PV},(∀x∈l,below n x=true)->fT n l=true
 |[],_=>rfl
 |x::l,h=>by
  show(below n x&&fT n l)=true;rw[h x (mhE ..),aCl λy hy=>h y (mtE _ hy)];rfl
def below_wk{n:Nat}{x:PV}(h:gd (wk x)=true):below n x=true:=by
 cases x with
 |agg cs=>simp[wk,gd]at h
 |tup cs=>simp[wk,gd]at h
 |ptr i o=>simp[wk,gd]at h
 |rs i o l=>simp[wk,gd]at h
 |mp i=>simp[wk,gd]at h
 |fn f a b=>simp[wk,gd]at h
 |_=>rfl
def yP{n:Nat}: ∀{caps:List Nat} {ps:List PV},aC1 c caps ps->(∀k e id,k∈caps->c k=some e->e.id=some id->id<n)->fT n ps=true
 |[],[],_,_=>rfl
 |k::ks,x::ps,⟨⟨e,id,h1,h2,h3⟩,h4⟩,hb=>by
  simp only[fT,yP h4 (λk' e id hk=>hb k' e id (mtE _ hk)),bnA]
  rw[h3];simp only[below,iN,djE];exact hb k e id (mhE ..) h1 h2
 |[],_::_,h,_=>h.elim
 |_::_,[],h,_=>h.elim
def uJ{n:Nat}: ∀{l:List Nat},uK l n=true->∀k∈l,k<n
 |x::l,h,k,hk=>by
  simp only[uK,bjE,iN,djE]at h;rcases List.mem_cons.1 hk with rfl|hk
  ·exact h.1
  ·exact uJ h.2 k hk
def aGw{c':Cx}: ∀{caps:List Nat} {ps:List PV},aC1 c caps ps->(∀k e,k∈caps->c k=some e->c' k=some e)->aC1 c' caps ps
 |[],[],_,_=>trivial
 |k::ks,x::ps,⟨⟨e,id,h1,h2,h3⟩,h4⟩,hb=>⟨⟨e,id,hb k e (mhE ..) h1,h2,h3⟩,aGw h4 λk' e hk=>hb k' e (mtE _ hk)⟩
 |[],_::_,h,_=>h.elim
 |_::_,[],h,_=>h.elim
def aKx{O:Orc}{s:Sig}{d:List (V U)}{args:List (PV×Bool)}{cc:Cx}{S0:TS U.D}{M0:TM U.D}(bz:okS O s=true)(hf:Nat.beq s.f O.n=true)(hin:aCS U s d p cc args S0 M0):
    s.bx=[]/\s.bo=[]/\s.rs=[.str]/\s.own=false/\∃a b o1 o2,d=[⟨.int .i64,a⟩,⟨.int .i64,b⟩]/\args=[(.v (.int .i64 a),o1),(.v (.int .i64 b),o2)]:=by
 obtain⟨f,ps,bx,bo,rs,own⟩:=s;unfold okS at bz;rw[hf,cdt]at bz;split at bz
 ·rename_i e1 e2 e3 e4 e5;simp only at e1 e2 e3 e4 e5;subst e1;subst e2;subst e3;subst e4;subst e5;refine⟨rfl,rfl,rfl,rfl,?_⟩;have bw:=hin.start;have hu: ∀(t:Ty) (x:Den U.D t) (l:List (V U)),unV U (.val (.int .i64)) (⟨t,x⟩::l)=bif t.beq (.int .i64)then some (.val ⟨t,x⟩,l)else none:=λ_ _ _=>rfl
  simp only[unT',cutOf,cutOf.psL,cutOf.bxL,unS]at bw
  match d,bw,hin with
  |[],bw,_=>cases bw
  |[⟨t,x⟩],bw,_=>
   rw[hu]at bw;cases h1:t.beq (.int .i64)with
   |false=>rw[h1]at bw;cases bw
   |true=>rw[h1]at bw;cases bw
  |⟨t,x⟩::⟨u,y⟩::r,bw,hin=>
   rw[hu]at bw;cases h1:t.beq (.int .i64)with
   |false=>rw[h1]at bw;cases bw
   |true=>
    rw[h1,cdt]at bw;simp only[hu]at bw;cases h2:u.beq (.int .i64)with
    |false=>rw[h2]at bw;cases bw
    |true=>
     have e1:=Ty.beq_eq h1;have e2:=Ty.beq_eq h2;subst e1;subst e2;rw[h2,cdt]at bw;cases r with
     |cons z r=>cases bw
     |nil=>
      simp only[unB,ojE,pjE]at bw;obtain⟨g1,g2⟩:=bw
      match args,hin.len,hin.args with
      |[(p1,o1),(p2,o2)],_,ha=>
       have a1:=(ha 0 _ rfl).1;have a2:=(ha 1 _ rfl).1;rw[<-g1]at a1 a2;refine⟨x,y,o1,o2,rfl,?_⟩;have b1:p1= .v (.int .i64 x):=fD a1;have b2:p2= .v (.int .i64 y):=fD a2;rw[b1,b2]
 ·cases bz
def aFU{O:Orc}{s:Sig}{d:List (V U)}{args:List (PV×Bool)}{cc:Cx}{S0:TS U.D}{M0:TM U.D}(bz:okS O s=true)(hn:Nat.beq s.f O.n=false)(hf:Nat.beq s.f O.m=true)(hin:aCS U s d p cc args S0 M0):
    s.bx=[]/\s.bo=[]/\s.rs=[.bool]/\s.own=false/\d=[]/\args=[]:=by
 obtain⟨f,ps,bx,bo,rs,own⟩:=s;unfold okS at bz;rw[hn,cdf,hf,cdt]at bz;split at bz
 ·rename_i e1 e2 e3 e4 e5;simp only at e1 e2 e3 e4 e5;subst e1;subst e2;subst e3;subst e4;subst e5;refine⟨rfl,rfl,rfl,rfl,?_,?_⟩
  ·have bw:=hin.start;simp only[unT',cutOf,cutOf.psL,cutOf.bxL,unS]at bw;cases d with
   |nil=>rfl
   |cons x d=>simp only[unB]at bw;cases bw
  ·exact List.length_eq_zero_iff.1 hin.len
 ·cases bz
variable(hU:fV U)(hT:zD P U T)
include hU hT
omit hU hT in
def resV_tup{own:Bool}{a:List (V U)}(h: ∀v,a≠ [v]): ∃rs0,aIW U own a=(.tup a,rs0)/\(rs0=[]∨∃v b,a=[v,⟨.bool,b⟩]/\own=true/\b=true/\rs0=[(0,true)]):=by
 unfold aIW;split
 ·rename_i v;exact(h v rfl).elim
 ·rename_i v b;refine⟨_,rfl,?_⟩;cases own with
  |false=>exact .inl rfl
  |true=>
   cases b with
   |false=>exact .inl rfl
   |true=>exact .inr ⟨v,true,rfl,rfl,rfl,rfl⟩
 ·exact⟨[],rfl,.inl rfl⟩
def aFd{tc:mV U.D}{pc:fB}(ih:CallOK U T tc pc){L:Nat}{s:Sig}{code:TC}{rs:List ResultVar}(hb1:s.bx.length<=100)(hb2:okBx s.bx.length s.bx=true){d out:List (V U)}
    (h:pU U (cutOf s) (λS M=>eV U T tc L code S M (finT U T s rs)) d=some out) {p:PSt} {cc:Cx} {args:List (PV×Bool)} {S0:TS U.D} {M0:TM U.D} (hin:aCS U s d p cc args S0 M0):
    ∃pv own p',aC6 P pc L code.pc rs args p=some (pv,own,p')/\aOf U s out p cc pv own p':=by
 simp only[pU,hin.start]at h;have bw:=hin.start;unfold unT' at bw;split at bw
 ·rename_i Sa da hSa;split at bw
  ·rename_i Ma hMa;simp only[ojE,pjE]at bw;obtain⟨e1,e2⟩:=bw;subst e1;subst e2;have gj: ∀k e,cc k=some e->k<s.bx.length:=λk e hk=>by
    rcases Nat.lt_or_ge k s.bx.length with h|h
    ·exact h
    ·rw[hin.dom k h]at hk;cases hk
   have F0:frR U cc Sa (aAF args 0 .none):=by
    intro k;rw[aGo];by_cases hk:k<args.length
    ·rw[if_pos ⟨Nat.zero_le _,by omega⟩,Nat.sub_zero,geG hk]
     exact hin.args k _ (geG hk)
    ·rw[if_neg (by omega)]
     have:oZ Sa k=(.no,[]):=aJe hSa k (by
      show bW k ((cutOf.psL s.ps 0).map (·.1))=false;rw[aFK];have:=hin.len;simp;omega)
     rw[this];exact⟨trivial,aJ _ _⟩
   have M0':MR U p cc cc ⟨Ma,[]⟩ (st0 p):=by
    refine⟨λk hk=>?_,λk b hk=>?_,hin.lt,hin.inj,nlR _,λk e h1 _=>h1,λk e id h1 h2 h3=>?_,λid _ _=>rfl,λid hi=>(by cases hi),λid hi=>(by cases hi)⟩
    ·have:=aJf hMa k hk;rw[show(cutOf s).bx=cutOf.bxL s.bx 0 from rfl,aGz]at this
     refine hin.dom k ?_;simp at this;omega
    ·obtain⟨e,h1,h2⟩:=hin.bx k b hk;exact⟨e,h1,qI h2 λ_ _=>rfl⟩
    ·have:=gj k e h1;omega
   obtain⟨fl,c1,S1,M1,S1',p1,h1,h2,h3,h4,h5⟩:=execT_ok hU hT ih L code (List (V U)) (finT U T s rs) out Sa ⟨Ma,[]⟩ (aAF args 0 .none) (st0 p) cc F0 M0' h;have kx:(∀id,fl≠ .exit id)/\∃a b,resT U T S1 M1 rs s.rs=some a/\outB U M1 s.bx s.bo 0=some b/\finO U S1 rs s.own s.rs a=true/\out=a++b:=by
    have key: ∀(r:Option (List (V U))),r=(match resT U T S1 M1 rs s.rs,outB U M1 s.bx s.bo 0 with|some a,some b=>bif finO U S1 rs s.own s.rs a then some (a++b)else none|_,_=>none)->r=some out->∃a b,resT U T S1 M1 rs s.rs=some a/\outB U M1 s.bx s.bo 0=some b/\finO U S1 rs s.own s.rs a=true/\out=a++b:=by
     intro r e1 e2;rw[e1]at e2;split at e2
     ·rename_i a b ha bv;cases hw:finO U S1 rs s.own s.rs a with
      |false=>rw[hw]at e2;cases e2
      |true=>rw[hw]at e2;cases e2;exact⟨a,b,ha,bv,hw,rfl⟩
     ·cases e2
    cases fl with
    |exit id=>cases h1
    |normal=>exact⟨λ_ e=>(by cases e),key _ rfl h1⟩
    |ret=>exact⟨λ_ e=>(by cases e),key _ rfl h1⟩
   obtain⟨bu,a,b,ha,bv,hw,rfl⟩:=kx;obtain⟨vs,r1,r2,r3,r4,r5,r6⟩:=aDb hU hT h3 h4 ha;obtain⟨m,o1,o2⟩:=aDf h4 bv;simp only[Nat.zero_add]at o2;have jr:a.length=s.rs.length:=by rw[<-r3,List.length_map]
   have htake:(a++b).take s.rs.length=a:=by rw[<-jr];exact List.take_left
   have fp:(a++b).drop s.rs.length=b:=by rw[<-jr];exact List.drop_left
   have kc:slR U cc (aIW U s.own a) ((bP vs).1,(bP vs).2)/\below p.next (bP vs).1=true:=by
    have hlen:vs.length=a.length:=by have:=congrArg List.length r2;simpa using this
    have htup:(∀v,a≠ [v])->(slR U cc (aIW U s.own a) ((bP vs).1,(bP vs).2)/\below p.next (bP vs).1=true):=by
     intro hn1;obtain⟨rs0,e1,hrs0⟩:=resV_tup (own:=s.own) hn1;have e2: ∃fg,bP vs=(.tup (wks (vs.map (·.1))),fg)/\∀w w' l,vs=w::w'::l->fg=((w.2||iO w.1)&& !isE w.1&&isSlN w.1):=by
      cases vs with
      |nil=>exact⟨false,rfl,λ_ _ _ h=>by cases h⟩
      |cons w vs=>cases vs with
       |cons w' vs=>exact⟨_,rfl,λ_ _ _ h=>by cases h;rfl⟩
       |nil=>
        cases a with
        |nil=>simp at hlen
        |cons x a=>cases a with
         |nil=>exact(hn1 x rfl).elim
         |cons y a=>simp at hlen
     obtain⟨fg,e2,pj⟩:=e2;have e3:wks (vs.map (·.1))=a.map λv=>enV U v.t v.x:=by rw[iC,List.map_map];exact r2
     rw[e1,e2];refine⟨⟨⟨_,rfl,e3⟩,?_⟩,?_⟩
     ·rcases hrs0 with rfl|⟨v,b,rfl,ho,rfl,rfl⟩
      ·exact aJ _ _
      ·
       obtain⟨w,w',rfl⟩: ∃w w',vs=[w,w']:=by
        match vs,hlen with
        |[w,w'],_=>exact⟨w,w',rfl⟩
       have hF:ownF U S1 rs=true:=by
        cases hf:ownF U S1 rs with
        |true=>rfl
        |false=>simp[finO,ho,hf,nay]at hw
       have ju:slB s.rs=true:=by
        simp only[finO,ho,hF,cdt,Bool.or_eq_true,bjE]at hw;rcases hw with⟨h6,_⟩|h6
        ·rw[<-r3]at h6;exact absurd (show aKz [v.t,Ty.bool]=true from h6) (by simp[aKz])
        ·exact h6
       obtain⟨t,fw,kt,bw⟩: ∃t fw,rs= .tmp t::fw/\lS (oZ S1 t).2=true:=by
        unfold ownF at hF;split at hF
        ·exact⟨_,_,rfl,hF⟩
        ·cases hF
       obtain⟨lb,kq⟩:=r6 t fw w [w'] v _ kt rfl rfl;have cr: ∃e,v.t= .sl e:=by
        rw[<-r3]at ju;cases gn:v.t with
        |sl e=>exact⟨e,rfl⟩
        |_=>rw[mpC,gn]at ju;cases ju
       obtain⟨e,cr⟩:=cr;have lz:=iY kq (by rw[cr];rfl)
       have hN:isSlN w.1=true:=by
        obtain⟨vt,vx⟩:=v;have cr:vt= .sl e:=cr;subst cr;obtain⟨_,hl⟩:=rH kq;rcases hl with⟨_,h8⟩|⟨_,h8⟩
        ·rcases h8 with h8|h8|h8<;>rw[h8]<;>rfl
        ·rw[h8];rfl
       have pj:=pj w w' [] rfl;rcases(h3 t).2 0 true (lA bw)with⟨g1,_⟩|⟨_,_,g1,g2⟩
       ·rw[<-lb,lz]at g1;cases g1
       ·rw[<-lb]at g1 g2;have hfg1:fg=true:=by rw[pj,g1,g2 rfl,hN];rfl
        intro o st hi;simp only[List.mem_singleton,pjE]at hi;refine .inr ⟨hi.1,rfl,by rw[hfg1];rfl,λ_=>?_⟩
        rw[e3];show isE (.tup (enV U v.t v.x::_))=false;have hg:gd (enV U v.t v.x)=true:=by
         obtain⟨vt,vx⟩:=v;have cr:vt= .sl e:=cr;subst cr;exact cI _ _
        have:=xI hg;rw[isE_tup];generalize enV U v.t v.x=y at this;cases y with
        |sl z es=>cases es with
         |nil=>cases this
         |cons _ _=>rfl
        |_=>rfl
     show fT p.next _=true
     rw[e3,cL];intro x hx;obtain⟨v,_,rfl⟩:=List.mem_map.1 hx;exact aGr hU _ _ _
    cases a with
    |nil=>exact htup λv e=>by cases e
    |cons v a=>
     cases a with
     |cons y a=>exact htup λv e=>by cases e
     |nil=>
      cases vs with
      |nil=>simp at hlen
      |cons w vs=>
       cases vs with
       |cons y vs=>simp at hlen
       |nil=>
        have hv:=r5 v w rfl rfl;refine⟨⟨VR_wk hU hv,?_⟩,?_⟩
        ·cases ho:s.own with
         |false=>exact aJ _ _
         |true=>
          have hB:slB s.rs=false:=by rw[<-r3];cases gn:v.t<;>simp[slB,gn]
          have hw1:ownT U S1 rs=true/\aKz s.rs=true:=by
           cases hf:ownF U S1 rs with
           |true=>
            simp only[finO,ho,hf,cdt,hB,Bool.or_false,bjE]at hw;exact⟨hw.2,hw.1⟩
           |false=>simp[finO,ho,hf,hB]at hw
          obtain⟨hw1,hw2⟩:=hw1;have kt: ∃t,rs=[.tmp t]/\lS (oZ S1 t).2=true:=by
           unfold ownT at hw1;split at hw1
           ·exact⟨_,rfl,hw1⟩
           ·cases hw1
          obtain⟨t,rfl,hst2⟩:=kt;have lb:=r4 t w rfl rfl;have cr:oY v.t=false:=by
           have hw3:aKz [v.t]=true:=by rw[<-r3]at hw2;exact hw2
           cases gn:v.t with
           |sl t=>rfl
           |_=>rw[gn]at hw3;cases hw3
          have lz:=iY hv cr;rcases(h3 t).2 0 true (lA hst2)with⟨g1,_⟩|⟨_,_,g1,g2⟩
          ·rw[<-lb,lz]at g1;cases g1
          ·rw[<-lb]at g1 g2;intro o st hi;have hi:(o,st)∈ownR true:=hi;simp only[ownR,List.mem_singleton,pjE]at hi;refine .inr ⟨hi.1,?_,?_,λ_=>?_⟩
           ·show isAgg (wk w.1)=false;rw[hv.wk,<-hv.wk];cases hh:w.1 with
            |agg cs=>rw[hh]at lz;cases lz
            |sl z es=>cases es<;>rfl
            |_=>rfl
           ·show(((w.2||iO w.1)&& !isE w.1)||iO (wk w.1))=true;rw[g1,g2 rfl];rfl
           ·exact isE_wk w.1
        ·show below p.next (wk w.1)=true
         rw[hv.wk];exact aGr hU _ _ _
   obtain⟨hslr,hbel⟩:=kc;have hmlen:m.length=s.bx.length:=nX o1;have hold: ∀id,id∈(p1.dirty.filter λid=>Nat.blt id p.next)↔id∈p1.dirty/\id<p.next:=λid=>by
    rw[List.mem_filter];simp only[iN,djE]
   have hidx: ∀k e id,cc k=some e->e.id=some id->∃x,m[k]?=some x/\c1 k=some e/\bcR U c1 p1 e x:=by
    intro k e id hk hid;have bi:=gj k e hk;obtain⟨e',g1,g2⟩:=o2 k m[k] (geG (by omega))
    have:=h4.bor k e' g1 (by omega)
    rw[hk]at this;cases this;exact⟨_,geG (by omega),g1,g2⟩
   have mu: ∀id,id<p.next->p1.get id=p1.mem.get id:=λid hi=>by
    have:Nat.blt id p1.next=true:=by rw[iN,djE];exact Nat.lt_of_lt_of_le hi h5
    simp only[PSt.get,this,cdt]
   have qj:(p1.dirty.filter λid=>Nat.blt id p.next).all (qW p.next p1.mem)=true:=by
    rw[List.all_eq_true];intro id hi;obtain⟨hd,bi⟩:=(hold id).1 hi;obtain⟨k,e,g1,g2⟩:=h4.dirty id hd bi;obtain⟨x,g3,g4,g5⟩:=hidx k e id g1 g2;cases x with
    |gone=>exact(nZ o1 k g3).elim
    |row t l=>
     obtain⟨_,hz,⟨g6,_⟩|⟨bp,g6,g7⟩⟩:=g5
     ·rw[g2]at g6;cases g6
     rw[g2]at g6;cases g6;rw[mu id bi]at g7;simp only[qW,g7,oN];exact aCl λy hy=>by
      obtain⟨y',mi,hx⟩:=List.mem_flatMap.1 hy;obtain⟨a,_,rfl⟩:=List.mem_map.1 mi;exact aAC (List.all_eq_true.1 (rQ hU t a) y hx)
    |bx sv rr=>
    obtain⟨bp,cs,g6,g7,g8,_⟩:=g5;rw[g2]at g6;cases g6;have g5:=g7;have g6:=g8;rw[mu id bi]at g5;simp only[qW,g5,oN,List.all_eq_true];intro y hy;cases sv with
    |val v=>
     obtain⟨k1,k2,k3⟩:=g6;exact below_wk ((⟨k1,k2⟩:SR v.t v.x (cs.map (·.1))).gd hU (List.mem_map.2 ⟨y,hy,rfl⟩))
    |cl f caps=>
     obtain⟨pv,bb,e1,ps,e2,e3⟩:=g6;rw[e1,List.mem_singleton]at hy;rw[hy,e2];show(fT p.next []&&fT p.next ps)=true
     rw[yP e3 λk' e' bp ge h6 h7=>hin.lt k' e' bp (h4.bor k' e' h6 (by have:=uJ (kK o1 hb2 k f caps rr g3) k' ge;omega)) h7]
     rfl
    |nf=>
     obtain⟨bb,e1⟩:=g6;rw[e1,List.mem_singleton]at hy;rw[hy];rfl
    |_=>exact g6.elim
   have jh:PI.settle p (bP vs).1 p1=⟨(p1.dirty.filter λid=>Nat.blt id p.next).foldr (back p1.mem) p.mem,p.next,(p1.dirty.filter λid=>Nat.blt id p.next).foldr ins p.dirty,(p1.wr.filter λid=>Nat.blt id p.next).foldr ins p.wr⟩:=by
    unfold PI.settle;rw[hbel,qj];rfl
   have hfm:=tE (mem:=p.mem) (q:=p1.mem) (old:=p1.dirty.filter λid=>Nat.blt id p.next) (λid hi e=>by
    have:=List.all_eq_true.1 qj id hi;simp only[qW,e]at this;cases this)
   have bf: ∀id,id<p.next->(PI.settle p (bP vs).1 p1).get id=if id∈(p1.dirty.filter λid=>Nat.blt id p.next)then p1.get id else p.get id:=by
    intro id hi;rw[jh];have hbl:Nat.blt id p.next=true:=by rw[iN,djE];exact hi
    show(bif Nat.blt id p.next then _ else none)=_
    rw[hbl,cdt,hfm id,mu id hi];by_cases h6:id∈(p1.dirty.filter λid=>Nat.blt id p.next)
    ·rw[if_pos h6,if_pos h6]
    ·rw[if_neg h6,if_neg h6];simp only[PSt.get,hbl,cdt]
   have qi: ∀id,id<p.next->(PI.settle p (bP vs).1 p1).get id=p1.get id:=by
    intro id hi;rw[bf id hi];by_cases h6:id∈(p1.dirty.filter λid=>Nat.blt id p.next)
    ·rw[if_pos h6]
    ·rw[if_neg h6];exact(h4.old id hi λhd=>h6 ((hold id).2 ⟨hd,hi⟩)).symm
   refine⟨(bP vs).1,(bP vs).2,PI.settle p (bP vs).1 p1,?_,?_⟩
   ·have:aC6 P pc L code.pc rs args p=some ((bP vs).1,(bP vs).2,PI.settle p (bP vs).1 p1):=by
     simp only[aC6,h2];cases fl with
     |exit id=>exact(bu id rfl).elim
     |normal=>simp only[r1]
     |ret=>simp only[r1]
    exact this
   ·refine⟨by rw[htake];exact hslr,⟨m,by rw[fp];exact o1,λj x hj=>?_⟩,by rw[jh],λid hi de=>?_,λid hi de=>?_,λid hi=>?_,λid hi=>?_,λid hi=>?_⟩
    ·obtain⟨e,g1,g2⟩:=o2 j x hj;have qh:j<m.length:=by
      rcases Nat.lt_or_ge j m.length with h|h
      ·exact h
      ·rw[List.getElem?_eq_none h]at hj;cases hj
     have hcj:=h4.bor j e g1 (by omega)
     refine⟨e,hcj,?_⟩;cases x with
     |gone=>trivial
     |row t l=>
      obtain⟨k1,k2,k3⟩:=g2;refine⟨k1,k2,?_⟩;rcases k3 with k3|⟨id,k3,k4⟩
      ·exact .inl k3
      ·exact .inr ⟨id,k3,by rw[qi id (hin.lt j e id hcj k3)];exact k4⟩
     |bx sv rr=>
     obtain⟨id,cs,g2,g3,g4,g5⟩:=g2;refine⟨id,cs,g2,by rw[qi id (hin.lt j e id hcj g2)];exact g3,?_,g5⟩
     cases sv with
     |cl f caps=>
      obtain⟨pv,bb,e1,ps,e2,e3⟩:=g4;exact⟨pv,bb,e1,ps,e2,aGw e3 λk' e' ge h6=>h4.bor k' e' h6 (by have:=uJ (kK o1 hb2 j f caps rr hj) k' ge;omega)⟩
     |_=>exact g4
    ·rw[bf id hi,if_neg];intro h6;obtain⟨hd,bi⟩:=(hold id).1 h6;obtain⟨k,e,g1,g2⟩:=h4.dirty id hd bi;exact de k e g1 g2
    ·rw[jh]at de;have de:id∉(p1.dirty.filter λid=>Nat.blt id p.next).foldr ins p.dirty:=de
     rw[cJ]at de;rw[bf id hi,if_neg λh6=>de (.inl h6)]
    ·rw[jh]at hi;have hi:id∈(p1.dirty.filter λid=>Nat.blt id p.next).foldr ins p.dirty:=hi
     rw[cJ]at hi;rcases hi with h6|h6
     ·obtain⟨hd,bi⟩:=(hold id).1 h6;exact .inr (h4.dirty id hd bi)
     ·exact .inl h6
    ·rw[jh];show id∈(p1.dirty.filter λid=>Nat.blt id p.next).foldr ins p.dirty
     rw[cJ];exact .inr hi
    ·rw[jh]at hi;have hi:id∈(p1.wr.filter λid=>Nat.blt id p.next).foldr ins p.wr:=hi
     rw[cJ]at hi;rcases hi with h6|h6
     ·rw[List.mem_filter,iN,djE]at h6;exact .inr ((h4.wr id h6.1).2 h6.2)
     ·exact .inl h6
  ·cases bw
 ·cases bw
def aGy{G:TTab}{GP:PTab}(hG: ∀i s code rs,T.sig i=some s->G i=some (code,rs)->GP s.f=some (code.pc,rs))(hA: ∀i s,T.sig i=some s->aIs P s.f s.ps.length=true)(L:Nat): ∀n,CallOK U T (aIq U T G L n) (kU P T.orc GP L n):=by
 intro n;induction n with
 |zero=>intro inst s d out hs h;cases h
 |succ n ih=>
  intro inst s d out hs h p cc args S0 M0 hin;simp only[aIq,hs]at h;split at h
  ·rename_i s' code rs fy hg;cases fy;cases hb:okS T.orc s&&Nat.ble s.bx.length 100&&okBx s.bx.length s.bx with
   |false=>rw[hb]at h;cases h
   |true=>
    rw[hb]at h;simp only[bjE,Nat.ble_eq]at hb;obtain⟨⟨hb0,hb1⟩,hb2⟩:=hb;rw[cdt]at h;split at h
    ·rename_i x hx;simp only[ojE]at h;subst h;unfold orT at hx;cases hf:Nat.beq s.f T.orc.n with
     |false=>
      rw[hf,cdf]at hx;cases hm:Nat.beq s.f T.orc.m with
      |false=>rw[hm]at hx;cases hx
      |true=>
       obtain⟨k1,k2,k3,k4,rfl,rfl⟩:=aFU hb0 hf hm hin;rw[hm,cdt]at hx;cases hx;refine⟨.v (.bool true),false,p,?_,?_⟩
       ·simp only[kU,orP,hf,hm,cdt,cdf,ovP]
       ·refine⟨?_,⟨[],?_,λj x hj=>(by cases hj)⟩,rfl,λ_ _ _=>rfl,λ_ _ _=>rfl,λid h=> .inl h,λid h=>h,λid h=> .inl h⟩
        ·rw[k3,k4];exact⟨cU _,aJ _ _⟩
        ·rw[k3,k1,k2];rfl
     |true=>
      obtain⟨k1,k2,k3,k4,a,b,o1,o2,rfl,rfl⟩:=aKx hb0 hf hin;rw[hf,cdt]at hx;simp only at hx;rw[mjE]at hx;obtain⟨x,hx,rfl⟩:=hx;refine⟨.str x,false,p,?_,?_⟩
      ·simp only[kU,orP,hf,cdt,hx,omS,ovP]
      ·refine⟨?_,⟨[],?_,λj x hj=>(by cases hj)⟩,rfl,λ_ _ _=>rfl,λ_ _ _=>rfl,λid h=> .inl h,λid h=>h,λid h=> .inl h⟩
       ·rw[k3,k4];exact⟨aCC _,aJ _ _⟩
       ·rw[k3,k1,k2];rfl
    rename_i ca;have de:orP T.orc s.f args=none/\gdP T.orc s.f args=true:=by
     unfold orP gdP;cases hf:Nat.beq s.f T.orc.n with
     |false=>
      cases hm:Nat.beq s.f T.orc.m with
      |false=>exact⟨rfl,rfl⟩
      |true=>
       obtain⟨k1,k2,k3,k4,rfl,rfl⟩:=aFU hb0 hf hm hin;unfold orT at ca;rw[hf,cdf,hm,cdt]at ca;cases ca
     |true=>
      obtain⟨k1,k2,k3,k4,a,b,o1,o2,rfl,rfl⟩:=aKx hb0 hf hin;unfold orT at ca;rw[hf,cdt]at ca;exact⟨ca,rfl⟩
    have kj:aIs P s.f args.length=true:=by rw[hin.len];exact hA _ _ hs
    have hGP:=hG inst s code rs hs hg;obtain⟨pv,own,p',g1,g2⟩:=aFd hU hT ih hb1 hb2 h hin;exact⟨pv,own,p',by simp only[kU,de.1,de.2,kj,bnT,Bool.or_self,cdf,hGP,g1],g2⟩
  ·cases h
end
end Go.TV
