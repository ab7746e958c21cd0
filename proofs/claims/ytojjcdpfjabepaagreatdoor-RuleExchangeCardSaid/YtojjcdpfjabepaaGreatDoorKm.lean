import Derived.Test.YtojjcdpfjabepaaGreatDoorKl
set_option linter.unusedVariables false
set_option linter.unusedSimpArgs false
set_option linter.constructorNameAsVariable false
namespace Go.TV
open Go.AI Go.PI
section
variable{P:Program}{U:iN}{T:TP U.D}{c c0:Cx}{β:Type}{r:β}{q p:PSt}{M:TM U.D}
def Post(P:Program)(U:iN)(pc:eH)(sq take:Bool)(o:Oper)(S':PS)(p q:PSt)(c0 c:Cx)(M:TM U.D)(K:X U→TS U.D→TM U.D→Option β)(r:β):Prop:=
 ∃c' x S2 M2 v own S2' p',K x S2 M2=some r∧pop P pc sq o take S' p=some (v,own,S2',p')∧leC c c'∧slR U c' x (v,own)∧frR U c' S2 S2'∧MR U q c0 c' M2 p'∧(WR U c M p→WR U c' M2 p')∧p.next≤p'.next
theorem aE8{take:Bool}{p p':PSt}{t:TypeId}{a v:PV}{own:Bool}(h:qF P take p t a=some (v,own,p')):p.next≤p'.next:=by
 have hm:(dO p a).1.next=p.next:=by
  unfold dO;split
  ·split
   ·split<;>rfl
   ·rfl
  ·rfl
 unfold qF at h;split at h
 ·rename_i w _;cases hb:take&&aFU w with
  |true=>rw[hb]at h;simp only[cdt,ojE,pjE]at h;rw[←h.2.2,hm];exact nlR _
  |false=>rw[hb]at h;simp only[cdf,ojE,pjE]at h;rw[←h.2.2];exact nlR _
 ·cases h
theorem aAV{p p':PSt}{t:TypeId}{a x:PV}{own:Bool}(h:jK P p t a x own=some p'):p.next≤p'.next:=by
 unfold jK at h;simp only[Bool.cond_eq_ite]at h
 repeat' split at h
 all_goals first|(cases h;done)|(simp only[ojE]at h;rw[←h];exact nlR _)
theorem lB{p p':PSt}{S':PS}{o:Oper}{v:PV}{own:Bool}(h:cI P p S' o=some (v,own,p')):p.next≤p'.next:=by
 unfold cI at h;simp only[Bool.cond_eq_ite]at h
 repeat' split at h
 all_goals first|(cases h;done)|(simp only[ojE,pjE]at h;rw[←h.2.2];first|exact nlR _|exact Nat.le_succ _)
theorem wM{K:Nat→Option β}{m:Int}: ∀{f j0:Nat},arI K m j0 f=some r→∃j,j0≤j∧j<j0+f∧m=(j:Int)∧K j=some r
 |0,_,h=>by cases h
 |f+1,j0,h=>by
  unfold arI at h;by_cases e:m=(j0:Int)
  ·rw[decide_eq_true e]at h;exact⟨j0,nlR _,by omega,e,h⟩
  ·rw[decide_eq_false e]at h;obtain⟨j,h1,h2,h3,h4⟩:=wM h;exact⟨j,by omega,by omega,h3,h4⟩
theorem xG(te:Ty): ∀j:Nat,cC U (List.replicate j te)=j*szT U te
 |0=>by simp[cC]
 |j+1=>by
  rw[List.replicate_succ,Nat.succ_mul];simp only[cC];rw[xG te j];omega
theorem lenK_ok(hT:uH P U T)(Mm:MR U q c0 c M p){t:TypeId}{x:SV U.D}{v:PV}{K:X U→Option β}(h:lenK U M (T.T.ty t) x K=some r)(ra:svR U c x v):
    ∃y w,K y=some r∧aFT P t v=some w∧slR U c y (w,false):=by
 unfold lenK at h;split at h
 ·rename_i k;split at h
  ·rename_i e e' l ht hf;cases he:e.beq e' with
   |false=>rw[he]at h;cases h
   |true=>
    rw[he]at h;have:=Ty.beq_eq he;subst this;obtain⟨ce,g1,g2⟩:=ra;obtain⟨ce',g1',hn,hz,_⟩:=Mm.bx _ _ hf;rw[g1]at g1';cases g1';obtain⟨eid,hu,_⟩:=hT.un t _ ht;refine⟨_,i64 (l.length:Int),h,?_,dT _ _,aE _ _⟩;rcases g2 with⟨_,hn0,rfl|rfl⟩|⟨id,_,_,rfl⟩
    ·simp only[aFT,hu,lnN];rw[←hn,hn0]
    ·simp only[aFT,hu];rw[←hn,hn0];rfl
    ·simp only[aFT,hu];rw[hn]
  ·cases h
 ·exact lenT_ok hT h ra
variable{pc:eH}{sq take:Bool}{o:Oper}{S:TS U.D}{S':PS}{K:X U→TS U.D→TM U.D→Option β}
theorem qI(Mm:MR U q c0 c M p)(hk:aP o= .pure){x:X U}{S2:TS U.D}{v:PV}{own:Bool}{S2':PS}(h:K x S2 M=some r)(hp:bK P take S' o=some (v,own,S2'))(hx:slR U c x (v,own))(hF:frR U c S2 S2'):Post P U pc sq take o S' p q c0 c M K r:=
 ⟨c,x,S2,M,v,own,S2',p,h,by simp only[pop,hk,xV,hp,omS],leC.refl c,hx,hF,Mm,fun hw=>hw,nlR _⟩
theorem cU(Mm:MR U q c0 c M p)(F:frR U c S S')(hk:aP o= .pure){x:X U}{v:PV}(h:K x S M=some r)(hp:bK P take S' o=some (v,false,S'))(hx:slR U c x (v,false)):Post P U pc sq take o S' p q c0 c M K r:=
 qI Mm hk h hp hx F
theorem aD7(F:frR U c S S'): ∀{l:List Operand} {ks:List Nat},aIf U S l=some ks→aAJ c ks (wks (l.map (pev S')))
 |[],ks,h=>by simp only[aIf,ojE]at h;subst h;trivial
 |x::l,ks,h=>by
  unfold aIf at h;split at h
  ·rename_i k ks' hx hl;simp only[ojE]at h;subst h;have h1:=(aX F x).1;rw[hx]at h1;obtain⟨e,id,g1,g2,g3⟩:=h1;have g3:pev S' x= .ptr id 0:=g3;refine⟨⟨e,id,g1,g2,by rw[g3];rfl⟩,aD7 F hl⟩
  ·cases h
variable(hU:eX U)(hT:uH P U T)
include hU hT
theorem opT_ok{tc:lO U.D}(hc:CallOK U T tc pc)(F:frR U c S S')(Mm:MR U q c0 c M p){inst:Nat}{bk:List Nat}(h:opT U T tc sq take inst bk o S M K=some r):Post P U pc sq take o S' p q c0 c M K r:=by
 obtain⟨dst,op,ty,pos,aft,gd'⟩:=o;have mv: ∀(x:Operand),(bif take then K (evT U S x) (qT U S x) M else K (pC U (evT U S x)) S M)=some r→(op= .move x∨op= .assign x)→Post P U pc sq take ⟨dst,op,ty,pos,aft,gd'⟩ S' p q c0 c M K r:=by
  intro x h ho;cases take with
  |true=>
   refine qI Mm ?_ h (v:=pev S' x) (own:=hJ S' x) (S2':=oT S' x) ?_ (aX F x) (kH F x)
   ·rcases ho with rfl|rfl<;>rfl
   ·rcases ho with rfl|rfl<;>rfl
  |false=>
   refine cU Mm F ?_ h (v:=pev S' x) ?_ (mJ (aX F x))
   ·rcases ho with rfl|rfl<;>rfl
   ·rcases ho with rfl|rfl<;>rfl
 cases op with
 |move x=>exact mv x h (.inl rfl)
 |assign x=>exact mv x h (.inr rfl)
 |pick w a b=>
  simp only[opT]at h;split at h
  ·rename_i wb hw;have h1:=(aX F w).1;rw[hw]at h1;have h1:=of_bool h1;have h1:pev S' w= .v (.bool wb):=h1;obtain⟨x,h2,h3⟩:=pickT_ok h (aX F a) (aX F b);refine cU Mm F rfl h2 ?_ h3;simp only[bK,h1];cases wb<;>rfl
  ·cases h
 |build t parts=>
  simp only[opT]at h;split at h
  ·rename_i n ht;split at h
   ·rename_i l hl;obtain⟨x,hx,h⟩:=iB h;obtain⟨w,h1,h2⟩:=build_ok hU hT F ht hl hx;exact cU Mm F rfl h (by simp only[bK,h1,omS]) h2
   ·cases h
  ·cases h
 |nilCheck x=>
  simp only[opT]at h;have h1:=(aX F x).1;split at h
  ·rename_i k off path hx;rw[hx]at h1;have h2:=h1;obtain⟨e,id,g1,g2,g3⟩:=h1;have g3:pev S' x= .ptr id off:=g3;exact cU Mm F rfl h (v:= .ptr id off) (by simp only[bK,g3]) ⟨⟨e,id,g1,g2,rfl⟩,aE _ _⟩
  ·rename_i v hx;rw[hx]at h1;obtain⟨es,i,off,e,g1,g2,g3⟩:=h1;have g1:pev S' x= .pin es i off:=g1;exact cU Mm F rfl h (v:= .pin es i off) (by simp only[bK,g1]) ⟨⟨es,i,off,e,rfl,g2,g3⟩,aE _ _⟩
  ·rename_i k i off path hx;rw[hx]at h1;obtain⟨e,id,g1,g2,g3,g4,g5⟩:=h1;have g5:pev S' x= .ptr id (i.toNat*e.z+off):=g5;exact cU Mm F rfl h (v:= .ptr id (i.toNat*e.z+off)) (by simp only[bK,g5]) ⟨⟨e,id,g1,g2,g3,g4,rfl⟩,aE _ _⟩
  ·cases h
 |binOp op t x y t'=>
  simp only[opT]at h;obtain⟨v,w,h1,h2,h3⟩:=binT_ok hU hT (x:=x) (y:=y) h (zrV_ok hU (aX F x).1) (zrV_ok hU (aX F y).1);have h2:pA P op t x y (pev S' x) (pev S' y)=some w:=h2;exact cU Mm F rfl h1 (by simp only[bK,h2,omS]) ⟨h3,aE _ _⟩
 |unOp op t x=>
  simp only[opT]at h;obtain⟨v,w,h1,h2,h3⟩:=unT_ok (P:=P) h (aX F x).1;have h2:pun P op (pev S' x)=some w:=h2;exact cU Mm F rfl h1 (by simp only[bK,h2,omS]) ⟨h3,aE _ _⟩
 |convert s d x=>
  simp only[opT]at h;obtain⟨v,w,h1,h2,h3⟩:=convT_ok hT h (aX F x).1;rcases h3 with h3|⟨hs,h3,h4⟩
  ·have h3:sE P s d (pev S' x)=some w:=h3;exact cU Mm F rfl h1 (by simp only[bK,h3,omS]) ⟨h2,aE _ _⟩
  ·have h3:sE P s d (pev S' x)=none:=h3;have h4:tG P s d (pev S' x)=some w:=h4;refine⟨c,_,S,M,w,false,S',p,h1,?_,leC.refl c,⟨h2,aE _ _⟩,F,Mm,fun hw=>hw,nlR _⟩
   rw[hs];simp only[pop,aP,xV,bK,h3,Option.map_none,cdt,h4,omS]
 |makeFunc fn first captured=>
  simp only[opT]at h;split at h
  ·rename_i f ks h1 h2;refine cU Mm F rfl h (v:= .fn f (wks (first.toList.map (pev S'))) (wks (captured.toList.map (pev S')))) rfl ⟨⟨_,?_,aD7 F h2⟩,aE _ _⟩
   rw[h1];rfl
  ·cases h
 |fieldAddr s x f=>
  simp only[opT]at h;have h1:=(aX F x).1;split at h
  ·rename_i n k off path ht hx;rw[hx]at h1;obtain⟨e,id,g1,g2,g3⟩:=h1;have g3:pev S' x= .ptr id off:=g3;cases hf:Nat.blt f (U.fs n).length with
   |false=>rw[hf]at h;cases h
   |true=>
    rw[hf]at h;rw[fP,djE]at hf;have:=(iH hU hT ht hf).1 id off;exact cU Mm F rfl h (by simp only[bK,g3,this,omS]) ⟨⟨e,id,g1,g2,rfl⟩,aE _ _⟩
  ·rename_i n v ht hx;rw[hx]at h1;cases hb:v.t.beq (.rc n)with
   |false=>rw[hb]at h;cases h
   |true=>
    rw[hb]at h;simp only[cdt]at h;split at h
    ·rename_i w hw;obtain⟨q1,h2,h3⟩:=zE hU hT ht hb hw h1;have h2:dF P s (pev S' x) f=some q1:=h2;exact cU Mm F rfl h (by simp only[bK,h2,omS]) ⟨h3,aE _ _⟩
    ·cases h
  ·rename_i n k i off path ht hx;rw[hx]at h1;obtain⟨e,id,g1,g2,g3,g4,g5⟩:=h1;have g5:pev S' x= .ptr id (i.toNat*e.z+off):=g5;cases hf:Nat.blt f (U.fs n).length with
   |false=>rw[hf]at h;cases h
   |true=>
    rw[hf]at h;rw[fP,djE]at hf;have:=(iH hU hT ht hf).1 id (i.toNat*e.z+off);exact cU Mm F rfl h (v:= .ptr id (i.toNat*e.z+off+lC U n f)) (by simp only[bK,g5,this,omS]) ⟨⟨e,id,g1,g2,g3,g4,by simp only[Nat.add_assoc]⟩,aE _ _⟩
  ·cases h
 |field t x f=>
  simp only[opT]at h;have h1:=aX F x;split at h
  ·rename_i n v rs ht hx;rw[hx]at h1;cases hb:v.t.beq (.rc n)with
   |false=>rw[hb]at h;cases h
   |true=>
    rw[hb]at h;simp only[cdt]at h;split at h
    ·rename_i w hw;obtain⟨q1,h2,h3⟩:=field_ok hU hT ht hb hw h1;exact cU Mm F rfl h (by simp only[bK,h2,omS]) h3
    ·cases h
  ·cases h
 |indexAddr t x i=>
  simp only[opT]at h;have h1:=(aX F x).1;have h2:=(aX F i).1;split at h
  ·rename_i e e' l k n ht hx hi;rw[hx]at h1;rw[hi]at h2;have h2:pev S' i= .v (.int k n):=eJ h2;cases he:e.beq e' with
   |false=>rw[he]at h;cases h
   |true=>
    rw[he]at h;obtain⟨y,hy,h⟩:=iB h;obtain⟨q1,g1,g2⟩:=yU hU hT (k:=k) ht he hy h1;have g1:cH P t (pev S' x) (.v (.int k n))=some q1:=g1;exact cU Mm F rfl h (by simp only[bK,h2,g1,omS]) ⟨g2,aE _ _⟩
  ·rename_i e kk k n ht hx hi;rw[hx]at h1;rw[hi]at h2;have h2:pev S' i= .v (.int k n):=eJ h2;split at h
   ·rename_i e' l hf;cases he:e.beq e' with
    |false=>rw[he]at h;cases h
    |true=>
     rw[he]at h;have:=Ty.beq_eq he;subst this;obtain⟨hin,h⟩:=bW h;obtain⟨ce,g1,g2⟩:=h1;obtain⟨ce',g1',hn,hz,_⟩:=Mm.bx _ _ hf;rw[g1]at g1';cases g1';obtain⟨eid,hu,hte,_⟩:=hT.un t _ ht;simp only[aZ,bjE,djE]at hin;rcases g2 with⟨_,hn0,_⟩|⟨id,g3,g4,g5⟩
     ·have b1:(0:Int)≤n:=hin.1;have b2:(n:Int)<(l.length:Int):=hin.2;omega
     ·have g5:pev S' x= .rs id 0 ce.n:=g5;have hin':aZ n ce.n=true:=by rw[hn];simp only[aZ,bjE,djE];exact hin
      refine cU Mm F rfl h (v:= .ptr id (0+Int.toNat n*szT U e)) ?_ ⟨⟨ce,id,g1,g3,hin.1,by rw[hn];exact hin.2,by rw[hz,Nat.zero_add,Nat.add_zero]⟩,aE _ _⟩
      simp only[bK,h2,g5,cH,hu,hT.sz _ _ hte,hin',cdt,omS]
   ·cases h
  ·rename_i n kk off pp k m ht hx hi;rw[hx]at h1;rw[hi]at h2;have h2:pev S' i= .v (.int k m):=eJ h2;cases ha:T.T.arr t with
   |false=>rw[ha]at h;cases h
   |true=>
    rw[ha]at h;obtain⟨j,_,hj,hm,h⟩:=wM h;obtain⟨len,e,te,hu,hz,hf⟩:=hT.arr t n ht ha;obtain⟨ce,id,g1,g2,g3⟩:=h1;have g3:pev S' x= .ptr id off:=g3;rw[hf,List.length_replicate,Nat.zero_add]at hj;have hin:aZ m len=true:=by rw[hm];simp only[aZ,bjE,djE];omega
    have ho:lC U n j=j*szT U te:=by rw[lC,hf,List.take_replicate,Nat.min_eq_left (by omega)];exact xG _ _
    refine cU Mm F rfl h (v:= .ptr id (off+Int.toNat m*szT U te)) ?_ ⟨⟨ce,id,g1,g2,by rw[ho,hm];rfl⟩,aE _ _⟩
    simp only[bK,h2,g3,cH,hu,hz,hin,cdt,omS]
  ·rename_i n v k m ht hx hi;rw[hx]at h1;rw[hi]at h2;have h2:pev S' i= .v (.int k m):=eJ h2;cases hb:(T.T.arr t&&v.t.beq (.rc n))with
   |false=>rw[hb]at h;cases h
   |true=>
    rw[hb]at h;rw[bjE]at hb;rw[cdt]at h;obtain⟨j,_,hj,hm,h5⟩:=wM h;clear h;subst hm;split at h5
    ·rename_i w hw;obtain⟨q1,g2,g3⟩:=yV (k:=k) hU hT ht hb.1 hb.2 hw h1;have g2:cH P t (pev S' x) (.v (.int k (j:Int)))=some q1:=g2;exact cU Mm F rfl h5 (by simp only[bK,h2,g2,omS]) ⟨g3,aE _ _⟩
    ·cases h5
  ·cases h
 |index t x i=>
  simp only[opT]at h;have h1:=(aX F x).1;have h2:=(aX F i).1;split at h
  ·rename_i s k n ht hx hi;rw[hx]at h1;rw[hi]at h2;have h2:pev S' i= .v (.int k n):=eJ h2;obtain⟨b,hb,h⟩:=iB h;have g1:=index_ok hT (k:=k) ht hb h1;have g1:tF P t (pev S' x) (.v (.int k n))=some (.v (.int .u8 (b.toNat:Int))):=g1;exact cU Mm F rfl h (by simp only[bK,h2,g1,omS]) ⟨dT _ _,aE _ _⟩
  ·cases h
 |extract x i=>
  simp only[opT]at h;have h1:=(aX F x).1;split at h
  ·rename_i l hx;rw[hx]at h1;obtain⟨ps,g1,g2⟩:=h1;have g1:pev S' x= .tup ps:=g1;split at h
   ·rename_i v hv;have g3:ps[i]?=some (enV U v.t v.x):=by rw[g2,List.getElem?_map,hv];rfl
    cases htk:(take&&Nat.beq i 0)with
    |false=>
     rw[htk,cdf]at h;refine cU Mm F rfl h (by simp only[bK,g1,htk,cdf,g3,omS]) ⟨⟨en_wk hU _ _,wV (pN hU _ _)⟩,aE _ _⟩
    |true=>
     rw[htk,cdt]at h;have hi:=htk;simp only[bjE,cJ,djE]at hi;obtain⟨_,rfl⟩:=hi;refine qI Mm rfl h (v:=enV U v.t v.x) (own:=hJ S' x) (S2':=oT S' x) (by simp only[bK,g1,htk,cdt,g3,omS]) ⟨⟨en_wk hU _ _,wV (pN hU _ _)⟩,?_⟩ (kH F x)
     cases hsl:yQ v.t with
     |false=>exact aE _ _
     |true=>
      intro o s hm;rcases(aX F x).2 o s hm with⟨ha,_⟩|⟨ho,_,hw,hs⟩
      ·have ha:isAgg (pev S' x)=true:=ha;rw[g1]at ha;cases ha
      ·have hw:(hJ S' x||gJ (pev S' x))=true:=hw;rw[g1,show gJ (.tup ps)=false from rfl,Bool.or_false]at hw
       have hg:gd (enV U v.t v.x)=true:=by
        obtain⟨vt,vx⟩:=v;cases vt with
        |sl t=>exact bR _ _
        |_=>cases hsl
       refine .inr ⟨ho,?_,by show(hJ S' x||_)=true;rw[hw];rfl,fun _=>tO hg⟩
       refine gU (U:=U) (v:=v) ⟨en_wk hU _ _,wV (pN hU _ _)⟩ ?_;cases hvt:v.t with
       |rc n=>rw[hvt]at hsl;cases hsl
       |_=>rfl
   ·cases h
  ·cases h
 |load t a=>
  simp only[opT]at h;obtain⟨x,M',v,own,p',h1,h2,h3,h4,h5⟩:=ldT_ok hU hT h (aX F a).1 Mm;refine⟨c,x,S,M',v,own,S',p',h1,?_,leC.refl c,h3,F,h4,h5,aE8 h2⟩;have:jL P p S' ⟨dst,.load t a,ty,pos,aft,gd'⟩ take=some (v,own,p'):=by
   simp only[jL];unfold qF at h2;exact h2
  simp only[pop,aP,this,omS]
 |slice t x lo hi mx=>
  simp only[opT]at h;obtain⟨y,w,own,h1,h2,h3⟩:=slT_ok hT F (p:=p) h (aX F x).1;have h2:fT P p t (pev S' x) (lo.map (pev S')) (hi.map (pev S')) (mx.map (pev S'))=some (w,own):=h2;exact⟨c,y,S,M,w,own,S',p,h1,by simp only[pop,aP,jL,h2,omS],leC.refl c,h3,F,Mm,fun hw=>hw,nlR _⟩
 |alloc t=>
  simp only[opT]at h;obtain⟨c',x,M',v,p',h1,h2,h3,h4,h5,h6⟩:=alT_ok hU hT (S':=S') (o:=⟨dst,.alloc t,ty,pos,aft,gd'⟩) rfl h Mm;exact⟨c',x,S,M',v,false,S',p',h1,by simp only[pop,aP,h2,omS],h3,h4,aHw h3 F,h5,h6,lB h2⟩
 |box t x=>
  simp only[opT]at h;obtain⟨c',x,M',v,p',h1,h2,h3,h4,h5,h6⟩:=bxT_ok hU F (P:=P) (o:=⟨dst,.box t x,ty,pos,aft,gd'⟩) rfl h Mm;exact⟨c',x,S,M',v,false,S',p',h1,by simp only[pop,aP,h2,omS],h3,h4,aHw h3 F,h5,h6,lB h2⟩
 |buildSlice t len parts=>
  simp only[opT]at h;split at h
  ·rename_i e ht;cases hb:Nat.ble (len*szT U e) 1000000 with
   |false=>rw[hb]at h;cases h
   |true=>
    rw[hb]at h;simp only[cdt]at h;split at h
    ·rename_i l hl;obtain⟨w,h1,h2⟩:=wK hU hT F (p:=p) (o:=⟨dst,.buildSlice t len parts,ty,pos,aft,gd'⟩) rfl ht hb hl;exact⟨c,_,S,M,w,true,S',p,h,by simp only[pop,aP,h1,omS],leC.refl c,h2,F,Mm,fun hw=>hw,nlR _⟩
    ·cases h
  ·cases h
 |makeSlice t l k=>
  simp only[opT]at h;obtain⟨c',x,M',v,own,p',h1,h2,h3,h4,h5,h6⟩:=msT_ok hU hT F (o:=⟨dst,.makeSlice t l k,ty,pos,aft,gd'⟩) rfl h Mm;exact⟨c',x,S,M',v,own,S',p',h1,by simp only[pop,aP,h2,omS],h3,h4,aHw h3 F,h5,h6,lB h2⟩
 |store t a x=>
  simp only[opT]at h;obtain⟨M',p',h1,h2,h3,h4⟩:=stT_ok hU hT h (aX F a).1 (aX F x) Mm;have h2:jK P p t (pev S' a) (pev S' x) (hJ S' x)=some p':=h2;exact⟨c,_,_,M',.und,false,oT S' x,p',h1,by simp only[pop,aP,peff,h2,omS],leC.refl c,⟨trivial,aE _ _⟩,kH F x,h3,h4,aAV h2⟩
 |call cl=>
  simp only[opT]at h;split at h
  ·rename_i hcl;split at h
   ·rename_i t x ht hx;obtain⟨y,w,h1,h2,h3⟩:=lenK_ok hT Mm h (aX F x).1;have h2:aFT P t (pev S' x)=some w:=h2;exact cU Mm F (by simp only[aP,hcl]) h1 (by simp only[bK,hcl,ht,hx,h2,omS]) h3
   ·cases h
  ·rename_i hcl;split at h
   ·rename_i x y hx;obtain⟨z,w,h1,h2,h3⟩:=mmT_ok (P:=P) (ts:=cl.argTypes) (ty:=ty) h (aX F x).1 (aX F y).1;have h2:gZ P false cl.argTypes ty [pev S' x,pev S' y]=some w:=h2;exact cU Mm F (by simp only[aP,hcl]) h1 (by simp only[bK,hcl,hx,mpC,List.map_nil,h2,omS]) h3
   ·cases h
  ·rename_i hcl;split at h
   ·rename_i x y hx;obtain⟨z,w,h1,h2,h3⟩:=mmT_ok (P:=P) (ts:=cl.argTypes) (ty:=ty) h (aX F x).1 (aX F y).1;have h2:gZ P true cl.argTypes ty [pev S' x,pev S' y]=some w:=h2;exact cU Mm F (by simp only[aP,hcl]) h1 (by simp only[bK,hcl,hx,mpC,List.map_nil,h2,omS]) h3
   ·cases h
  ·rename_i hcl;split at h
   ·rename_i s x hx;obtain⟨y,v,own,h1,h2,h3⟩:=apT_ok hU hT F h;exact⟨c,y,_,M,v,own,oT S' s,p,h1,by simp only[pop,aP,hcl,peff,hx,h2,omS],leC.refl c,h3,kH F s,Mm,fun hw=>hw,nlR _⟩
   ·cases h
  ·rename_i f hcl;obtain⟨x,S2,M',v,own,p',g,args,h1,h2,h3,h4,h5,h6,h7,h8⟩:=callK_ok hU hc F hcl h Mm;exact⟨c,x,S2,M',v,own,_,p',h1,by simp only[pop,aP,hcl,peff,h2,h3,omS],leC.refl c,h4,h5,h6,h7,by rw[h8];exact nlR _⟩
  ·cases h
 |_=>cases h
end
end Go.TV
namespace Go.TV
open Go.AI Go.PI
section
variable{P:Program}{U:iN}{T:TP U.D}{c c0:Cx}{β:Type}{r:β}{q p:PSt}{M:TM U.D}{S:TS U.D}{S':PS}{pc:eH}
theorem aGb:slR U c (.tup [],[]) (.tup [],false):=⟨⟨[],rfl,rfl⟩,aE _ _⟩
theorem guT_ok{ops:Array Oper}{o:Oper}{run skip:TS U.D→Option β}(h:guT U ops o S run skip=some r)(F:frR U c S S'):
    ∃S1,frR U c S1 S'∧((gC ops S' o=some true∧run S1=some r)∨(gC ops S' o=some false∧skip S1=some r)):=by
 unfold guT at h;split at h
 ·rename_i hg;exact⟨S,F,.inl ⟨by simp only[gC,hg],h⟩⟩
 ·rename_i j want hg;split at h
  ·cases h
  ·rename_i d hd;have hs:=F d;split at h
   ·rename_i b rr hx;rw[hx]at hs;have hb:(S'.at d).1= .v (.bool b):=of_bool hs.1;have hpw:gC ops S' o=some (b==want):=by simp only[gC,hg,hd,omS,hb]
    have hF: ∀b',b=b'→frR U c ((d,(.val ⟨.bool,b'⟩,rr))::S) S':=fun b' e=>aDU F (by rw[←e];exact hs)
    rcases wG h with⟨rfl,h⟩|⟨rfl,h⟩
    ·cases want with
     |true=>exact⟨_,hF true rfl,.inl ⟨hpw,h⟩⟩
     |false=>exact⟨_,hF true rfl,.inr ⟨hpw,h⟩⟩
    ·cases want with
     |true=>exact⟨_,hF false rfl,.inr ⟨hpw,h⟩⟩
     |false=>exact⟨_,hF false rfl,.inl ⟨hpw,h⟩⟩
   ·rename_i rr hx;rw[hx]at hs;obtain⟨ps,e1,e2⟩:=hs.1;have hb:(S'.at d).1= .tup []:=by rw[e1,e2];rfl
    exact⟨S,F,.inr ⟨by simp only[gC,hg,hd,omS,hb],h⟩⟩
   ·cases h
variable(hU:eX U)(hT:uH P U T)
include hU hT
theorem aIp{oA oI oS:Oper}{K:TS U.D→Option β}(h:appT U T oA oI oS S K=some r)(F:frR U c S S'):
    ∃S1 S1',K S1=some r∧aFc P S' oA oI oS=some S1'∧frR U c S1 S1':=by
 unfold appT at h;split at h
 ·rename_i cl a t1 a' n b t2 b' x e1 e2 e3 e4 e5 e6;split at h
  ·rename_i s zz e7 e8;cases hb:Nat.beq a a'&&Nat.beq b b'&& !Nat.beq a b&& !isT a n&& !isT a x&& !isT b x&&oA.guard.isNone&&oI.guard.isNone&&oS.guard.isNone with
   |false=>rw[hb]at h;cases h
   |true=>
    rw[hb]at h;simp only[cdt]at h;obtain⟨y,w,v,h1,h2,h3,h4⟩:=ap1T_ok hU hT F h;refine⟨_,((oT S' s).put (some a) v true).put (some b) (pinL v) false,h1,by simp only[aFc,e1,e2,e3,e4,e5,e6,e7,e8,hb,cdt,h2,omS],?_⟩
    exact lI (lI (kH F s) h3) ⟨h4,aE _ _⟩
  ·cases h
 ·cases h
theorem runT_ok{tc:lO U.D}(hc:CallOK U T tc pc){ops:Array Oper}{K:TS U.D→TM U.D→Option β}: ∀(sc:List TStep) (S:TS U.D) (M:TM U.D) (S':PS) (p:PSt) (c:Cx),frR U c S S'→MR U q c0 c M p→runT U T tc ops sc S M K=some r→
    ∃c' S1 M1 S1' p',K S1 M1=some r∧aAE P pc ops (sc.map TStep.un) S' p=some (S1',p')∧leC c c'∧frR U c' S1 S1'∧MR U q c0 c' M1 p'∧p.next≤p'.next
 |[],S,M,S',p,c,F,Mm,h=>⟨c,S,M,S',p,h,rfl,leC.refl c,F,Mm,nlR _⟩
 | .app a i s::rest,S,M,S',p,c,F,Mm,h=>by
  unfold runT at h;split at h
  ·rename_i oA oI oS e1 e2 e3;obtain⟨S1,S1',h1,h2,h3⟩:=aIp hU hT h F;obtain⟨c',S2,M2,S2',p',g1,g2,g3⟩:=runT_ok hc rest S1 M S1' p c h3 Mm h1;refine⟨c',S2,M2,S2',p',g1,?_,g3⟩;simp only[mpC,TStep.un,aAE,e1,e2,e3,h2,g2]
  ·cases h
 | .freeze t::rest,S,M,S',p,c,F,Mm,h=>by
  unfold runT at h;split at h
  ·rename_i R hR;obtain⟨S1',p1,h1,h2,h3,h4⟩:=aHv hU F hR Mm;obtain⟨c',S2,M2,S2',p',g1,g2,g3,g4,g5,g6⟩:=runT_ok hc rest R.1 R.2 S1' p1 c h2 h3 h;refine⟨c',S2,M2,S2',p',g1,?_,g3,g4,g5,Nat.le_trans (pfreeze_next h1) g6⟩;simp only[mpC,TStep.un,aAE,h1,g2]
  ·cases h
 | .op i take inst bk::rest,S,M,S',p,c,F,Mm,h=>by
  unfold runT at h;split at h
  ·cases h
  ·rename_i o ho;obtain⟨S0,F0,h|h⟩:=guT_ok h F
   ·obtain⟨hw,h⟩:=h;obtain⟨c1,x,S1,M1,v,own,S1',p1,h1,h2,h3,h4,h5,h6,_,h7⟩:=opT_ok hU hT hc F0 Mm h;obtain⟨c',S2,M2,S2',p',g1,g2,g3,g4,g5,g6⟩:=runT_ok hc rest _ M1 _ p1 c1 (qZ h5 h4) h6 h1;refine⟨c',S2,M2,S2',p',g1,?_,leC.trans h3 g3,g4,g5,Nat.le_trans h7 g6⟩;simp only[mpC,TStep.un,aAE,ho,hw,h2,g2]
   ·obtain⟨hw,h⟩:=h;obtain⟨c',S2,M2,S2',p',g1,g2,g3⟩:=runT_ok hc rest _ M _ p c (qZ F0 aGb) Mm h;refine⟨c',S2,M2,S2',p',g1,?_,g3⟩;simp only[mpC,TStep.un,aAE,ho,hw,g2]
where
 pfreeze_next {p p1:PSt} {S' S1':PS} {t:Nat} (h:fA p S' t=some (S1',p1)):p.next≤p1.next:=by
  unfold fA at h;split at h
  ·rename_i R hR;cases h;unfold frz at hR;simp only[Bool.cond_eq_ite]at hR
   repeat' split at hR
   all_goals first|(cases hR;done)|(simp only[ojE]at hR;rw[←hR];exact nlR _)
  ·cases h
def pdR(c:Cx):List TPd→List fR→Prop
 |[],[]=>True
 |x::l,y::l'=>(x.i=y.i∧x.stale=y.stale∧x.mr=fU y.o∧(x.mr=false→∃e id,c x.k=some e∧e.id=some id∧cid y.o y.a y.v=some id))∧pdR c l l'
 |_,_=>False
omit hU hT in
theorem aGU{c c':Cx}(h:leC c c'): ∀{l:List TPd} {l':List fR},pdR c l l'→pdR c' l l'
 |[],[],_=>trivial
 |x::l,y::l',⟨⟨h1,h2,h3,h4⟩,h5⟩=>⟨⟨h1,h2,h3,fun e=>by obtain⟨a,id,g1,g2⟩:=h4 e;exact⟨a,id,h _ _ g1,g2⟩⟩,aGU h h5⟩
 |[],_::_,hh=>hh.elim
 |_::_,[],hh=>hh.elim
omit hU hT in
theorem vI(hw:WR U c M p): ∀{l:List TPd} {l':List fR},pdR c l l'→okPd M.wr l=true→l'.all (kS P p)=true
 |[],[],_,_=>rfl
 |x::l,y::l',⟨⟨h1,h2,h3,h4⟩,h5⟩,h=>by
  simp only[okPd,bjE,Bool.or_eq_true,Bool.not_eq_true']at h;rw[alC,vI hw h5 h.2,bnA];unfold kS;rw[←h2];rcases h.1 with h6|⟨h6,h7⟩
  ·rw[h6];rfl
  ·obtain⟨e,id,g1,g2,g3⟩:=h4 h6;have:clean p (cid y.o y.a y.v)=true:=by
    rw[g3];simp only[clean,Bool.not_eq_true',←Bool.not_eq_true];intro hm;have:=hw id (by simpa using hm) x.k e g1 g2
    rw[h7]at this;cases this
   rw[this,Bool.true_or,Bool.or_true]
 |[],_::_,hh,_=>hh.elim
 |_::_,[],hh,_=>hh.elim
omit hU hT in
theorem uM{ms:List Nat}{i:Nat}{ap:Bool}: ∀{l:List TPd} {l':List fR},pdR c l l'→pdR c (aE0 ms i ap l) ((l'.filter fun r=> !bit (ms.getD i 0) r.i).map fun r=>bif ap&& !fU r.o then r else{r with stale:=true})
 |[],[],_=>trivial
 |x::l,y::l',⟨⟨h1,h2,h3,h4⟩,h5⟩=>by
  have ih:=uM (ms:=ms) (i:=i) (ap:=ap) h5;simp only[aE0,List.filter_cons,h1];cases hb:bit (ms.getD i 0) y.i with
  |true=>simpa using ih
  |false=>
   simp only[Bool.not_false,if_true,cdf,mpC];refine⟨?_,ih⟩;rw[←h3];cases ap&& !x.mr with
   |true=>simp only[cdt];exact⟨h1,h2,h3,h4⟩
   |false=>simp only[cdf];exact⟨trivial,trivial,h3,h4⟩
 |[],_::_,hh=>hh.elim
 |_::_,[],hh=>hh.elim
omit hU hT in
theorem aDt{ms:List Nat}{i:Nat}: ∀{l:List TPd} {l':List fR},pdR c l l'→pdR c (aG7 ms i l) (l'.filter fun r=> !bit (ms.getD i 0) r.i)
 |[],[],_=>trivial
 |x::l,y::l',⟨⟨h1,h2,h3,h4⟩,h5⟩=>by
  have ih:=aDt (ms:=ms) (i:=i) h5;simp only[aG7,List.filter_cons,h1];cases hb:bit (ms.getD i 0) y.i with
  |true=>simpa using ih
  |false=>exact⟨⟨h1,h2,h3,h4⟩,ih⟩
 |[],_::_,hh=>hh.elim
 |_::_,[],hh=>hh.elim
omit hU hT in
theorem aHb{ms:List Nat}{i:Nat}: ∀{l:List TPd} {l':List fR},pdR c l l'→noMk ms i l=true→(l'.filter fun r=> !bit (ms.getD i 0) r.i).all (fun r=> !fU r.o)=true
 |[],[],_,_=>rfl
 |x::l,y::l',⟨⟨h1,h2,h3,h4⟩,h5⟩,h=>by
  simp only[noMk,bjE,Bool.or_eq_true,Bool.not_eq_true']at h;have ih:=aHb (ms:=ms) (i:=i) h5 h.2;rw[List.filter_cons];cases hb:bit (ms.getD i 0) y.i with
  |true=>simpa using ih
  |false=>
   rw[h1,hb]at h;rcases h.1 with h6|h6
   ·cases h6
   ·simp only[Bool.not_false,if_true,alC,ih,bnA];rw[←h3,h6];rfl
 |[],_::_,hh,_=>hh.elim
 |_::_,[],hh,_=>hh.elim
omit hU hT in
theorem pdT_ok{o:Oper}{x:X U}{i:Nat}{pend pend':List TPd}{pl:List fR}{v:PV}{own:Bool}{c':Cx}(h:pdT U o S x i pend=some pend')(F:frR U c S S')(hl:leC c c')(hx:slR U c' x (v,own))(hp:pdR c' pend pl):
    pdR c' pend' (bif fI o S' then⟨i,o,jU o S',v,false⟩::pl else pl):=by
 obtain⟨dst,op,ty,pos,aft,gd'⟩:=o;have other:(∀t a,op≠ .load t a)→fI ⟨dst,op,ty,pos,aft,gd'⟩ S'=false→pdT U ⟨dst,op,ty,pos,aft,gd'⟩ S x i pend=some pend→pdR c' pend' (bif fI ⟨dst,op,ty,pos,aft,gd'⟩ S' then⟨i,⟨dst,op,ty,pos,aft,gd'⟩,jU ⟨dst,op,ty,pos,aft,gd'⟩ S',v,false⟩::pl else pl):=by
  intro _ h1 h2;rw[h2]at h;cases h;rw[h1];exact hp
 have box: ∀(k:Nat),(∃off pth,x.1= .lc k off pth)→fI ⟨dst,op,ty,pos,aft,gd'⟩ S'=true→fU ⟨dst,op,ty,pos,aft,gd'⟩=false→(∀a w,cid ⟨dst,op,ty,pos,aft,gd'⟩ a w=vid w)→pdR c' (⟨i,k,false,false⟩::pend) (bif fI ⟨dst,op,ty,pos,aft,gd'⟩ S' then⟨i,⟨dst,op,ty,pos,aft,gd'⟩,jU ⟨dst,op,ty,pos,aft,gd'⟩ S',v,false⟩::pl else pl):=by
  intro k ⟨off,pth,hk⟩ h1 h2 h3;rw[h1];have h4:=hx.1;rw[hk]at h4;obtain⟨e,id,g1,g2,g3⟩:=h4;have g3:v= .ptr id off:=g3;exact⟨⟨rfl,rfl,h2.symm,fun _=>⟨e,id,g1,g2,by simp only[h3];rw[g3];rfl⟩⟩,hp⟩
 cases op with
 |load t a=>
  have h1:=(aX F a).1;simp only[pdT]at h;split at h
  ·rename_i k off pth ha;rw[ha]at h1;obtain⟨e,id,g1,g2,g3⟩:=h1;have g3:pev S' a= .ptr id off:=g3;cases h;simp only[fI,g3,cdt];exact⟨⟨rfl,rfl,rfl,fun _=>⟨e,id,hl _ _ g1,g2,by simp only[cid,jU,g3,aid]⟩⟩,hp⟩
  ·rename_i k ii off pth ha;rw[ha]at h1;obtain⟨e,id,g1,g2,_,_,g3⟩:=h1;have g3:pev S' a= .ptr id (ii.toNat*e.z+off):=g3;cases h;simp only[fI,g3,cdt];exact⟨⟨rfl,rfl,rfl,fun _=>⟨e,id,hl _ _ g1,g2,by simp only[cid,jU,g3,aid]⟩⟩,hp⟩
  ·rename_i w ha;rw[ha]at h1;obtain⟨es,ii,off,e,g1,_⟩:=h1;have g1:pev S' a= .pin es ii off:=g1;cases h;simp only[fI,g1,cdf];exact hp
  ·cases h
 |alloc t=>
  simp only[pdT]at h;split at h
  ·rename_i k off pth hk;cases h;exact box k ⟨off,pth,hk⟩ rfl rfl fun _ _=>rfl
  ·cases h
 |box t y=>
  simp only[pdT]at h;split at h
  ·rename_i k off pth hk;cases h;exact box k ⟨off,pth,hk⟩ rfl rfl fun _ _=>rfl
  ·cases h
 |makeSlice t l k=>
  simp only[pdT,ojE]at h;subst h;exact⟨⟨rfl,rfl,rfl,fun e=>by cases e⟩,hp⟩
 |_=>exact other (fun _ _ e=>by cases e) rfl rfl
theorem kB{tc:lO U.D}(hc:CallOK U T tc pc){ops:Array Oper}{ms:List Nat}{K:TS U.D→TM U.D→Option β}: ∀(sc:List TStep) (pend:List TPd) (pl:List fR) (S:TS U.D) (M:TM U.D) (S':PS) (p:PSt) (c:Cx),frR U c S S'→MR U q c0 c M p→WR U c M p→pdR c pend pl→
    oZ U T tc ops ms sc pend S M K=some r→
    ∃c' S1 M1 S1' p',K S1 M1=some r∧gH P pc ops ms (sc.map TStep.un) pl S' p=some (S1',p')∧leC c c'∧frR U c' S1 S1'∧MR U q c0 c' M1 p'∧p.next≤p'.next
 |[],pend,pl,S,M,S',p,c,F,Mm,W,Pd,h=>by
  unfold oZ at h;cases hb:okPd M.wr pend with
  |false=>rw[hb]at h;cases h
  |true=>
   rw[hb]at h;exact⟨c,S,M,S',p,h,by simp only[List.map_nil,gH,vI W Pd hb,cdt],leC.refl c,F,Mm,nlR _⟩
 | .app a i s::rest,pend,pl,S,M,S',p,c,F,Mm,W,Pd,h=>by
  unfold oZ at h;split at h
  ·rename_i oA oI oS e1 e2 e3;obtain⟨S1,S1',h1,h2,h3⟩:=aIp hU hT h F;cases hb:okPd M.wr pend&&noMk ms a pend with
   |false=>rw[hb]at h1;cases h1
   |true=>
    rw[hb]at h1;simp only[bjE]at hb;have hpd:=aDt (ms:=ms) (i:=s) (uM (ms:=ms) (i:=a) (ap:=true) Pd);obtain⟨c',S2,M2,S2',p',g1,g2,g3⟩:=kB hc rest _ _ S1 M S1' p c h3 Mm W hpd h1;refine⟨c',S2,M2,S2',p',g1,?_,g3⟩;simp only[mpC,TStep.un,gH,e1,e2,e3,h2,vI W Pd hb.1,aHb Pd hb.2,Bool.and_self,cdt];simpa using g2
  ·cases h
 | .freeze t::rest,pend,pl,S,M,S',p,c,F,Mm,W,Pd,h=>by
  unfold oZ at h;split at h
  ·rename_i R hR;obtain⟨S1',p1,h1,h2,h3,h4⟩:=aHv hU F hR Mm;obtain⟨c',S2,M2,S2',p',g1,g2,g3,g4,g5,g6⟩:=kB hc rest pend pl R.1 R.2 S1' p1 c h2 h3 (h4 W) Pd h;refine⟨c',S2,M2,S2',p',g1,?_,g3,g4,g5,Nat.le_trans (runT_ok.pfreeze_next h1) g6⟩;simp only[mpC,TStep.un,gH,h1,g2]
  ·cases h
 | .op i take inst bk::rest,pend,pl,S,M,S',p,c,F,Mm,W,Pd,h=>by
  unfold oZ at h;split at h
  ·cases h
  ·rename_i o ho;obtain⟨S0,F0,h|h⟩:=guT_ok h F
   ·obtain⟨hw,h⟩:=h;obtain⟨c1,x,S1,M1,v,own,S1',p1,h1,h2,h3,h4,h5,h6,hW,h7⟩:=opT_ok hU hT hc F0 Mm h;cases he:gK o with
    |true=>
     rw[he]at h1;simp only[cdt]at h1;cases hb:okPd M.wr pend with
     |false=>rw[hb]at h1;cases h1
     |true=>
      rw[hb]at h1;have hpd:=uM (ms:=ms) (i:=i) (ap:=iD o) (aGU h3 Pd);obtain⟨c',S2,M2,S2',p',g1,g2,g3,g4,g5,g6⟩:=kB hc rest _ _ _ M1 _ p1 c1 (qZ h5 h4) h6 (hW W) hpd h1;refine⟨c',S2,M2,S2',p',g1,?_,leC.trans h3 g3,g4,g5,Nat.le_trans h7 g6⟩;simp only[mpC,TStep.un,gH,ho,hw,h2,he,vI W Pd hb,cdt];exact g2
    |false=>
     rw[he]at h1;simp only[cdf]at h1;split at h1
     ·rename_i pend' hpe;have hpd:=pdT_ok hpe F0 h3 h4 (aGU h3 Pd);obtain⟨c',S2,M2,S2',p',g1,g2,g3,g4,g5,g6⟩:=kB hc rest _ _ _ M1 _ p1 c1 (qZ h5 h4) h6 (hW W) hpd h1;refine⟨c',S2,M2,S2',p',g1,?_,leC.trans h3 g3,g4,g5,Nat.le_trans h7 g6⟩;simp only[mpC,TStep.un,gH,ho,hw,h2,he,cdf];exact g2
     ·cases h1
   ·obtain⟨hw,h⟩:=h;obtain⟨c',S2,M2,S2',p',g1,g2,g3⟩:=kB hc rest pend pl _ M _ p c (qZ F0 aGb) Mm W Pd h;refine⟨c',S2,M2,S2',p',g1,?_,g3⟩;simp only[mpC,TStep.un,gH,ho,hw,g2]
end
end Go.TV
namespace Go.TV
open Go.AI Go.PI
section
variable{P:Program}{U:iN}{T:TP U.D}{c c0:Cx}{β:Type}{r:β}{q p:PSt}{M:TM U.D}{S:TS U.D}{S':PS}{pc:eH}
def onC(c:Cx)(l:List Nat):Cx:=fun k=>bif bL k l then c k else none
theorem yC{c:Cx}{l:List Nat}{k:Nat}{e:Ce}(h:onC c l k=some e):c k=some e∧bL k l=true:=by
 unfold onC at h;cases hb:bL k l with
 |true=>rw[hb]at h;exact⟨h,rfl⟩
 |false=>rw[hb]at h;cases h
theorem yA{c:Cx}{l:List Nat}{k:Nat}{e:Ce}(h:c k=some e)(hm:bL k l=true):onC c l k=some e:=by
 unfold onC;rw[hm];exact h
theorem aCi{l:List Nat}: ∀{caps:List Nat} {ps:List PV},uE caps l=true→aAJ c caps ps→aAJ (onC c l) caps ps
 |[],[],_,_=>trivial
 |k::ks,x::ps,h,⟨⟨e,id,h1,h2,h3⟩,h4⟩=>by
  simp only[uE,bjE]at h;exact⟨⟨e,id,yA h1 h.1,h2,h3⟩,aCi h.2 h4⟩
 |[],_::_,_,h=>h.elim
 |_::_,[],_,h=>h.elim
theorem xB: ∀{l:List (V U)} {ts:List Ty},aE2 U l ts=true→l.length=ts.length
 |[],[],_=>rfl
 |v::l,t::ts,h=>by
  simp only[aE2,bjE]at h;simp only[lcS,xB h.2]
 |[],_::_,h=>by cases h
 |_::_,[],h=>by cases h
theorem fitV_ok(hU:eX U){l:List Nat}{sh:Sh}{s:SV U.D}{d:List (V U)}{pv:PV}(h:aAH U l sh s=some d)(r:svR U c s pv):
    ∃s',(∀rest,unV U sh (d++rest)=some (s',rest))∧svR U (onC c l) s' pv:=by
 cases sh with
 |val t=>
  simp only[aAH]at h;split at h
  ·rename_i v hv;cases h;obtain⟨h1,h2⟩:=fX hU hv r;refine⟨.val v,fun rest=>?_,h2⟩
   simp only[sgA,unV,h1,Ty.beq_rfl,cdt]
  ·cases h
 |tup ts=>
  cases s with
  |tup vs=>
   simp only[aAH]at h;cases hb:aE2 U vs ts with
   |false=>rw[hb]at h;cases h
   |true=>
    rw[hb]at h;simp only[cdt,ojE]at h;subst h;refine⟨.tup vs,fun rest=>?_,r⟩
    have:=xB hb;simp only[unV,←this,List.take_left,List.drop_left,hb,cdt]
  |_=>cases h
 |nl=>
  cases s with
  |nl=>simp only[aAH,ojE]at h;subst h;exact⟨.nl,fun rest=>rfl,r⟩
  |_=>cases h
 |lc k off path=>
  cases s with
  |lc k' off' path'=>
   simp only[aAH]at h;cases hb:Nat.beq k k'&&Nat.beq off off'&&aAI path path'&&bL k l with
   |false=>rw[hb]at h;cases h
   |true=>
    rw[hb]at h;simp only[cdt,ojE]at h;subst h;simp only[bjE,cJ,djE]at hb;obtain⟨⟨⟨rfl,rfl⟩,_⟩,hm⟩:=hb;obtain⟨e,id,g1,g2,g3⟩:=r;exact⟨.lc k off path,fun rest=>rfl,e,id,yA g1 hm,g2,g3⟩
  |_=>cases h
 |ep t=>
  cases s with
  |ep v=>
   simp only[aAH]at h;cases hb:v.t.beq t with
   |false=>rw[hb]at h;cases h
   |true=>
    rw[hb]at h;simp only[cdt,ojE]at h;subst h;refine⟨.ep v,fun rest=>?_,r⟩
    simp only[sgA,unV,hb,cdt]
  |_=>cases h
 |rw k=>
  cases s with
  |rw k'=>
   simp only[aAH]at h;cases hb:Nat.beq k k'&&bL k l with
   |false=>rw[hb]at h;cases h
   |true=>
    rw[hb]at h;simp only[cdt,ojE]at h;subst h;simp only[bjE,cJ,djE]at hb;obtain⟨rfl,hm⟩:=hb;obtain⟨e,g1,g2⟩:=r;exact⟨.rw k,fun rest=>rfl,e,yA g1 hm,g2⟩
  |_=>cases h
 |cl f caps=>
  cases s with
  |cl f' caps'=>
   simp only[aAH]at h;cases hb:Nat.beq f f'&&aAI caps caps'&&uE caps l with
   |false=>rw[hb]at h;cases h
   |true=>
    rw[hb]at h;simp only[cdt,ojE]at h;subst h;simp only[bjE,cJ,djE]at hb;obtain⟨⟨rfl,h2⟩,hm⟩:=hb;have:=nQ h2;subst this;obtain⟨ps,g1,g2⟩:=r;exact⟨.cl f caps,fun rest=>rfl,ps,g1,aCi hm g2⟩
  |_=>cases h
 |nf=>
  cases s with
  |nf=>simp only[aAH,ojE]at h;subst h;exact⟨.nf,fun rest=>rfl,r⟩
  |_=>cases h
 |row t=>cases h
 |no=>simp only[aAH,ojE]at h;subst h;exact⟨.no,fun rest=>rfl,trivial⟩
theorem aHz(hU:eX U){bl:List Nat}(F:frR U c S S'): ∀{l:List (Nat×Sh×Rts)} {d:List (V U)} (rest:List (V U)),fitS U bl S l=some d→
    ∃S0,unS U l (d++rest)=some (S0,rest)∧frR U (onC c bl) S0 (keeps S' (l.map (·.1)))
 |[],d,rest,h=>by
  simp only[fitS,ojE]at h;subst h;exact⟨[],rfl,fun t=>⟨trivial,aE _ _⟩⟩
 |(t,s,rr)::l,d,rest,h=>by
  unfold fitS at h;split at h
  ·rename_i a d' ha hd;cases hb:leR rr (mU S t).2 with
   |false=>rw[hb]at h;cases h
   |true=>
    rw[hb]at h;simp only[cdt,ojE]at h;subst h;obtain⟨s',h1,h2⟩:=fitV_ok hU ha (F t).1;obtain⟨S0,h3,h4⟩:=aHz hU F rest hd;refine⟨(t,(s',rr))::S0,?_,?_⟩
    ·rw[apA];simp only[unS,h1,h3]
    ·exact lI h4 ⟨h2,rtR_le hb (F t).2⟩
  ·cases h
theorem aFt{bl:List Nat}{sh:Sh}{s:SV U.D}{d:List (V U)}{cs:List (PV×Bool)}(h:aAH U bl sh s=some d)(hn:sh≠ .no)(r:rQ U c s cs):
    ∃s',(∀rest,unV U sh (d++rest)=some (s',rest))∧rQ U (onC c bl) s' cs:=by
 cases sh with
 |val t=>
  simp only[aAH]at h;split at h
  ·rename_i v hv;cases h;cases s with
   |val w=>
    simp only[asV]at hv;cases hb:w.t.beq t with
    |false=>rw[hb]at hv;cases hv
    |true=>
     rw[hb]at hv;cases hv;refine⟨.val v,fun rest=>?_,r⟩
     simp only[sgA,unV,hb,cdt]
   |nl=>exact r.elim
   |zr _=>exact r.elim
   |_=>cases hv
  ·cases h
 |cl f caps=>
  cases s with
  |cl f' caps'=>
   simp only[aAH]at h;cases hb:Nat.beq f f'&&aAI caps caps'&&uE caps bl with
   |false=>rw[hb]at h;cases h
   |true=>
    rw[hb]at h;simp only[cdt,ojE]at h;subst h;simp only[bjE,cJ,djE]at hb;obtain⟨⟨rfl,h2⟩,hm⟩:=hb;have:=nQ h2;subst this;obtain⟨pv,b,g0,ps,g1,g2⟩:=r;exact⟨.cl f caps,fun rest=>rfl,pv,b,g0,ps,g1,aCi hm g2⟩
  |_=>cases h
 |nf=>
  cases s with
  |nf=>simp only[aAH,ojE]at h;subst h;exact⟨.nf,fun rest=>rfl,r⟩
  |_=>cases h
 |no=>exact(hn rfl).elim
 |row t=>cases h
 |tup ts=>cases s<;>first|exact r.elim|cases h
 |nl=>cases s<;>first|exact r.elim|cases h
 |lc k off path=>cases s<;>first|exact r.elim|cases h
 |ep t=>cases s<;>first|exact r.elim|cases h
 |rw k=>cases s<;>first|exact r.elim|cases h
theorem aHB(Mm:MR U q c0 c M p){bl:List Nat}: ∀{l:List (Nat×Sh×Rts)} {d:List (V U)} (rest:List (V U)),fitB U bl M.bx l=some d→(∀k,bL k (l.map (·.1))=true→bL k bl=true)→
    ∃M0,unB U l (d++rest)=some (M0,rest)∧(∀k,bG M0 k=none→bL k (l.map (·.1))=false)∧(∀k b,bG M0 k=some b→∃e,onC c bl k=some e∧bcR U (onC c bl) p e b)
 |[],d,rest,h,_=>by
  simp only[fitB,ojE]at h;subst h;exact⟨[],rfl,fun _ _=>rfl,fun k b h=>by cases h⟩
 |(k,s,rr)::l,d,rest,h,hl=>by
  have hl': ∀k,bL k (l.map (·.1))=true→bL k bl=true:=fun j hj=>hl j (by simp only[mpC,bL,hj,Bool.or_true])
  have hk:bL k bl=true:=hl k (by simp only[mpC,bL,Nat.beq_refl,Bool.true_or])
  have fin: ∀(dv dl:List (V U)) (b:BC U.D),fitB U bl M.bx l=some dl→d=dv++dl→(∀M1,unB U l (dl++rest)=some (M1,rest)→unB U ((k,s,rr)::l) (dv++(dl++rest))=some ((k,b)::M1,rest))→(∃e,onC c bl k=some e∧bcR U (onC c bl) p e b)→
        ∃M0,unB U ((k,s,rr)::l) (d++rest)=some (M0,rest)∧(∀j,bG M0 j=none→bL j (((k,s,rr)::l).map (·.1))=false)∧(∀j b,bG M0 j=some b→∃e,onC c bl j=some e∧bcR U (onC c bl) p e b):=by
   intro dv dl b hd he hu hb;obtain⟨M1,h1,h2,h3⟩:=aHB Mm rest hd hl';refine⟨(k,b)::M1,by rw[he,apA];exact hu M1 h1,fun j hj=>?_,fun j b' hj=>?_⟩
   ·rw[cN]at hj;by_cases e1:j=k
    ·rw[if_pos e1]at hj;cases hj
    ·rw[if_neg e1]at hj;simp only[mpC,bL,h2 j hj,Bool.or_false];exact beqF fun e=>e1 e.symm
   ·rw[cN]at hj;by_cases e1:j=k
    ·rw[if_pos e1]at hj;simp only[ojE]at hj;subst hj;rw[e1];exact hb
    ·rw[if_neg e1]at hj;exact h3 j b' hj
  unfold fitB at h;split at h
  ·rename_i cont rs d' hf hd;obtain⟨e,he,id,cs,hid,hget,hcs,hrt⟩:=Mm.bx k _ hf;split at h
   ·cases h
   ·cases h
   ·rename_i s0 hns hnn;split at h
    ·rename_i a ha;cases hb:leR rr rs with
     |false=>rw[hb]at h;cases h
     |true=>
      rw[hb]at h;simp only[cdt,ojE]at h;obtain⟨s',g1,g2⟩:=aFt ha (fun e=>hnn e) hcs
      have hun: ∀M1,unB U l (d'++rest)=some (M1,rest)→unB U ((k,s,rr)::l) (a++(d'++rest))=some ((k,.bx s' rr)::M1,rest):=by
       intro M1 hM1;have: ∀d2,unB U ((k,s,rr)::l) d2=(match unV U s d2 with|some (x,d')=>(match unB U l d' with|some (M,d'')=>some ((k,.bx x rr)::M,d'')|none=>none)|none=>none):=by
        intro d2;cases s with
        |row t=>exact(hns t rfl).elim
        |_=>cases d2<;>first|rfl|(simp only[unB])
       rw[this,g1];simp only[hM1]
      exact fin a d' (.bx s' rr) hd h.symm hun ⟨e,yA he hk,id,cs,hid,hget,g2,aCU hb hrt⟩
    ·cases h
  ·rename_i et v d' hf hd;split at h
   ·rename_i t;cases hb:et.beq t with
    |false=>rw[hb]at h;cases h
    |true=>
     rw[hb]at h;simp only[cdt,ojE]at h;obtain⟨e,he,hr⟩:=Mm.bx k _ hf;refine fin [⟨.sl et,v⟩] d' (.row et v) hd h.symm (fun M1 hM1=>?_) ⟨e,yA he hk,hr⟩
     simp only[sgA,unB,hb,cdt,hM1]
   ·cases h
  ·cases h
end
end Go.TV
namespace Go.TV
open Go.AI Go.PI
section
variable{P:Program}{U:iN}{T:TP U.D}{c c0:Cx}{β:Type}{r:β}{q p:PSt}{M:TM U.D}{S:TS U.D}{S':PS}{pc:eH}
theorem aBl(hU:eX U){ct:Cut}{d:List (V U)}(h:fitT U ct S M=some d)(F:frR U c S S')(Mm:MR U q c0 c M p):
    ∃S0 M0 c',unT' U ct d=some (S0,M0)∧frR U c' S0 (keeps S' ct.ts)∧MR U q c0 c' M0 p:=by
 unfold fitT at h;split at h
 ·rename_i a b ha hb;cases h;obtain⟨S0,h1,h2⟩:=aHz hU F b ha;obtain⟨M0,h3,h4,h5⟩:=aHB Mm [] hb (fun _ h=>h)
  rw[apN]at h3;refine⟨S0,⟨M0,[]⟩,onC c (ct.bx.map (·.1)),by simp only[unT',h1,h3],h2,?_⟩
  refine⟨fun k hk=>?_,h5,fun k e id g1 g2=>Mm.lt k e id (yC g1).1 g2,fun k k' e e' id g1 g2 g3 g4=>Mm.inj k k' e e' id (yC g1).1 (yC g2).1 g3 g4,Mm.next,fun k e g1 g2=>Mm.bor k e (yC g1).1 g2,fun k e id g1 g2 g3=>Mm.loc k e id (yC g1).1 g2 g3,Mm.old,Mm.dirty,Mm.wr⟩
  unfold onC;rw[h4 k hk];rfl
 ·cases h
theorem MR.cln(Mm:MR U q c0 c M p):MR U q c0 c ⟨M.bx,[]⟩ (PI.cln p):=
 ⟨Mm.dom,fun k b h=>by obtain⟨e,h1,h2⟩:=Mm.bx k b h;exact⟨e,h1,oH h2 fun _ _=>rfl⟩,Mm.lt,Mm.inj,Mm.next,Mm.bor,Mm.loc,Mm.old,Mm.dirty,fun id hi=>by cases hi⟩
theorem MR.dty{p':PSt}(Mm:MR U q c0 c M p'){c1:Cx}{M1:TM U.D}(Mp:MR U q c0 c1 M1 p)(hn:p.next≤p'.next):MR U q c0 c M (PI.dty p p'):=
 ⟨Mm.dom,fun k b h=>by obtain⟨e,h1,h2⟩:=Mm.bx k b h;exact⟨e,h1,oH h2 fun _ _=>rfl⟩,Mm.lt,Mm.inj,Mm.next,Mm.bor,Mm.loc,Mm.old,Mm.dirty,fun id hi=>by
  have hi:id∈p'.wr.foldr ins p.wr:=hi;rw[bS]at hi;rcases hi with h|h
  ·exact Mm.wr id h
  ·obtain⟨h1,h2⟩:=Mp.wr id h;exact⟨Nat.lt_of_lt_of_le h1 hn,h2⟩⟩
variable(hU:eX U)(hT:uH P U T)
include hU hT
def ExeOK(P:Program)(U:iN)(T:TP U.D)(q:PSt)(c0:Cx)(run:{β:Type}→TS U.D→TM U.D→TK U.D β→Option β)(prun:PS→PSt→Option (Fl×PS×PSt)):Prop:=
 ∀(β:Type) (K:TK U.D β) (r:β) (S:TS U.D) (M:TM U.D) (S':PS) (p:PSt) (c:Cx),frR U c S S'→MR U q c0 c M p→run S M K=some r→
  ∃fl c' S1 M1 S1' p',K fl S1 M1=some r∧prun S' p=some (fl,S1',p')∧frR U c' S1 S1'∧MR U q c0 c' M1 p'∧p.next≤p'.next
omit hU hT in
theorem aDF(hU:eX U){ct:Cut}{run:{β:Type}→TS U.D→TM U.D→TK U.D β→Option β}{prun:PS→PSt→Option (Fl×PS×PSt)}(hr:ExeOK P U T q c0 run prun){K:TK U.D β}:
    ∀(n:Nat) (d:List (V U)) (S0:TS U.D) (M0:TM U.D) (S':PS) (p:PSt) (c:Cx),unT' U ct d=some (S0,M0)→frR U c S0 (keeps S' ct.ts)→MR U q c0 c M0 p→aFh U ct (fun S M K=>run S M K) K n d=some r→
    ∃fl c' S1 M1 S1' p',K fl S1 M1=some r∧vO (fun S p=>prun (keeps S ct.ts) p) n S' p=some (fl,S1',p')∧frR U c' S1 S1'∧MR U q c0 c' M1 p'∧p.next≤p'.next
 |0,d,S0,M0,S',p,c,hu,F,Mm,h=>by cases h
 |n+1,d,S0,M0,S',p,c,hu,F,Mm,h=>by
  simp only[aFh,nN,hu]at h;obtain⟨fl,c1,S1,M1,S1',p1,h1,h2,h3,h4,h5⟩:=hr β _ r S0 M0 _ p c F Mm h;cases fl with
  |normal=>
   simp only[lpK]at h1;split at h1
   ·rename_i d' hd;obtain⟨S2,M2,c2,g1,g2,g3⟩:=aBl hU hd h3 h4;obtain⟨fl,c',S3,M3,S3',p3,k1,k2,k3,k4,k5⟩:=aDF hU hr n d' S2 M2 S1' p1 c2 g1 g2 g3 h1;exact⟨fl,c',S3,M3,S3',p3,k1,by simp only[vO,h2,k2],k3,k4,Nat.le_trans h5 k5⟩
   ·cases h1
  |exit id=>exact⟨_,c1,S1,M1,S1',p1,h1,by simp only[vO,h2],h3,h4,h5⟩
  |ret=>exact⟨_,c1,S1,M1,S1',p1,h1,by simp only[vO,h2],h3,h4,h5⟩
omit hU hT in
theorem okTwT_ok{q:PSt}{c0 c:Cx}{ops:Array Oper}{S:TS U.D}{M:TM U.D}{S':PS}{p:PSt}(F:frR U c S S')(Mm:MR U q c0 c M p)(h:aFe U ops S M=true):aA0 ops S' p=true:=by
 unfold aFe at h;unfold aA0;split at h
 ·rename_i e;rw[e]
 ·rename_i s t e;rw[e];simp only;have r1:=(F s).1;have r2:=(F t).1;split at h
  ·rename_i v k o2 p2 e1 e2;rw[e1]at r1;rw[e2]at r2;obtain⟨es,i,off,_,q1,_⟩:=r1;obtain⟨e',id,q2,q3,q4⟩:=r2;rw[q1,q4];simp only;split at h
   ·rename_i bs br hf;obtain⟨e2',q5,id',cs,q6,q7,_⟩:=Mm.bx k _ hf;rw[q2]at q5;cases q5;rw[q3]at q6;cases q6;rw[q7]
   ·cases h
  ·cases h
 ·cases h
theorem execT_ok{tc:lO U.D}(hc:CallOK U T tc pc)(L:Nat): ∀(code:TC),ExeOK P U T q c0 (fun{β} S M K=>dZ U T (β:=β) tc L code S M K) (cM P pc L code.pc):=by
 intro code;induction code with
 |skip=>intro β K r S M S' p c F Mm h;exact⟨.normal,c,S,M,S',p,h,rfl,F,Mm,nlR _⟩
 |label l=>intro β K r S M S' p c F Mm h;exact⟨.normal,c,S,M,S',p,h,rfl,F,Mm,nlR _⟩
 |region id ops draw ms sc=>
  intro β K r S M S' p c F Mm h;simp only[dZ]at h;cases draw with
  |true=>
   obtain⟨c',S1,M1,S1',p',h1,h2,h3,h4,h5,h6⟩:=kB hU hT hc sc [] [] S ⟨M.bx,[]⟩ S' (PI.cln p) c F Mm.cln (fun id hi=>by cases hi) trivial h
   obtain⟨h1,htw⟩:K .normal S1 M1=some r∧aFe U ops S1 M1=true:=by
    cases hb:aFe U ops S1 M1 with
    |true=>rw[hb,cdt]at h1;exact⟨h1,rfl⟩
    |false=>rw[hb]at h1;cases h1
   refine⟨.normal,c',S1,M1,S1',PI.dty p p',h1,?_,h4,h5.dty Mm h6,h6⟩;simp only[TC.pc,cM,cdt,h2,fitP,okTwT_ok h4 h5 htw,omS]
  |false=>
   obtain⟨c',S1,M1,S1',p',h1,h2,h3,h4,h5,h6⟩:=runT_ok hU hT hc sc S M S' p c F Mm h;refine⟨.normal,c',S1,M1,S1',p',h1,?_,h4,h5,h6⟩;simp only[TC.pc,cM,cdf,h2,omS]
 |seq a b iha ihb=>
  intro β K r S M S' p c F Mm h;simp only[dZ]at h;obtain⟨fl,c1,S1,M1,S1',p1,h1,h2,h3,h4,h5⟩:=iha β _ r S M S' p c F Mm h;cases fl with
  |normal=>
   obtain⟨fl,c2,S2,M2,S2',p2,g1,g2,g3,g4,g5⟩:=ihb β _ r S1 M1 S1' p1 c1 h3 h4 h1;exact⟨fl,c2,S2,M2,S2',p2,g1,by simp only[TC.pc,cM,h2,g2],g3,g4,Nat.le_trans h5 g5⟩
  |exit id=>exact⟨_,c1,S1,M1,S1',p1,h1,by simp only[TC.pc,cM,h2],h3,h4,h5⟩
  |ret=>exact⟨_,c1,S1,M1,S1',p1,h1,by simp only[TC.pc,cM,h2],h3,h4,h5⟩
 |cond x a b iha ihb=>
  intro β K r S M S' p c F Mm h;simp only[dZ]at h;have h1:=(aX F x).1;split at h
  ·rename_i w hx;rw[hx]at h1;have h1:pev S' x= .v (.bool w):=of_bool h1;rcases wG h with⟨rfl,h⟩|⟨rfl,h⟩
   ·obtain⟨fl,c1,S1,M1,S1',p1,g1,g2,g3⟩:=iha β _ r S M S' p c F Mm h;exact⟨fl,c1,S1,M1,S1',p1,g1,by simp only[TC.pc,cM,h1,g2],g3⟩
   ·obtain⟨fl,c1,S1,M1,S1',p1,g1,g2,g3⟩:=ihb β _ r S M S' p c F Mm h;exact⟨fl,c1,S1,M1,S1',p1,g1,by simp only[TC.pc,cM,h1,g2],g3⟩
  ·cases h
 |block id a iha=>
  intro β K r S M S' p c F Mm h;simp only[dZ]at h;obtain⟨fl,c1,S1,M1,S1',p1,h1,h2,h3,h4,h5⟩:=iha β _ r S M S' p c F Mm h;cases fl with
  |normal=>exact⟨_,c1,S1,M1,S1',p1,h1,by simp only[TC.pc,cM,h2],h3,h4,h5⟩
  |ret=>exact⟨_,c1,S1,M1,S1',p1,h1,by simp only[TC.pc,cM,h2],h3,h4,h5⟩
  |exit n=>
   simp only[dD]at h1;cases hb:Nat.beq n id with
   |true=>
    rw[hb]at h1;exact⟨_,c1,S1,M1,S1',p1,h1,by simp only[TC.pc,cM,h2,hb,cdt],h3,h4,h5⟩
   |false=>
    rw[hb]at h1;exact⟨_,c1,S1,M1,S1',p1,h1,by simp only[TC.pc,cM,h2,hb,cdf],h3,h4,h5⟩
 |loop ct a iha=>
  intro β K r S M S' p c F Mm h;simp only[dZ]at h;split at h
  ·rename_i d hd;obtain⟨S0,M0,c1,g1,g2,g3⟩:=aBl hU hd F Mm;obtain⟨fl,c',S3,M3,S3',p3,k1,k2,k3⟩:=aDF hU iha L d S0 M0 S' p c1 g1 g2 g3 h;exact⟨fl,c',S3,M3,S3',p3,k1,k2,k3⟩
  ·cases h
 |exit id=>intro β K r S M S' p c F Mm h;exact⟨.exit id,c,S,M,S',p,h,rfl,F,Mm,nlR _⟩
 |ret=>intro β K r S M S' p c F Mm h;exact⟨.ret,c,S,M,S',p,h,rfl,F,Mm,nlR _⟩
 |scope a iha=>intro β K r S M S' p c F Mm h;exact iha β K r S M S' p c F Mm h
 |cut ct a iha=>
  intro β K r S M S' p c F Mm h;simp only[dZ]at h;split at h
  ·rename_i d hd;obtain⟨S0,M0,c1,g1,g2,g3⟩:=aBl hU hd F Mm;simp only[nN,g1]at h;exact iha β K r S0 M0 _ p c1 g2 g3 h
  ·cases h
 |ice t a iha=>
  intro β K r S M S' p c F Mm h;simp only[dZ]at h;split at h
  ·rename_i R hR;obtain⟨S1',p1,h1,h2,h3,h4⟩:=aHv hU F hR Mm;obtain⟨fl,c2,S2,M2,S2',p2,g1,g2,g3,g4,g5⟩:=iha β K r R.1 R.2 S1' p1 c h2 h3 h;exact⟨fl,c2,S2,M2,S2',p2,g1,by simp only[TC.pc,cM,h1,g2],g3,g4,Nat.le_trans (runT_ok.pfreeze_next h1) g5⟩
  ·cases h
 |other cd=>intro β K r S M S' p c F Mm h;cases h
theorem aAU(F:frR U c S S')(Mm:MR U q c0 c M p): ∀{rs:List ResultVar} {ts:List Ty} {l:List (V U)},resT U T S M rs ts=some l→
    ∃vs,cP P S' p rs=some vs∧List.map (fun x=>wk x.1) vs=l.map (fun v=>enV U v.t v.x)∧l.map (fun v=>v.t)=ts∧
      (∀t v,rs=[.tmp t]→vs=[v]→v=S'.at t)∧(∀v w,vs=[w]→l=[v]→VR U v.t v.x w.1)∧(∀t rs' w vs' v l',rs= .tmp t::rs'→vs=w::vs'→l=v::l'→w=S'.at t∧VR U v.t v.x w.1)
 |[],[],l,h=>by
  simp only[resT,ojE]at h;subst h;exact⟨[],rfl,rfl,rfl,fun _ _ h=>(by cases h),fun _ _ h=>(by cases h),fun _ _ _ _ _ _ h=>(by cases h)⟩
 | .tmp t::rs,ty::ts,l,h=>by
  unfold resT at h;split at h
  ·rename_i v l' hv hl;cases h;obtain⟨h1,h2⟩:=fX hU hv (F t).1;obtain⟨vs,g1,g2,g3,_,_,_⟩:=aAU F Mm hl;refine⟨S'.at t::vs,by simp only[cP,kZ,g1],by rw[mpC,mpC,g2,h2.wk],by rw[mpC,h1,g3],fun t' v' e1 e2=>?_,fun v' w e1 e2=>?_,fun t' rs' w vs' v' l'' e1 e2 e3=>?_⟩
   ·cases e1;cases e2;rfl
   ·cases e1;cases e2;exact h2
   ·cases e1;cases e2;cases e3;exact⟨rfl,h2⟩
  ·cases h
 | .cell a t::rs,ty::ts,l,h=>by
  unfold resT at h;split at h
  ·rename_i k off pth ty' l' hk hty hl;split at h
   ·rename_i cv rr hf;split at h
    ·rename_i w o hw;cases hb:w.t.beq ty&&ty.beq ty'&&Nat.beq o off with
     |false=>rw[hb]at h;cases h
     |true=>
      rw[hb]at h;simp only[cdt,ojE]at h;subst h;simp only[bjE,cJ,djE]at hb;obtain⟨⟨hb1,hb2⟩,rfl⟩:=hb;have e1:=Ty.beq_eq hb1;have e2:=Ty.beq_eq hb2;subst e2;have hs:=(F a).1;rw[hk]at hs;obtain⟨e,id,m1,m2,m3⟩:=hs;obtain⟨e',m1',id',cs,m2',hget,⟨c1,c2,c3⟩,_⟩:=Mm.bx k _ hf;rw[m1]at m1';cases m1';rw[m2]at m2';cases m2';obtain⟨wt,wx⟩:=w;have e1:wt=ty:=e1;subst e1;obtain⟨g1,_⟩:=nM hU hw (⟨c1,c2⟩:SR cv.t cv.x (cs.map (·.1)));obtain⟨v,k1,k2,k3,k4⟩:=qL hU hT hty g1;have hl':gD P p t (S'.at a).1=some v:=by rw[m3];simp only[gD,hget];exact k1
      obtain⟨vs,g1,g2,g3,_,_,_⟩:=aAU F Mm hl;refine⟨(v,false)::vs,by simp only[cP,kZ,hl',omS,g1],by rw[mpC,mpC,g2,k2.wk],by rw[mpC,g3],fun t' v' e1 e2=>?_,fun v' w e1 e2=>?_,fun t' rs' w vs' v' l'' e1 e2 e3=>?_⟩
      ·cases e1
      ·cases e1;cases e2;exact k2
      ·cases e1
    ·cases h
   ·cases h
  ·cases h
 |[],_::_,l,h=>by cases h
 | .tmp _::_,[],l,h=>by cases h
 | .cell _ _::_,[],l,h=>by cases h
omit hU hT in
theorem aAY(Mm:MR U q c0 c M p): ∀{l:List (Sh×Rts)} {bo:List Rts} {j:Nat} {d:List (V U)},outB U M l bo j=some d→
    ∃m,eY U l bo d=some m∧(∀i x,m[i]?=some x→∃e,c (j+i)=some e∧bcR U c p e x)
 |[],[],j,d,h=>by
  simp only[outB,ojE]at h;subst h;exact⟨[],rfl,fun i x h=>by simp at h⟩
 |(s,rr)::l,r::bo,j,d,h=>by
  have next: ∀{x0:BC U.D} {m:List (BC U.D)} {e:Ce},(∀i x,m[i]?=some x→∃e,c (j+1+i)=some e∧bcR U c p e x)→c j=some e→bcR U c p e x0→∀i x,(x0::m)[i]?=some x→∃e,c (j+i)=some e∧bcR U c p e x:=by
   intro x0 m e g2 he k1 i x hx;cases i with
   |zero=>
    simp only[gcZ,ojE]at hx;subst hx;exact⟨e,he,k1⟩
   |succ i=>
    rw[gcS]at hx;have:=g2 i x hx
    rwa [show j+1+i=j+(i+1) by omega]at this
  unfold outB at h;split at h
  ·rename_i cont rs d' hf hd;obtain⟨e,he,id,cs,hid,hget,hcs,hrt⟩:=Mm.bx j _ hf;obtain⟨m,g1,g2⟩:=aAY Mm hd;split at h
   ·rename_i t v;cases hb:v.t.beq t&&leR r rs with
    |false=>rw[hb]at h;cases h
    |true=>
     rw[hb]at h;simp only[cdt,ojE]at h;subst h;simp only[bjE]at hb;exact⟨.bx (.val v) r::m,by simp only[eY,g1],next g2 he ⟨id,cs,hid,hget,hcs,aCU hb.2 hrt⟩⟩
   ·rename_i f caps f' caps';cases hb:Nat.beq f f'&&aAI caps caps' with
    |false=>rw[hb]at h;cases h
    |true=>
     rw[hb]at h;simp only[cdt,ojE]at h;subst h;simp only[bjE,cJ,djE]at hb;have e2:=nQ hb.2;rw[←hb.1,←e2]at hcs;exact⟨.bx (.cl f caps) []::m,by simp only[eY,g1],next g2 he ⟨id,cs,hid,hget,hcs,fun _ _ h=>by cases h⟩⟩
   ·cases h
  ·rename_i et x d' hf hd;obtain⟨e,he,hrow⟩:=Mm.bx j _ hf;obtain⟨m,g1,g2⟩:=aAY Mm hd;split at h
   ·rename_i t;cases hb:et.beq t with
    |false=>rw[hb]at h;cases h
    |true=>
     rw[hb]at h;simp only[cdt,ojE]at h;subst h;exact⟨.row et x::m,by simp only[eY,g1],next g2 he hrow⟩
   ·cases h
  ·cases h
 |[],_::_,j,d,h=>by cases h
 |_::_,[],j,d,h=>by cases h
end
end Go.TV
namespace Go.TV
open Go.AI Go.PI
section
variable{P:Program}{U:iN}{T:TP U.D}{c c0:Cx}{q p:PSt}{M:TM U.D}{S:TS U.D}{S':PS}
theorem aF9: ∀{l:List (Nat×Sh×Rts)} {d rest:List (V U)} {S0:TS U.D},unS U l d=some (S0,rest)→∀k,bL k (l.map (·.1))=false→mU S0 k=(.no,[])
 |[],d,rest,S0,h,k,_=>by simp only[unS,ojE,pjE]at h;rw[←h.1];rfl
 |(t,s,r)::l,d,rest,S0,h,k,hk=>by
  unfold unS at h;split at h
  ·rename_i x d' hx;split at h
   ·rename_i S1 d'' hS;simp only[ojE,pjE]at h;obtain⟨rfl,rfl⟩:=h;simp only[mpC,bL,Bool.or_eq_false_iff]at hk;rw[tN (fun e=>by rw[e,Nat.beq_refl]at hk;cases hk.1)]
    exact aF9 hS k hk.2
   ·cases h
  ·cases h
theorem aDj: ∀(ps:List (Sh×Bool)) (i k:Nat),bL k ((cutOf.psL ps i).map (·.1))=(decide (i≤k)&&decide (k<i+ps.length))
 |[],i,k=>by simp[cutOf.psL,bL]
 |(s,o)::ps,i,k=>by
  simp only[cutOf.psL,mpC,bL,aDj ps (i+1) k,lcS,cJ];rw[Bool.eq_iff_iff];simp only[Bool.or_eq_true,bjE,djE];omega
theorem aEb: ∀(ps:List (Sh×Rts)) (i k:Nat),bL k ((cutOf.bxL ps i).map (·.1))=(decide (i≤k)&&decide (k<i+ps.length))
 |[],i,k=>by simp[cutOf.bxL,bL]
 |(s,o)::ps,i,k=>by
  simp only[cutOf.bxL,mpC,bL,aEb ps (i+1) k,lcS,cJ];rw[Bool.eq_iff_iff];simp only[Bool.or_eq_true,bjE,djE];omega
theorem unB_val{k:Nat}{s:Sh}{rr:Rts}{l:List (Nat×Sh×Rts)}(hns: ∀t,s≠ .row t){d2:List (V U)}:unB U ((k,s,rr)::l) d2=(match unV U s d2 with|some (x,d')=>(match unB U l d' with|some (M,d'')=>some ((k,.bx x rr)::M,d'')|none=>none)|none=>none):=by
 cases s with
 |row t=>exact(hns t rfl).elim
 |_=>cases d2<;>first|rfl|(simp only[unB])
theorem aGa: ∀{l:List (Nat×Sh×Rts)} {d rest:List (V U)} {M0:List (Nat×BC U.D)},unB U l d=some (M0,rest)→∀k,bG M0 k=none→bL k (l.map (·.1))=false
 |[],d,rest,M0,h,k,_=>rfl
 |(t,s,r)::l,d,rest,M0,h,k,hk=>by
  have fin: ∀{b:BC U.D} {M1:List (Nat×BC U.D)} {d':List (V U)},M0=(t,b)::M1→unB U l d'=some (M1,rest)→bL k (((t,s,r)::l).map (·.1))=false:=by
   intro b M1 d' e h1;subst e;rw[cN]at hk;by_cases e1:k=t
   ·rw[if_pos e1]at hk;cases hk
   ·rw[if_neg e1]at hk;simp only[mpC,bL,aGa h1 k hk,Bool.or_false];exact beqF fun e=>e1 e.symm
  have other:(∀t',s≠ .row t')→bL k (((t,s,r)::l).map (·.1))=false:=by
   intro hns;rw[unB_val hns]at h;split at h
   ·rename_i x d' _;split at h
    ·rename_i M1 d'' h1;simp only[ojE,pjE]at h;obtain⟨e1,e2⟩:=h;subst e2;exact fin e1.symm h1
    ·cases h
   ·cases h
  cases s with
  |row t'=>
   cases d with
   |nil=>cases h
   |cons v d=>
    obtain⟨vt,vx⟩:=v;cases vt with
    |sl e=>
     simp only[unB]at h;cases hb:e.beq t' with
     |false=>rw[hb]at h;cases h
     |true=>
      rw[hb]at h;simp only[cdt]at h;split at h
      ·rename_i M1 d' h1;simp only[ojE,pjE]at h;obtain⟨e1,e2⟩:=h;subst e2;exact fin e1.symm h1
      ·cases h
    |_=>cases h
  |_=>exact other fun _ e=>by cases e
theorem jM{n:Nat}: ∀{l:List (Sh×Rts)} {rs:List Rts} {d:List (V U)} {m:List (BC U.D)},eY U l rs d=some m→aG6 n l=true→∀(i f:Nat) (caps:List Nat) (r:Rts),m[i]?=some (.bx (.cl f caps) r)→rW caps n=true
 |[],[],[],m,h,_,i,f,caps,r,hm=>by simp only[eY,ojE]at h;subst h;simp at hm
 |(.val t,rr)::l,r::rs,v::d,m,h,ho,i,f,caps,r',hm=>by
  simp only[eY]at h;split at h
  ·rename_i m' h1;cases h;cases i with
   |zero=>simp at hm
   |succ i=>rw[gcS]at hm;exact jM h1 ho i f caps r' hm
  ·cases h
 |(.cl f0 caps0,rr)::l,r::rs,d,m,h,ho,i,f,caps,r',hm=>by
  simp only[eY]at h;simp only[aG6,bjE]at ho;split at h
  ·rename_i m' h1;cases h;cases i with
   |zero=>
    simp only[gcZ,ojE,BC.bx.injEq,SV.cl.injEq]at hm;rw[←hm.1.2];exact ho.1
   |succ i=>rw[gcS]at hm;exact jM h1 ho.2 i f caps r' hm
  ·cases h
 |[],_::_,_,_,h,_,_,_,_,_,_=>by simp[eY]at h
 |[],[],_::_,_,h,_,_,_,_,_,_=>by simp[eY]at h
 |(s,rr)::l,[],d,m,h,_,_,_,_,_,_=>by cases s<;>simp[eY]at h
 |(.val t,rr)::l,r::rs,[],m,h,_,_,_,_,_,_=>by simp[eY]at h
 |(.tup _,_)::_,_::_,_,_,h,_,_,_,_,_,_=>by simp[eY]at h
 |(.nl,_)::_,_::_,_,_,h,_,_,_,_,_,_=>by simp[eY]at h
 |(.lc _ _ _,_)::_,_::_,_,_,h,_,_,_,_,_,_=>by simp[eY]at h
 |(.ep _,_)::_,_::_,_,_,h,_,_,_,_,_,_=>by simp[eY]at h
 |(.rw _,_)::_,_::_,_,_,h,_,_,_,_,_,_=>by simp[eY]at h
 |(.nf,_)::_,_::_,_,_,h,_,_,_,_,_,_=>by simp[eY]at h
 |(.row t,rr)::l,r::rs,⟨.sl e,x⟩::d,m,h,ho,i,f,caps,r',hm=>by
  simp only[eY]at h;split at h
  ·rename_i m' h1;cases h;cases i with
   |zero=>simp at hm
   |succ i=>rw[gcS]at hm;exact jM h1 ho i f caps r' hm
  ·cases h
 |(.row t,rr)::l,r::rs,[],m,h,_,_,_,_,_,_=>by simp[eY]at h
 |(.row t,rr)::l,r::rs,⟨.int _,x⟩::d,m,h,_,_,_,_,_,_=>by simp[eY]at h
 |(.row t,rr)::l,r::rs,⟨.bool,x⟩::d,m,h,_,_,_,_,_,_=>by simp[eY]at h
 |(.row t,rr)::l,r::rs,⟨.str,x⟩::d,m,h,_,_,_,_,_,_=>by simp[eY]at h
 |(.row t,rr)::l,r::rs,⟨.rc _,x⟩::d,m,h,_,_,_,_,_,_=>by simp[eY]at h
 |(.no,_)::_,_::_,_,_,h,_,_,_,_,_,_=>by simp[eY]at h
theorem mD: ∀{l:List (Sh×Rts)} {rs:List Rts} {d:List (V U)} {m:List (BC U.D)},eY U l rs d=some m→∀(i:Nat),m[i]?=some .gone→False
 |l,rs,d,m,h,i,hm=>by
  unfold eY at h;split at h
  ·simp only[ojE]at h;subst h;simp at hm
  ·split at h
   ·rename_i m' h1;cases h;cases i with
    |zero=>simp at hm
    |succ i=>rw[gcS]at hm;exact mD h1 i hm
   ·cases h
  ·split at h
   ·rename_i m' h1;cases h;cases i with
    |zero=>simp at hm
    |succ i=>rw[gcS]at hm;exact mD h1 i hm
   ·cases h
  ·split at h
   ·rename_i m' h1;cases h;cases i with
    |zero=>simp at hm
    |succ i=>rw[gcS]at hm;exact mD h1 i hm
   ·cases h
  ·cases h
theorem aAb{n:Nat}: ∀{l:List PV},(∀x∈l,below n x=true)→eW n l=true
 |[],_=>rfl
 |x::l,h=>by
  show(below n x&&eW n l)=true;rw[h x (mhE ..),aAb fun y hy=>h y (mtE _ hy)];rfl
theorem below_wk{n:Nat}{x:PV}(h:gd (wk x)=true):below n x=true:=by
 cases x with
 |agg cs=>simp[wk,gd]at h
 |tup cs=>simp[wk,gd]at h
 |ptr i o=>simp[wk,gd]at h
 |rs i o l=>simp[wk,gd]at h
 |mp i=>simp[wk,gd]at h
 |fn f a b=>simp[wk,gd]at h
 |_=>rfl
theorem tZ{n:Nat}: ∀{caps:List Nat} {ps:List PV},aAJ c caps ps→(∀k e id,k∈caps→c k=some e→e.id=some id→id<n)→eW n ps=true
 |[],[],_,_=>rfl
 |k::ks,x::ps,⟨⟨e,id,h1,h2,h3⟩,h4⟩,hb=>by
  simp only[eW,tZ h4 (fun k' e id hk=>hb k' e id (mtE _ hk)),bnA]
  rw[h3];simp only[below,fP,djE];exact hb k e id (mhE ..) h1 h2
 |[],_::_,h,_=>h.elim
 |_::_,[],h,_=>h.elim
theorem rV{n:Nat}: ∀{l:List Nat},rW l n=true→∀k∈l,k<n
 |x::l,h,k,hk=>by
  simp only[rW,bjE,fP,djE]at h;rcases List.mem_cons.1 hk with rfl|hk
  ·exact h.1
  ·exact rV h.2 k hk
theorem aD8{c':Cx}: ∀{caps:List Nat} {ps:List PV},aAJ c caps ps→(∀k e,k∈caps→c k=some e→c' k=some e)→aAJ c' caps ps
 |[],[],_,_=>trivial
 |k::ks,x::ps,⟨⟨e,id,h1,h2,h3⟩,h4⟩,hb=>⟨⟨e,id,hb k e (mhE ..) h1,h2,h3⟩,aD8 h4 fun k' e hk=>hb k' e (mtE _ hk)⟩
 |[],_::_,h,_=>h.elim
 |_::_,[],h,_=>h.elim
theorem aG1{O:Orc}{s:Sig}{d:List (V U)}{args:List (PV×Bool)}{cc:Cx}{S0:TS U.D}{M0:TM U.D}(hok:okS O s=true)(hf:Nat.beq s.f O.n=true)(hin:aAA U s d p cc args S0 M0):
    s.bx=[]∧s.bo=[]∧s.rs=[.str]∧s.own=false∧∃a b o1 o2,d=[⟨.int .i64,a⟩,⟨.int .i64,b⟩]∧args=[(.v (.int .i64 a),o1),(.v (.int .i64 b),o2)]:=by
 obtain⟨f,ps,bx,bo,rs,own⟩:=s;unfold okS at hok;rw[hf,cdt]at hok;split at hok
 ·rename_i e1 e2 e3 e4 e5;simp only at e1 e2 e3 e4 e5;subst e1;subst e2;subst e3;subst e4;subst e5;refine⟨rfl,rfl,rfl,rfl,?_⟩;have hst:=hin.start;have hu: ∀(t:Ty) (x:Den U.D t) (l:List (V U)),unV U (.val (.int .i64)) (⟨t,x⟩::l)=bif t.beq (.int .i64)then some (.val ⟨t,x⟩,l)else none:=fun _ _ _=>rfl
  simp only[unT',cutOf,cutOf.psL,cutOf.bxL,unS]at hst
  match d,hst,hin with
  |[],hst,_=>cases hst
  |[⟨t,x⟩],hst,_=>
   rw[hu]at hst;cases h1:t.beq (.int .i64)with
   |false=>rw[h1]at hst;cases hst
   |true=>rw[h1]at hst;cases hst
  |⟨t,x⟩::⟨u,y⟩::r,hst,hin=>
   rw[hu]at hst;cases h1:t.beq (.int .i64)with
   |false=>rw[h1]at hst;cases hst
   |true=>
    rw[h1,cdt]at hst;simp only[hu]at hst;cases h2:u.beq (.int .i64)with
    |false=>rw[h2]at hst;cases hst
    |true=>
     have e1:=Ty.beq_eq h1;have e2:=Ty.beq_eq h2;subst e1;subst e2;rw[h2,cdt]at hst;cases r with
     |cons z r=>cases hst
     |nil=>
      simp only[unB,ojE,pjE]at hst;obtain⟨g1,g2⟩:=hst
      match args,hin.len,hin.args with
      |[(p1,o1),(p2,o2)],_,ha=>
       have a1:=(ha 0 _ rfl).1;have a2:=(ha 1 _ rfl).1;rw[←g1]at a1 a2;refine⟨x,y,o1,o2,rfl,?_⟩;have b1:p1= .v (.int .i64 x):=eJ a1;have b2:p2= .v (.int .i64 y):=eJ a2;rw[b1,b2]
 ·cases hok
theorem aDs{O:Orc}{s:Sig}{d:List (V U)}{args:List (PV×Bool)}{cc:Cx}{S0:TS U.D}{M0:TM U.D}(hok:okS O s=true)(hn:Nat.beq s.f O.n=false)(hf:Nat.beq s.f O.m=true)(hin:aAA U s d p cc args S0 M0):
    s.bx=[]∧s.bo=[]∧s.rs=[.bool]∧s.own=false∧d=[]∧args=[]:=by
 obtain⟨f,ps,bx,bo,rs,own⟩:=s;unfold okS at hok;rw[hn,cdf,hf,cdt]at hok;split at hok
 ·rename_i e1 e2 e3 e4 e5;simp only at e1 e2 e3 e4 e5;subst e1;subst e2;subst e3;subst e4;subst e5;refine⟨rfl,rfl,rfl,rfl,?_,?_⟩
  ·have hst:=hin.start;simp only[unT',cutOf,cutOf.psL,cutOf.bxL,unS]at hst;cases d with
   |nil=>rfl
   |cons x d=>simp only[unB]at hst;cases hst
  ·exact List.length_eq_zero_iff.1 hin.len
 ·cases hok
variable(hU:eX U)(hT:uH P U T)
include hU hT
omit hU hT in
theorem resV_tup{own:Bool}{a:List (V U)}(h: ∀v,a≠ [v]): ∃rs0,aFS U own a=(.tup a,rs0)∧(rs0=[]∨∃v b,a=[v,⟨.bool,b⟩]∧own=true∧b=true∧rs0=[(0,true)]):=by
 unfold aFS;split
 ·rename_i v;exact(h v rfl).elim
 ·rename_i v b;refine⟨_,rfl,?_⟩;cases own with
  |false=>exact .inl rfl
  |true=>
   cases b with
   |false=>exact .inl rfl
   |true=>exact .inr ⟨v,true,rfl,rfl,rfl,rfl⟩
 ·exact⟨[],rfl,.inl rfl⟩
theorem aCM{tc:lO U.D}{pc:eH}(ih:CallOK U T tc pc){L:Nat}{s:Sig}{code:TC}{rs:List ResultVar}(hb1:s.bx.length≤100)(hb2:aG6 s.bx.length s.bx=true){d out:List (V U)}
    (h:nN U (cutOf s) (fun S M=>dZ U T tc L code S M (finT U T s rs)) d=some out) {p:PSt} {cc:Cx} {args:List (PV×Bool)} {S0:TS U.D} {M0:TM U.D} (hin:aAA U s d p cc args S0 M0):
    ∃pv own p',aAP P pc L code.pc rs args p=some (pv,own,p')∧aJD U s out p cc pv own p':=by
 simp only[nN,hin.start]at h;have hst:=hin.start;unfold unT' at hst;split at hst
 ·rename_i Sa da hSa;split at hst
  ·rename_i Ma hMa;simp only[ojE,pjE]at hst;obtain⟨e1,e2⟩:=hst;subst e1;subst e2;have hcc: ∀k e,cc k=some e→k<s.bx.length:=fun k e hk=>by
    rcases Nat.lt_or_ge k s.bx.length with h|h
    ·exact h
    ·rw[hin.dom k h]at hk;cases hk
   have F0:frR U cc Sa (vZ args 0 .none):=by
    intro k;rw[aDZ];by_cases hk:k<args.length
    ·rw[if_pos ⟨Nat.zero_le _,by omega⟩,Nat.sub_zero,geG hk]
     exact hin.args k _ (geG hk)
    ·rw[if_neg (by omega)]
     have:mU Sa k=(.no,[]):=aF9 hSa k (by
      show bL k ((cutOf.psL s.ps 0).map (·.1))=false;rw[aDj];have:=hin.len;simp;omega)
     rw[this];exact⟨trivial,aE _ _⟩
   have M0':MR U p cc cc ⟨Ma,[]⟩ (st0 p):=by
    refine⟨fun k hk=>?_,fun k b hk=>?_,hin.lt,hin.inj,nlR _,fun k e h1 _=>h1,fun k e id h1 h2 h3=>?_,fun id _ _=>rfl,fun id hi=>(by cases hi),fun id hi=>(by cases hi)⟩
    ·have:=aGa hMa k hk;rw[show(cutOf s).bx=cutOf.bxL s.bx 0 from rfl,aEb]at this
     refine hin.dom k ?_;simp at this;omega
    ·obtain⟨e,h1,h2⟩:=hin.bx k b hk;exact⟨e,h1,oH h2 fun _ _=>rfl⟩
    ·have:=hcc k e h1;omega
   obtain⟨fl,c1,S1,M1,S1',p1,h1,h2,h3,h4,h5⟩:=execT_ok hU hT ih L code (List (V U)) (finT U T s rs) out Sa ⟨Ma,[]⟩ (vZ args 0 .none) (st0 p) cc F0 M0' h;have hfl:(∀id,fl≠ .exit id)∧∃a b,resT U T S1 M1 rs s.rs=some a∧outB U M1 s.bx s.bo 0=some b∧finO U S1 rs s.own s.rs a=true∧out=a++b:=by
    have key: ∀(r:Option (List (V U))),r=(match resT U T S1 M1 rs s.rs,outB U M1 s.bx s.bo 0 with|some a,some b=>bif finO U S1 rs s.own s.rs a then some (a++b)else none|_,_=>none)→r=some out→∃a b,resT U T S1 M1 rs s.rs=some a∧outB U M1 s.bx s.bo 0=some b∧finO U S1 rs s.own s.rs a=true∧out=a++b:=by
     intro r e1 e2;rw[e1]at e2;split at e2
     ·rename_i a b ha hb';cases hw:finO U S1 rs s.own s.rs a with
      |false=>rw[hw]at e2;cases e2
      |true=>rw[hw]at e2;cases e2;exact⟨a,b,ha,hb',hw,rfl⟩
     ·cases e2
    cases fl with
    |exit id=>cases h1
    |normal=>exact⟨fun _ e=>(by cases e),key _ rfl h1⟩
    |ret=>exact⟨fun _ e=>(by cases e),key _ rfl h1⟩
   obtain⟨hne,a,b,ha,hb',hw,rfl⟩:=hfl;obtain⟨vs,r1,r2,r3,r4,r5,r6⟩:=aAU hU hT h3 h4 ha;obtain⟨m,o1,o2⟩:=aAY h4 hb';simp only[Nat.zero_add]at o2;have hal:a.length=s.rs.length:=by rw[←r3,List.length_map]
   have htake:(a++b).take s.rs.length=a:=by rw[←hal];exact List.take_left
   have hdrop:(a++b).drop s.rs.length=b:=by rw[←hal];exact List.drop_left
   have hres:slR U cc (aFS U s.own a) ((bF vs).1,(bF vs).2)∧below p.next (bF vs).1=true:=by
    have hlen:vs.length=a.length:=by have:=congrArg List.length r2;simpa using this
    have htup:(∀v,a≠ [v])→(slR U cc (aFS U s.own a) ((bF vs).1,(bF vs).2)∧below p.next (bF vs).1=true):=by
     intro hn1;obtain⟨rs0,e1,hrs0⟩:=resV_tup (own:=s.own) hn1;have e2: ∃fg,bF vs=(.tup (wks (vs.map (·.1))),fg)∧∀w w' l,vs=w::w'::l→fg=((w.2||gJ w.1)&& !isE w.1&&isSlN w.1):=by
      cases vs with
      |nil=>exact⟨false,rfl,fun _ _ _ h=>by cases h⟩
      |cons w vs=>cases vs with
       |cons w' vs=>exact⟨_,rfl,fun _ _ _ h=>by cases h;rfl⟩
       |nil=>
        cases a with
        |nil=>simp at hlen
        |cons x a=>cases a with
         |nil=>exact(hn1 x rfl).elim
         |cons y a=>simp at hlen
     obtain⟨fg,e2,hfg⟩:=e2;have e3:wks (vs.map (·.1))=a.map fun v=>enV U v.t v.x:=by rw[fY,List.map_map];exact r2
     rw[e1,e2];refine⟨⟨⟨_,rfl,e3⟩,?_⟩,?_⟩
     ·rcases hrs0 with rfl|⟨v,b,rfl,ho,rfl,rfl⟩
      ·exact aE _ _
      ·
       obtain⟨w,w',rfl⟩: ∃w w',vs=[w,w']:=by
        match vs,hlen with
        |[w,w'],_=>exact⟨w,w',rfl⟩
       have hF:ownF U S1 rs=true:=by
        cases hf:ownF U S1 rs with
        |true=>rfl
        |false=>simp[finO,ho,hf,nay]at hw
       have hts:slB s.rs=true:=by
        simp only[finO,ho,hF,cdt,Bool.or_eq_true,bjE]at hw;rcases hw with⟨h6,_⟩|h6
        ·rw[←r3]at h6;exact absurd (show aG3 [v.t,Ty.bool]=true from h6) (by simp[aG3])
        ·exact h6
       obtain⟨t,rs',hrs,hst⟩: ∃t rs',rs= .tmp t::rs'∧kQ (mU S1 t).2=true:=by
        unfold ownF at hF;split at hF
        ·exact⟨_,_,rfl,hF⟩
        ·cases hF
       obtain⟨hwt,hvr⟩:=r6 t rs' w [w'] v _ hrs rfl rfl;have hsl: ∃e,v.t= .sl e:=by
        rw[←r3]at hts;cases hvt:v.t with
        |sl e=>exact⟨e,rfl⟩
        |_=>rw[mpC,hvt]at hts;cases hts
       obtain⟨e,hsl⟩:=hsl;have hna:=gU hvr (by rw[hsl];rfl)
       have hN:isSlN w.1=true:=by
        obtain⟨vt,vx⟩:=v;have hsl:vt= .sl e:=hsl;subst hsl;obtain⟨_,hl⟩:=pB hvr;rcases hl with⟨_,h8⟩|⟨_,h8⟩
        ·rcases h8 with h8|h8|h8<;>rw[h8]<;>rfl
        ·rw[h8];rfl
       have hfg:=hfg w w' [] rfl;rcases(h3 t).2 0 true (jY hst)with⟨g1,_⟩|⟨_,_,g1,g2⟩
       ·rw[←hwt,hna]at g1;cases g1
       ·rw[←hwt]at g1 g2;have hfg1:fg=true:=by rw[hfg,g1,g2 rfl,hN];rfl
        intro o st hi;simp only[List.mem_singleton,pjE]at hi;refine .inr ⟨hi.1,rfl,by rw[hfg1];rfl,fun _=>?_⟩
        rw[e3];show isE (.tup (enV U v.t v.x::_))=false;have hg:gd (enV U v.t v.x)=true:=by
         obtain⟨vt,vx⟩:=v;have hsl:vt= .sl e:=hsl;subst hsl;exact bR _ _
        have:=tO hg;rw[isE_tup];generalize enV U v.t v.x=y at this;cases y with
        |sl z es=>cases es with
         |nil=>cases this
         |cons _ _=>rfl
        |_=>rfl
     show eW p.next _=true
     rw[e3,bU];intro x hx;obtain⟨v,_,rfl⟩:=List.mem_map.1 hx;exact aD2 hU _ _ _
    cases a with
    |nil=>exact htup fun v e=>by cases e
    |cons v a=>
     cases a with
     |cons y a=>exact htup fun v e=>by cases e
     |nil=>
      cases vs with
      |nil=>simp at hlen
      |cons w vs=>
       cases vs with
       |cons y vs=>simp at hlen
       |nil=>
        have hv:=r5 v w rfl rfl;refine⟨⟨VR_wk hU hv,?_⟩,?_⟩
        ·cases ho:s.own with
         |false=>exact aE _ _
         |true=>
          have hB:slB s.rs=false:=by rw[←r3];cases hvt:v.t<;>simp[slB,hvt]
          have hw1:ownT U S1 rs=true∧aG3 s.rs=true:=by
           cases hf:ownF U S1 rs with
           |true=>
            simp only[finO,ho,hf,cdt,hB,Bool.or_false,bjE]at hw;exact⟨hw.2,hw.1⟩
           |false=>simp[finO,ho,hf,hB]at hw
          obtain⟨hw1,hw2⟩:=hw1;have hrs: ∃t,rs=[.tmp t]∧kQ (mU S1 t).2=true:=by
           unfold ownT at hw1;split at hw1
           ·exact⟨_,rfl,hw1⟩
           ·cases hw1
          obtain⟨t,rfl,hst2⟩:=hrs;have hwt:=r4 t w rfl rfl;have hsl:mT v.t=false:=by
           have hw3:aG3 [v.t]=true:=by rw[←r3]at hw2;exact hw2
           cases hvt:v.t with
           |sl t=>rfl
           |_=>rw[hvt]at hw3;cases hw3
          have hna:=gU hv hsl;rcases(h3 t).2 0 true (jY hst2)with⟨g1,_⟩|⟨_,_,g1,g2⟩
          ·rw[←hwt,hna]at g1;cases g1
          ·rw[←hwt]at g1 g2;intro o st hi;have hi:(o,st)∈ownR true:=hi;simp only[ownR,List.mem_singleton,pjE]at hi;refine .inr ⟨hi.1,?_,?_,fun _=>?_⟩
           ·show isAgg (wk w.1)=false;rw[hv.wk,←hv.wk];cases hh:w.1 with
            |agg cs=>rw[hh]at hna;cases hna
            |sl z es=>cases es<;>rfl
            |_=>rfl
           ·show(((w.2||gJ w.1)&& !isE w.1)||gJ (wk w.1))=true;rw[g1,g2 rfl];rfl
           ·exact isE_wk w.1
        ·show below p.next (wk w.1)=true
         rw[hv.wk];exact aD2 hU _ _ _
   obtain⟨hslr,hbel⟩:=hres;have hmlen:m.length=s.bx.length:=mC o1;have hold: ∀id,id∈(p1.dirty.filter fun id=>Nat.blt id p.next)↔id∈p1.dirty∧id<p.next:=fun id=>by
    rw[List.mem_filter];simp only[fP,djE]
   have hidx: ∀k e id,cc k=some e→e.id=some id→∃x,m[k]?=some x∧c1 k=some e∧bcR U c1 p1 e x:=by
    intro k e id hk hid;have hlt:=hcc k e hk;obtain⟨e',g1,g2⟩:=o2 k m[k] (geG (by omega))
    have:=h4.bor k e' g1 (by omega)
    rw[hk]at this;cases this;exact⟨_,geG (by omega),g1,g2⟩
   have hpget: ∀id,id<p.next→p1.get id=p1.mem.get id:=fun id hi=>by
    have:Nat.blt id p1.next=true:=by rw[fP,djE];exact Nat.lt_of_lt_of_le hi h5
    simp only[PSt.get,this,cdt]
   have hback:(p1.dirty.filter fun id=>Nat.blt id p.next).all (oV p.next p1.mem)=true:=by
    rw[List.all_eq_true];intro id hi;obtain⟨hd,hlt⟩:=(hold id).1 hi;obtain⟨k,e,g1,g2⟩:=h4.dirty id hd hlt;obtain⟨x,g3,g4,g5⟩:=hidx k e id g1 g2;cases x with
    |gone=>exact(mD o1 k g3).elim
    |row t l=>
     obtain⟨_,hz,⟨g6,_⟩|⟨id',g6,g7⟩⟩:=g5
     ·rw[g2]at g6;cases g6
     rw[g2]at g6;cases g6;rw[hpget id hlt]at g7;simp only[oV,g7,mO];exact aAb fun y hy=>by
      obtain⟨y',hy',hx⟩:=List.mem_flatMap.1 hy;obtain⟨a,_,rfl⟩:=List.mem_map.1 hy';exact vW (List.all_eq_true.1 (pN hU t a) y hx)
    |bx sv rr=>
    obtain⟨id',cs,g6,g7,g8,_⟩:=g5;rw[g2]at g6;cases g6;have g5:=g7;have g6:=g8;rw[hpget id hlt]at g5;simp only[oV,g5,mO,List.all_eq_true];intro y hy;cases sv with
    |val v=>
     obtain⟨k1,k2,k3⟩:=g6;exact below_wk ((⟨k1,k2⟩:SR v.t v.x (cs.map (·.1))).gd hU (List.mem_map.2 ⟨y,hy,rfl⟩))
    |cl f caps=>
     obtain⟨pv,bb,e1,ps,e2,e3⟩:=g6;rw[e1,List.mem_singleton]at hy;rw[hy,e2];show(eW p.next []&&eW p.next ps)=true
     rw[tZ e3 fun k' e' id' hk' h6 h7=>hin.lt k' e' id' (h4.bor k' e' h6 (by have:=rV (jM o1 hb2 k f caps rr g3) k' hk';omega)) h7]
     rfl
    |nf=>
     obtain⟨bb,e1⟩:=g6;rw[e1,List.mem_singleton]at hy;rw[hy];rfl
    |_=>exact g6.elim
   have hset:PI.settle p (bF vs).1 p1=⟨(p1.dirty.filter fun id=>Nat.blt id p.next).foldr (back p1.mem) p.mem,p.next,(p1.dirty.filter fun id=>Nat.blt id p.next).foldr ins p.dirty,(p1.wr.filter fun id=>Nat.blt id p.next).foldr ins p.wr⟩:=by
    unfold PI.settle;rw[hbel,hback];rfl
   have hfm:=rA (mem:=p.mem) (q:=p1.mem) (old:=p1.dirty.filter fun id=>Nat.blt id p.next) (fun id hi e=>by
    have:=List.all_eq_true.1 hback id hi;simp only[oV,e]at this;cases this)
   have hget: ∀id,id<p.next→(PI.settle p (bF vs).1 p1).get id=if id∈(p1.dirty.filter fun id=>Nat.blt id p.next)then p1.get id else p.get id:=by
    intro id hi;rw[hset];have hbl:Nat.blt id p.next=true:=by rw[fP,djE];exact hi
    show(bif Nat.blt id p.next then _ else none)=_
    rw[hbl,cdt,hfm id,hpget id hi];by_cases h6:id∈(p1.dirty.filter fun id=>Nat.blt id p.next)
    ·rw[if_pos h6,if_pos h6]
    ·rw[if_neg h6,if_neg h6];simp only[PSt.get,hbl,cdt]
   have hgetb: ∀id,id<p.next→(PI.settle p (bF vs).1 p1).get id=p1.get id:=by
    intro id hi;rw[hget id hi];by_cases h6:id∈(p1.dirty.filter fun id=>Nat.blt id p.next)
    ·rw[if_pos h6]
    ·rw[if_neg h6];exact(h4.old id hi fun hd=>h6 ((hold id).2 ⟨hd,hi⟩)).symm
   refine⟨(bF vs).1,(bF vs).2,PI.settle p (bF vs).1 p1,?_,?_⟩
   ·have:aAP P pc L code.pc rs args p=some ((bF vs).1,(bF vs).2,PI.settle p (bF vs).1 p1):=by
     simp only[aAP,h2];cases fl with
     |exit id=>exact(hne id rfl).elim
     |normal=>simp only[r1]
     |ret=>simp only[r1]
    exact this
   ·refine⟨by rw[htake];exact hslr,⟨m,by rw[hdrop];exact o1,fun j x hj=>?_⟩,by rw[hset],fun id hi hno=>?_,fun id hi hno=>?_,fun id hi=>?_,fun id hi=>?_,fun id hi=>?_⟩
    ·obtain⟨e,g1,g2⟩:=o2 j x hj;have hjl:j<m.length:=by
      rcases Nat.lt_or_ge j m.length with h|h
      ·exact h
      ·rw[List.getElem?_eq_none h]at hj;cases hj
     have hcj:=h4.bor j e g1 (by omega)
     refine⟨e,hcj,?_⟩;cases x with
     |gone=>trivial
     |row t l=>
      obtain⟨k1,k2,k3⟩:=g2;refine⟨k1,k2,?_⟩;rcases k3 with k3|⟨id,k3,k4⟩
      ·exact .inl k3
      ·exact .inr ⟨id,k3,by rw[hgetb id (hin.lt j e id hcj k3)];exact k4⟩
     |bx sv rr=>
     obtain⟨id,cs,g2,g3,g4,g5⟩:=g2;refine⟨id,cs,g2,by rw[hgetb id (hin.lt j e id hcj g2)];exact g3,?_,g5⟩
     cases sv with
     |cl f caps=>
      obtain⟨pv,bb,e1,ps,e2,e3⟩:=g4;exact⟨pv,bb,e1,ps,e2,aD8 e3 fun k' e' hk' h6=>h4.bor k' e' h6 (by have:=rV (jM o1 hb2 j f caps rr hj) k' hk';omega)⟩
     |_=>exact g4
    ·rw[hget id hi,if_neg];intro h6;obtain⟨hd,hlt⟩:=(hold id).1 h6;obtain⟨k,e,g1,g2⟩:=h4.dirty id hd hlt;exact hno k e g1 g2
    ·rw[hset]at hno;have hno:id∉(p1.dirty.filter fun id=>Nat.blt id p.next).foldr ins p.dirty:=hno
     rw[bS]at hno;rw[hget id hi,if_neg fun h6=>hno (.inl h6)]
    ·rw[hset]at hi;have hi:id∈(p1.dirty.filter fun id=>Nat.blt id p.next).foldr ins p.dirty:=hi
     rw[bS]at hi;rcases hi with h6|h6
     ·obtain⟨hd,hlt⟩:=(hold id).1 h6;exact .inr (h4.dirty id hd hlt)
     ·exact .inl h6
    ·rw[hset];show id∈(p1.dirty.filter fun id=>Nat.blt id p.next).foldr ins p.dirty
     rw[bS];exact .inr hi
    ·rw[hset]at hi;have hi:id∈(p1.wr.filter fun id=>Nat.blt id p.next).foldr ins p.wr:=hi
     rw[bS]at hi;rcases hi with h6|h6
     ·rw[List.mem_filter,fP,djE]at h6;exact .inr ((h4.wr id h6.1).2 h6.2)
     ·exact .inl h6
  ·cases hst
 ·cases hst
theorem aEa{G:TTab}{GP:PTab}(hG: ∀i s code rs,T.sig i=some s→G i=some (code,rs)→GP s.f=some (code.pc,rs))(hA: ∀i s,T.sig i=some s→aCp P s.f s.ps.length=true)(L:Nat): ∀n,CallOK U T (zY U T G L n) (jT P T.orc GP L n):=by
 intro n;induction n with
 |zero=>intro inst s d out hs h;cases h
 |succ n ih=>
  intro inst s d out hs h p cc args S0 M0 hin;simp only[zY,hs]at h;split at h
  ·rename_i s' code rs hs' hg;cases hs';cases hb:okS T.orc s&&Nat.ble s.bx.length 100&&aG6 s.bx.length s.bx with
   |false=>rw[hb]at h;cases h
   |true=>
    rw[hb]at h;simp only[bjE,Nat.ble_eq]at hb;obtain⟨⟨hb0,hb1⟩,hb2⟩:=hb;rw[cdt]at h;split at h
    ·rename_i x hx;simp only[ojE]at h;subst h;unfold orT at hx;cases hf:Nat.beq s.f T.orc.n with
     |false=>
      rw[hf,cdf]at hx;cases hm:Nat.beq s.f T.orc.m with
      |false=>rw[hm]at hx;cases hx
      |true=>
       obtain⟨k1,k2,k3,k4,rfl,rfl⟩:=aDs hb0 hf hm hin;rw[hm,cdt]at hx;cases hx;refine⟨.v (.bool true),false,p,?_,?_⟩
       ·simp only[jT,orP,hf,hm,cdt,cdf,ovP]
       ·refine⟨?_,⟨[],?_,fun j x hj=>(by cases hj)⟩,rfl,fun _ _ _=>rfl,fun _ _ _=>rfl,fun id h=> .inl h,fun id h=>h,fun id h=> .inl h⟩
        ·rw[k3,k4];exact⟨bX _,aE _ _⟩
        ·rw[k3,k1,k2];rfl
     |true=>
      obtain⟨k1,k2,k3,k4,a,b,o1,o2,rfl,rfl⟩:=aG1 hb0 hf hin;rw[hf,cdt]at hx;simp only at hx;rw[mjE]at hx;obtain⟨x,hx,rfl⟩:=hx;refine⟨.str x,false,p,?_,?_⟩
      ·simp only[jT,orP,hf,cdt,hx,omS,ovP]
      ·refine⟨?_,⟨[],?_,fun j x hj=>(by cases hj)⟩,rfl,fun _ _ _=>rfl,fun _ _ _=>rfl,fun id h=> .inl h,fun id h=>h,fun id h=> .inl h⟩
       ·rw[k3,k4];exact⟨aAk _,aE _ _⟩
       ·rw[k3,k1,k2];rfl
    rename_i hnone;have hno:orP T.orc s.f args=none∧gdP T.orc s.f args=true:=by
     unfold orP gdP;cases hf:Nat.beq s.f T.orc.n with
     |false=>
      cases hm:Nat.beq s.f T.orc.m with
      |false=>exact⟨rfl,rfl⟩
      |true=>
       obtain⟨k1,k2,k3,k4,rfl,rfl⟩:=aDs hb0 hf hm hin;unfold orT at hnone;rw[hf,cdf,hm,cdt]at hnone;cases hnone
     |true=>
      obtain⟨k1,k2,k3,k4,a,b,o1,o2,rfl,rfl⟩:=aG1 hb0 hf hin;unfold orT at hnone;rw[hf,cdt]at hnone;exact⟨hnone,rfl⟩
    have har:aCp P s.f args.length=true:=by rw[hin.len];exact hA _ _ hs
    have hGP:=hG inst s code rs hs hg;obtain⟨pv,own,p',g1,g2⟩:=aCM hU hT ih hb1 hb2 h hin;exact⟨pv,own,p',by simp only[jT,hno.1,hno.2,har,bnT,Bool.or_self,cdf,hGP,g1],g2⟩
  ·cases h
end
end Go.TV
